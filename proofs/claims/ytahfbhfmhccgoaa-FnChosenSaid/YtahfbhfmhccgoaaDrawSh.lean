/- The drawn shares and flags: some list of at most eight shares, some list of at most five flags. -/
import Derived.Test.YtahfbhfmhccgoaaShare
import Derived.Test.YtahfbhfmhccgoaaEyes
import Derived.Test.YtahfbhfmhccgoaaDrawSw
import Derived.Test.YtahfbhfmhccgoaaNest
set_option linter.unusedSimpArgs false
set_option linter.unusedVariables false
namespace Go.Proofs.Ytahfbhfmhccgoaa
open Go.RowKit Go.ChangeShapes Go.WideShapes Go.ChangeAt Go.Joins Go.Deep
open Go.ChangeMaps (open_string shut_string)
theorem IsStructs.kept {α : Type} {f : α → List Value} {sz : Nat} {w w' : World} {a : Option Addr} {n c : Nat} {xs : List α} {row : Option Nat} (h : IsStructs f sz w a n c xs) (hg : w.grownBy w' row) (hd : ∀ x, a = some x → some x.block ≠ row) : IsStructs f sz w' a n c xs :=
  ⟨h.1, h.2.1, h.2.2.1, h.2.2.2.kept hg hd⟩
/-- Some shares in new memory of the call's own; the cursor goes on. -/
def DrewSh (w0 : World) (a : Option Addr) (n c b : Nat) (w : World) (e : Ending) (w' : World) : Prop :=
  ∃ (a' : Option Addr) (m c' : Nat) (es : List Sh), 1 ≤ m ∧ m ≤ 4 ∧ e = .returned (.slice a' m c') ∧ w'.ownsRow w.heap.size 112 2 (.slice a' m c') m (es.flatMap shF) ∧ es.length = m ∧ Cur w0 a n c b w' ∧ w.grownBy w' (some b)
set_option maxRecDepth 100000 in
set_option maxHeartbeats 1000000 in
theorem spec_l21Shares (w0 : World) (a : Option Addr) (n c b : Nat) (bs : List Int) (w : World) (ha : IsInts .u8 w0 a n c bs) (hs : n ≤ 1048576) (hC0 : Cur w0 a n c b w) :
    Calls Try.prog 118 #[.pointer (some ⟨b, 0, none⟩)] w (DrewSh w0 a n c b w) := by
  obtain ⟨i0_Sh, hi_Sh, hz0_Sh, hz1_Sh, hz2_Sh⟩ := info_parts info_Sh
  have HA := hide ha
  clear ha
  have hlb := hC0.lt
  have hwb : w0.heap.size ≤ b := by obtain ⟨_, _, _, _, _, h⟩ := hC0; exact h
  go_enter Try.func118, Try.ntmps118
  go_wp2_with fail
  go_loopw [3, 4] (fun v i wr => ∃ (k : Nat) (a' : Option Addr) (c' : Nat) (es : List Sh), k ≤ 4 ∧ i = .int .i64 k ∧ v = .slice a' k c' ∧ wr.ownsRow w.heap.size 112 2 (.slice a' k c') k (es.flatMap shF) ∧ es.length = k ∧ Cur w0 a n c b wr ∧ w.grownBy wr (some b) ∧ w.heap.size ≤ wr.heap.size) (fun _ i _ => 4 - (intOf i).toNat)
  case atStart => exact ⟨0, _, _, [], by omega, rfl, rfl, own_made_at rfl (by simp), rfl, hC0.alloc _, only_alloc (only_refl _ _) _, by simp⟩
  case round =>
    obtain ⟨k, a', c', es, hk, rfl, rfl, hown, hel, hC, hG, hsz⟩ := hrel
    have HO := hide hown; have HL := hide hel
    clear hown hel
    go_wp2_with fail
    refine (spec_l01Below _ a n c b bs _ 4 HA.out hs (by omega) hC).mono ?_
    rintro e y1 ⟨x, hx0, hx1, rfl, hCy, hgy⟩
    have HOy := hide (HO.out.kept hgy (own_ne HO.out (by omega)))
    have hsy := hgy.size
    have hGy := only_trans hG hgy
    clear HO hC hG
    by_cases hlt : (k : Int) ≤ x
    · go_wp2_with fail
      refine (spec_l01Below _ a n c b bs _ 4 HA.out hs (by omega) hCy).mono ?_
      rintro e z1 ⟨z, hz0, hz1, rfl, hCz, hgz⟩
      have HOz := hide (HOy.out.kept hgz (own_ne HOy.out (by omega)))
      have hsz1 := hgz.size
      have hGz := only_trans hGy hgz
      clear HOy hCy hGy
      go_wp2_with fail
      refine (spec_l01Below _ a n c b bs _ (1 + z + 1) HA.out hs (by omega) hCz).mono ?_
      rintro e u1 ⟨u, hu0, hu1, rfl, hCu, hgu⟩
      have HOu := hide (HOz.out.kept hgu (own_ne HOz.out (by omega)))
      have hsu1 := hgu.size
      have hGu := only_trans hGz hgu
      clear HOz hCz hGz
      have hBu : Below w0.heap.size w0 u1 := cur_below hCu (Below.refl _ _) (Nat.le_refl _)
      have HCu := hide hCu; clear hCu
      go_wp2_with (at_builtin; refine wpList_append_own _ rfl _ _ 30 rfl w.heap.size 112 i0_Sh (.agg #[.int .i64 0, .int .i64 0]) 2 16 Try.underlying30 hi_Sh hz0_Sh hz1_Sh hz2_Sh rfl (by decide) _ _ _ rfl (HOu.out.alloc _) ⟨u1.heap.size, 0, none⟩ 1 1 [.int .i64 (1 + z), .int .i64 u] rfl rfl ?c1p ?c2p ?c3p ?c4p ?c5p ?_)
      (try case c1p => exact news_at_of _ _ _ (by go_size))
      (try case c2p => first | exact List.all_eq_true.1 rfl | rfl)
      (try case c3p => (unfold maxLen; omega))
      (try case c4p => omega)
      (try case c5p => (first | go_size | (simp; omega)))
      intro v' wp hownp hgp _
      obtain ⟨ap, cp, rfl⟩ := own_shape hownp
      obtain ⟨hBp, hsp⟩ := below_app hBu HOu.out (by omega) (by omega) hgp
      have HGp := hide hgp; clear hgp
      have hCp := HCu.out.app HOu.out (by omega) HGp.out
      have hGp := only_grow_own (only_alloc hGu (.cells #[.int .i64 (1 + z), .int .i64 u] 112)) HGp.out (fun q hq => (HOu.out.lt q hq).1)
      go_wp2
      go_roundw
      case rel => exact ⟨k + 1, _, _, es ++ [⟨1 + z, u⟩], by omega, by go_num, rfl, by simpa [shF] using hownp, by simp [HL.out], hCp, hGp, by omega⟩
      case measure => simp [intOf]; omega
    · go_wp2_with fail
      refine (spec_l01Once _ a n c b bs _ 3 HA.out hs (by omega) hCy).mono ?_
      rintro e z1 ⟨z, rfl, hCz, hgz⟩
      have HOz := hide (HOy.out.kept hgz (own_ne HOy.out (by omega)))
      have hsz1 := hgz.size
      have hGz := only_trans hGy hgz
      clear HOy hCy hGy
      cases z
      · go_wp2_with fail
        go_ret
        exact ⟨_, k, _, es, by omega, hk, rfl, HOz.out, HL.out, hCz, hGz⟩
      · obtain ⟨g, rfl, hg0, hg1, _⟩ := own_some HOz.out (by omega)
        have hgb : ¬ g = b := by omega
        go_wp2_with fail
        obtain ⟨z2, rfl⟩ : ∃ W : World, W = z1 := ⟨_, rfl⟩
        go_loopw [6] (fun i wr => ∃ (j : Nat) (fs : List Sh), j ≤ k ∧ i = .int .i64 j ∧ wr.ownsRow w.heap.size 112 2 (.slice (some ⟨g, 0, none⟩) k c') k (fs.flatMap shF) ∧ fs.length = k ∧ Cur w0 a n c b wr ∧ w.grownBy wr (some b)) (fun i _ => k - (intOf i).toNat)
        case atStart => exact ⟨0, es, by omega, rfl, HOz.out, HL.out, hCz, hGz⟩
        case round =>
          obtain ⟨j, fs, hj, rfl, hown, hfl, hC, hG⟩ := hrel
          by_cases hjk : j < k
          · obtain ⟨f, hf⟩ : ∃ f, fs[j]? = some f := ⟨_, List.getElem?_eq_getElem (by omega)⟩
            have k0 : wr.cell? ⟨g, j * 2, none⟩ = some (.int .i64 f.weight) := (hown.cellAt (j * 2 + 0) (by omega)).trans (flat_at shF_len _ j 0 f _ hf rfl)
            have k1 : wr.cell? ⟨g, j * 2 + 1, none⟩ = some (.int .i64 f.credit) := (hown.cellAt (j * 2 + 1) (by omega)).trans (flat_at shF_len _ j 1 f _ hf rfl)
            have kf := fun j => hown.frozenAt j
            have i0 : (0 : Int) ≤ (j : Int) := by omega
            have i1 : (j : Int) < (k : Int) := by omega
            have HF := hide hf; have HO := hide hown; have HFL := hide hfl; have HC := hide hC; have HG := hide hG
            clear hf hown hfl hC hG
            go_wp2_with fail
            go_roundw
            case rel =>
              refine ⟨j + 1, fs.set j ⟨f.weight, 0⟩, by omega, by go_num, ?_, by rw [List.length_set]; exact HFL.out, HC.out.set (by omega) _, only_setCell HG.out (.inr hg0) _⟩
              have hst := (HO.out.stored (j * 2 + 1) (.int .i64 0)).1
              rw [flat_set shF_len _ j 1 f ⟨f.weight, 0⟩ _ HF.out rfl (by omega)] at hst
              exact hst
            case measure => simp [intOf]; omega
          · go_wp2_with fail
            go_ret
            exact ⟨_, k, _, fs, by omega, hk, rfl, hown, hfl, hC, hG⟩
/-- Some readable shares, apart from the cursor. -/
def DrewShs (w0 : World) (a : Option Addr) (n c b : Nat) (w : World) (e : Ending) (w' : World) : Prop :=
  ∃ (a' : Option Addr) (m c' : Nat) (es : List Sh), m ≤ 8 ∧ e = .returned (.slice a' m c') ∧ IsStructs shF 2 w' a' m c' es ∧ (∀ x, a' = some x → w.heap.size ≤ x.block) ∧ Cur w0 a n c b w' ∧ w.grownBy w' (some b)
set_option maxRecDepth 100000 in
set_option maxHeartbeats 1000000 in
theorem spec_l21Any (w0 : World) (a : Option Addr) (n c b : Nat) (bs : List Int) (w : World) (ha : IsInts .u8 w0 a n c bs) (hs : n ≤ 1048576) (hC0 : Cur w0 a n c b w) :
    Calls Try.prog 69 #[.pointer (some ⟨b, 0, none⟩)] w (DrewShs w0 a n c b w) := by
  obtain ⟨i0_Sh, hi_Sh, hz0_Sh, hz1_Sh, hz2_Sh⟩ := info_parts info_Sh
  have HA := hide ha
  clear ha
  have hlb := hC0.lt
  have hwb : w0.heap.size ≤ b := by obtain ⟨_, _, _, _, _, h⟩ := hC0; exact h
  go_enter Try.func69, Try.ntmps69
  go_wp2_with fail
  refine (spec_l21Shares _ a n c b bs _ HA.out hs hC0).mono ?_
  rintro e w1 ⟨a1, m, c1, es, hm1, hm4, rfl, hown, hel, hC1, hG1⟩
  have HO1 := hide hown; have HL := hide hel
  have hs1 := hG1.size
  have hcc := own_caps hown
  have hcc1 := hcc.1; have hcc2 : c1 ≤ 9223372036854775807 := hcc.2
  clear hown hel hcc
  go_wp2_with fail
  refine (spec_l01Below _ a n c b bs _ 12 HA.out hs (by omega) hC1).mono ?_
  rintro e w2 ⟨y, y0, y1, rfl, hC2, hg2⟩
  have HO2 := hide (HO1.out.kept hg2 (own_ne HO1.out (by omega)))
  have hs2 := hg2.size
  have hG2 := only_trans hG1 hg2
  clear HO1 hC1 hG1 hg2
  obtain ⟨g, rfl, hg0, hg1, _⟩ := own_some HO2.out (by omega)
  have hgb : ¬ g = b := by omega
  have hg9 : ∀ z : Nat, w.heap.size ≤ g := fun _ => hg0
  have HR : Hid (∀ x : Addr, some (⟨g, 0, none⟩ : Addr) = some x → w.heap.size ≤ x.block) := fun x hx => by injection hx with hx; rw [← hx]; exact hg0
  clear hg9
  obtain ⟨f, hf⟩ : ∃ f, es[0]? = some f := ⟨_, List.getElem?_eq_getElem (by rw [HL.out]; omega)⟩
  have HF := hide hf
  clear hf
  by_cases h0 : y = 0
  · subst h0
    go_wp2_with fail
    refine (spec_l01PickInt w0 a n c b bs (w2.alloc (.cells #[.int .i64 0, .int .i64 9, .int .i64 10] 3)) (some ⟨w2.heap.size, 0, none⟩) 3 3 [0, 9, 10] HA.out hs (hC2.alloc _) (ints_lit _ _ _ 3 _ rfl rfl (by omega) (by simp; try omega)) (by omega) (by intro g o hg; injection hg with hg; injection hg with hg; omega)).mono ?_
    rintro e w3 ⟨z, hz, rfl, hC3, hg3⟩
    have HO3 := hide ((HO2.out.alloc _).kept hg3 (own_ne HO2.out (by omega)))
    have hs3 := hg3.size
    simp only [World.size_alloc] at hs3
    have hG3 := only_trans (only_alloc hG2 _) hg3
    have k0 : w3.cell? ⟨g, 0, none⟩ = some (.int .i64 f.weight) := (HO3.out.cellAt (0 * 2 + 0) (by omega)).trans (flat_at shF_len _ 0 0 f _ HF.out rfl)
    have kf := fun j => HO3.out.frozenAt j
    have i1 : (0 : Int) < (m : Int) := by omega
    have HC3 := hide hC3; have HG3 := hide hG3
    clear hC3 hG3 hC2 hG2 HO2
    go_wp2_with fail
    go_ret
    have hst := (HO3.out.stored (0 * 2 + 0) (.int .i64 z)).1
    rw [flat_set shF_len _ 0 0 f ⟨z, f.credit⟩ _ HF.out rfl (by omega)] at hst
    exact ⟨_, m, _, es.set 0 ⟨z, f.credit⟩, by omega, rfl, isStructs_own shF_len (by omega) hst, HR.out, HC3.out.set (by omega) _, only_setCell HG3.out (.inr hg0) _⟩
  · by_cases h1 : y = 1
    · subst h1
      go_wp2_with fail
      refine (spec_l01PickInt w0 a n c b bs (w2.alloc (.cells #[.int .i64 (-1), .int .i64 5, .int .i64 9] 3)) (some ⟨w2.heap.size, 0, none⟩) 3 3 [-1, 5, 9] HA.out hs (hC2.alloc _) (ints_lit _ _ _ 3 _ rfl rfl (by omega) (by simp; try omega)) (by omega) (by intro g o hg; injection hg with hg; injection hg with hg; omega)).mono ?_
      rintro e w3 ⟨z, hz, rfl, hC3, hg3⟩
      have HO3 := hide ((HO2.out.alloc _).kept hg3 (own_ne HO2.out (by omega)))
      have hs3 := hg3.size
      simp only [World.size_alloc] at hs3
      have hG3 := only_trans (only_alloc hG2 _) hg3
      have k1 : w3.cell? ⟨g, 1, none⟩ = some (.int .i64 f.credit) := (HO3.out.cellAt (0 * 2 + 1) (by omega)).trans (flat_at shF_len _ 0 1 f _ HF.out rfl)
      have kf := fun j => HO3.out.frozenAt j
      have i1 : (0 : Int) < (m : Int) := by omega
      have HC3 := hide hC3; have HG3 := hide hG3
      clear hC3 hG3 hC2 hG2 HO2
      go_wp2_with fail
      go_ret
      have hst := (HO3.out.stored (0 * 2 + 1) (.int .i64 z)).1
      rw [flat_set shF_len _ 0 1 f ⟨f.weight, z⟩ _ HF.out rfl (by omega)] at hst
      exact ⟨_, m, _, es.set 0 ⟨f.weight, z⟩, by omega, rfl, isStructs_own shF_len (by omega) hst, HR.out, HC3.out.set (by omega) _, only_setCell HG3.out (.inr hg0) _⟩
    · by_cases h2 : y = 2
      · subst h2
        have HS := hide (IsStructs.drop shF_len (isStructs_own shF_len (by omega) HO2.out) hm1)
        have i1 : (1 : Int) ≤ (m : Int) := by omega
        have i2 : (m : Int) ≤ (c1 : Int) := by omega
        by_cases hcm : c1 = 1
        · obtain rfl : m = 1 := by omega
          have HE : Hid (es.drop 1 = []) := List.drop_eq_nil_of_le (by rw [HL.out]; exact Nat.le_refl _)
          go_wp2_with fail
          go_ret
          exact ⟨_, 0, _, [], by omega, rfl, ⟨rfl, by omega, by unfold maxLen; omega, RowIn.nil _ _⟩, HR.out, hC2, hG2⟩
        · go_wp2_with fail
          go_ret
          exact ⟨_, m - 1, _, es.drop 1, by omega, rfl, by simpa using HS.out, fun x hx => by injection hx with hx; rw [← hx]; exact hg0, hC2, hG2⟩
      · by_cases h3 : y = 3
        · subst h3
          have hBu : Below w0.heap.size w0 w2 := cur_below hC2 (Below.refl _ _) (Nat.le_refl _)
          have HC2 := hide hC2; have HG2 := hide hG2; clear hC2 hG2
          have HI := hide (isStructs_own shF_len (by omega) HO2.out)
          go_wp2_with (at_builtin; refine wpList_append_any rfl _ _ 30 rfl w.heap.size 112 i0_Sh (.agg #[.int .i64 0, .int .i64 0]) 2 16 Try.underlying30 hi_Sh hz0_Sh hz1_Sh hz2_Sh rfl (by decide) _ _ _ rfl (HO2.out) _ _ _ _ rfl (by rw [flat_len shF_len, HL.out]) HI.out.2.2.2 (flat_ones (fun _ => rfl) _) ?c3p ?c4p ?c5p ?_)
          case c3p => unfold maxLen; omega
          case c4p => omega
          case c5p => (first | go_size | (simp; omega))
          intro v' wp hownp hgp
          obtain ⟨ap, cp, rfl⟩ := own_shape hownp
          have hBp := below_grown hBu (HO2.out) (by omega) (by go_size) hgp
          have hsp := hgp.size
          (try simp only [World.size_alloc] at hsp)
          have HGp := hide hgp; clear hgp
          have hCp := HC2.out.grown HGp.out (fun q hq => by have := (HO2.out.lt q hq).1; omega)
          have hGp := only_grow_own HG2.out HGp.out (fun q hq => (HO2.out.lt q hq).1)
          have HI2 := hide (isStructs_own (xs := es ++ es) shF_len (by omega) (by rw [List.flatMap_append]; exact hownp))
          have HD := hide (fun x (hx : ap = some x) => (hownp.lt x.block (by rw [hx]; rfl)).1)
          clear hownp
          go_wp2_with fail
          go_ret
          exact ⟨_, m + m, _, es ++ es, by omega, rfl, HI2.out, HD.out, hCp, hGp⟩
        · go_wp2_with fail
          go_ret
          exact ⟨_, m, _, es, by omega, rfl, isStructs_own shF_len (by omega) HO2.out, HR.out, hC2, hG2⟩
set_option maxRecDepth 100000 in
set_option maxHeartbeats 1000000 in
theorem spec_l21Flags (w0 : World) (a : Option Addr) (n c b : Nat) (bs : List Int) (w : World) (m : Nat) (ha : IsInts .u8 w0 a n c bs) (hs : n ≤ 1048576) (hm : m ≤ 1000) (hC0 : Cur w0 a n c b w) :
    Calls Try.prog 70 #[.pointer (some ⟨b, 0, none⟩), .int .i64 m] w (DrewBools w0 a n c b w m m) := by
  obtain ⟨i0_bool, hi_bool, hz0_bool, hz1_bool, hz2_bool⟩ := info_parts info_bool
  have HA := hide ha
  clear ha
  have hlb := hC0.lt
  have hwb : w0.heap.size ≤ b := by obtain ⟨_, _, _, _, _, h⟩ := hC0; exact h
  go_enter Try.func70, Try.ntmps70
  go_wp2_with fail
  go_loopw [5, 6] (fun v i wr => ∃ (k : Nat) (a' : Option Addr) (c' : Nat) (zs : List Bool), k ≤ m ∧ i = .int .i64 k ∧ v = .slice a' k c' ∧ wr.ownsRow w.heap.size 4 1 (.slice a' k c') k (zs.map Value.bool) ∧ zs.length = k ∧ Cur w0 a n c b wr ∧ w.grownBy wr (some b) ∧ w.heap.size ≤ wr.heap.size) (fun _ i _ => m - (intOf i).toNat)
  case atStart => exact ⟨0, _, _, [], by omega, rfl, rfl, own_made_at rfl (by simp), rfl, hC0.alloc _, only_alloc (only_refl _ _) _, by simp⟩
  case round =>
    obtain ⟨k, a', c', zs, hk, rfl, rfl, hown, hel, hC, hG, hsz⟩ := hrel
    have HO := hide hown; have HL := hide hel
    clear hown hel
    by_cases hlt : k < m
    · go_wp2_with fail
      refine (spec_l01Once _ a n c b bs _ 2 HA.out hs (by omega) hC).mono ?_
      rintro e u1 ⟨u, rfl, hCu, hgu⟩
      have HOu := hide (HO.out.kept hgu (own_ne HO.out (by omega)))
      have hsu1 := hgu.size
      have hGu := only_trans hG hgu
      clear HO hC hG
      have hBu : Below w0.heap.size w0 u1 := cur_below hCu (Below.refl _ _) (Nat.le_refl _)
      have HCu := hide hCu; clear hCu
      go_wp2_with (at_builtin; refine wpList_append_own _ rfl _ _ 26 rfl w.heap.size 4 i0_bool (.bool false) 1 1 Try.underlying26 hi_bool hz0_bool hz1_bool hz2_bool rfl (by decide) _ _ _ rfl (HOu.out.alloc _) ⟨u1.heap.size, 0, none⟩ 1 1 [.bool u] rfl rfl ?c1p ?c2p ?c3p ?c4p ?c5p ?_)
      (try case c1p => exact news_at_of _ _ _ (by go_size))
      (try case c2p => first | exact List.all_eq_true.1 rfl | rfl)
      (try case c3p => (unfold maxLen; omega))
      (try case c4p => omega)
      (try case c5p => (first | go_size | (simp; omega)))
      intro v' wp hownp hgp _
      obtain ⟨ap, cp, rfl⟩ := own_shape hownp
      obtain ⟨hBp, hsp⟩ := below_app hBu HOu.out (by omega) (by omega) hgp
      have HGp := hide hgp; clear hgp
      have hCp := HCu.out.app HOu.out (by omega) HGp.out
      have hGp := only_grow_own (only_alloc hGu (.cells #[.bool u] 4)) HGp.out (fun q hq => (HOu.out.lt q hq).1)
      go_wp2
      go_roundw
      case rel => exact ⟨k + 1, _, _, zs ++ [u], by omega, by go_num, rfl, by simpa using hownp, by simp [HL.out], hCp, hGp, by omega⟩
      case measure => simp [intOf]; omega
    · obtain rfl : k = m := by omega
      go_wp2_with fail
      go_ret
      exact ⟨_, _, _, zs, Nat.le_refl _, Nat.le_refl _, rfl, HO.out, HL.out, hC, hG⟩
/-- Some shares and some flags. -/
def DrewPick (w : World) (e : Ending) (w' : World) : Prop :=
  ∃ (a1 : Option Addr) (m c1 : Nat) (es : List Sh) (a2 : Option Addr) (m2 c2 : Nat) (ws : List Bool), m ≤ 8 ∧ m2 ≤ 5 ∧ e = .returned (.tuple #[.slice a1 m c1, .slice a2 m2 c2]) ∧ IsStructs shF 2 w' a1 m c1 es ∧ IsBools w' a2 m2 c2 ws ∧ Below w.heap.size w w'
set_option maxRecDepth 100000 in
set_option maxHeartbeats 1000000 in
theorem spec_DrawPickTenant (a : Option Addr) (n c : Nat) (bs : List Int) (w : World) (ha : IsInts .u8 w a n c bs) (hs : n ≤ 1048576) :
    Calls Try.prog 19 #[.slice a n c] w (DrewPick w) := by
  have HA := hide ha
  clear ha
  go_enter Try.func19, Try.ntmps19
  go_wp2_with fail
  refine (new_cur a n c bs w w.heap.size (Nat.le_refl _) HA.out hs).mono ?_
  rintro e w1 ⟨b, rfl, hC1, hwb, hlb, hB1⟩
  go_wp2_with fail
  refine (spec_l21Any w a n c b bs _ HA.out hs hC1).mono ?_
  rintro e w2 ⟨a1, m, c1, es, hm8, rfl, hI, hD, hC2, hg2⟩
  have HI := hide hI; have HD := hide hD
  have hs2 := hg2.size
  clear hI hD hC1
  go_wp2_with fail
  refine (spec_l01Below w a n c b bs _ 6 HA.out hs (by omega) hC2).mono ?_
  rintro e w3 ⟨x, x0, x1, rfl, hC3, hg3⟩
  obtain ⟨m2, rfl⟩ := Int.eq_ofNat_of_zero_le x0
  have HI3 := hide (HI.out.kept hg3 (fun x hx => by have := HD.out x hx; intro e; injection e; omega))
  have hs3 := hg3.size
  clear hC2 HI
  go_wp2_with fail
  refine (spec_l21Flags w a n c b bs _ m2 HA.out hs (by omega) hC3).mono ?_
  rintro e w4 ⟨a2, m3, c2, ws, hq1, hq2, rfl, hown, hwl, hC4, hg4⟩
  obtain rfl : m3 = m2 := by omega
  have HI4 := hide (HI3.out.kept hg4 (fun x hx => by have := HD.out x hx; intro e; injection e; omega))
  have HB := hide (isBools_own hown)
  have hBE := cur_below hC4 (Below.refl _ _) (Nat.le_refl _)
  clear hown hwl hC4 hC3 HI3
  go_wp2_with fail
  go_returns
  exact ⟨_, m, _, es, _, m3, _, ws, hm8, by omega, rfl, HI4.out, HB.out, hBE⟩
end Go.Proofs.Ytahfbhfmhccgoaa
