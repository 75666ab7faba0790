/- A drawn word with some symbols bent: eleven symbols of the call's own. -/
import Derived.Test.YtkhcepmileiejaaDrawA
import Derived.Test.YtkhcepmileiejaaEncS
set_option linter.unusedSimpArgs false
set_option linter.unusedVariables false
namespace Go.Proofs.Ytkhcepmileiejaa
open Go.RowKit Go.ChangeShapes Go.WideShapes Go.ChangeAt Go.Joins Go.Deep
open Go.ChangeMaps (open_string shut_string)
theorem only_grow_own {w wr w' : World} {b : Nat} {v : Value} (h : w.grownBy wr (some b)) (hg : wr.grownBy w' v.ownBlock) (hv : ∀ q, v.ownBlock = some q → w.heap.size ≤ q) : w.grownBy w' (some b) :=
  ⟨hg.os.trans h.os, hg.tape.trans h.tape, hg.output.trans h.output, Nat.le_trans h.size hg.size, fun i hi hn => (hg.block i (Nat.lt_of_lt_of_le hi h.size) (fun e => by have := hv i e.symm; omega)).trans (h.block i hi hn)⟩
/-- A row of symbols of the call's own, and the cursor gone on. -/
def DrewRow (w0 : World) (a : Option Addr) (n c b : Nat) (m : Nat) (w : World) (e : Ending) (w' : World) : Prop :=
  ∃ (a' : Option Addr) (c' : Nat) (ws : List Nat), e = .returned (.slice a' m c') ∧ w'.ownsRow w.heap.size 3 1 (.slice a' m c') m ((ints ws).map (.int .i64)) ∧ ws.length = m ∧ Sym ws ∧ Cur w0 a n c b w' ∧ w.grownBy w' (some b)
set_option maxRecDepth 100000 in
set_option maxHeartbeats 2000000 in
theorem spec_l12Data (w0 : World) (a : Option Addr) (n c b : Nat) (bs : List Int) (w : World) (ha : IsInts .u8 w0 a n c bs) (hs : n ≤ 1048576) (hC0 : Cur w0 a n c b w) :
    Calls Try.prog 109 #[.pointer (some ⟨b, 0, none⟩)] w (DrewRow w0 a n c b 8 w) := by
  obtain ⟨i0_int, hi_int, hz0_int, hz1_int, hz2_int⟩ := info_parts info_int
  have HA := hide ha
  clear ha
  have hlb := hC0.lt
  go_enter Try.func109, Try.ntmps109
  go_wp2_with fail
  go_loopw [3, 4] (fun v i wr => ∃ (k : Nat) (a' : Option Addr) (c' : Nat) (ws : List Nat), k ≤ 8 ∧ i = .int .i64 k ∧ v = .slice a' k c' ∧ Hid (wr.ownsRow w.heap.size 3 1 (.slice a' k c') k ((ints ws).map (.int .i64))) ∧ Hid (ws.length = k) ∧ Hid (Sym ws) ∧ Hid (Cur w0 a n c b wr) ∧ Hid (w.grownBy wr (some b)) ∧ w.heap.size ≤ wr.heap.size) (fun _ i _ => 8 - (intOf i).toNat)
  case atStart => exact ⟨0, _, _, [], by omega, rfl, rfl, hide (World.ownsRow_made w #[] 0 (Nat.le_refl _) (by decide) rfl), hide rfl, hide (fun x hx => by cases hx), hide (hC0.alloc _), hide (only_alloc (only_refl _ _) _), by simp⟩
  case round =>
    obtain ⟨k, a', c', ws, hk, rfl, rfl, HO, HL, HS, HC, HG, hsr⟩ := hrel
    by_cases hlt : k < 8
    · go_wp2_with fail
      refine (spec_l01Below w0 a n c b bs _ 16 HA.out hs (by omega) HC.out).mono ?_
      rintro e w2 ⟨x, hx0, hx1, rfl, hC2, hg2⟩
      obtain ⟨y, rfl⟩ : ∃ y : Nat, x = (y : Int) := ⟨x.toNat, by omega⟩
      have hown2 := HO.out.kept hg2 (own_ne HO.out hlb)
      have HO2 := hide hown2
      have hs2 := hg2.size
      have HG2 := hide (only_trans HG.out hg2)
      have HC2 := hide hC2
      clear hown2 hC2 hg2
      go_wp2_with (at_builtin; refine wpList_append_own _ rfl _ _ 25 rfl w.heap.size 3 i0_int (.int .i64 0) 1 8 Try.underlying25 hi_int hz0_int hz1_int hz2_int rfl (by decide) _ _ _ rfl (HO2.out.alloc _) ⟨w2.heap.size, 0, none⟩ 1 1 [.int .i64 (y : Nat)] rfl rfl ?c1 ?c2 ?c3 ?c4 ?c5 ?_)
      case c1 => exact news_at_of _ _ _ (by go_size)
      case c2 => intro u hu; simp at hu; subst hu; rfl
      case c3 => unfold maxLen; omega
      case c4 => omega
      case c5 => simp; omega
      · intro v' w3 hown3 hg3 _
        obtain ⟨a3, c3, rfl⟩ := own_shape hown3
        have hC3 := HC2.out.app HO2.out hlb hg3
        have hG3 := only_grow_own (only_alloc HG2.out _) hg3 (fun q hq => (HO2.out.lt q hq).1)
        have hs3 := hg3.size
        simp at hs3
        have HO3 := hide hown3
        clear hown3 hg3
        go_wp2
        go_roundw
        case rel => exact ⟨k + 1, _, _, ws ++ [y], by omega, by go_num, rfl, hide (by have := HO3.out; simpa [ints] using this), hide (by simp [HL.out]), hide (by intro z hz; simp at hz; rcases hz with hz | rfl; exact HS.out z hz; omega), hide hC3, hide hG3, by omega⟩
        case measure => simp [intOf]; omega
    · go_wp2
      go_ret
      obtain rfl : k = 8 := by omega
      exact ⟨_, _, ws, rfl, HO.out, HL.out, HS.out, HC.out, HG.out⟩
set_option maxRecDepth 100000 in
set_option maxHeartbeats 2000000 in
theorem spec_l12Bent (w0 : World) (a : Option Addr) (n c b : Nat) (bs : List Int) (w : World) (ha : IsInts .u8 w0 a n c bs) (hs : n ≤ 1048576) (hC0 : Cur w0 a n c b w) :
    Calls Try.prog 91 #[.pointer (some ⟨b, 0, none⟩)] w (DrewRow w0 a n c b 11 w) := by
  have HA := hide ha
  clear ha
  have hlb := hC0.lt
  go_enter Try.func91, Try.ntmps91
  go_wp2_with fail
  refine (spec_l12Data w0 a n c b bs _ HA.out hs hC0).mono ?_
  rintro e w1 ⟨a1, c1, ds, rfl, ho1, hl1, hS1, hC1, hg1⟩
  have hi1 := isInts_own ho1 (ints_wf hS1)
  go_wp2_with fail
  refine (spec_EncodeSymbols a1 c1 ds _ hS1 hl1 hi1).mono ?_
  rintro e w2 ⟨a2, c2, rfl, ho2, h2⟩
  obtain ⟨hS2, hl2⟩ := enc_sym hS1 hl1
  obtain ⟨cw, hcw⟩ : ∃ cw, encS ds = cw := ⟨_, rfl⟩
  rw [hcw] at hS2 hl2 ho2
  have hg2 := hide (only_trans hg1 (only_of_below h2 (some b)))
  have hC2 := hide (hC1.below h2)
  have s1 := hg1.size
  have s2 := h2.size
  obtain ⟨q, rfl, hq1, hq2, _⟩ := own_some ho2 (by omega)
  have HO := hide ho2; have HS := hide hS2; have HL := hide hl2
  have hcap := own_caps ho2
  have hc1 := hcap.1; have hc2 : c2 ≤ 9223372036854775807 := hcap.2
  have hbq : ¬ b = q := by omega
  clear ho1 hl1 hS1 hC1 hg1 hi1 h2 hcw hS2 hl2 ho2 hcap
  go_wp2_with fail
  go_loopw [4] (fun vi wr => ∃ (i : Nat) (ws : List Nat), vi = .int .i64 i ∧ i ≤ 3 ∧ Hid (wr.ownsRow w1.heap.size 3 1 (.slice (some ⟨q, 0, none⟩) 11 c2) 11 ((ints ws).map (.int .i64))) ∧ Hid (ws.length = 11) ∧ Hid (Sym ws) ∧ Hid (Cur w0 a n c b wr) ∧ Hid (w.grownBy wr (some b)) ∧ q < wr.heap.size) (fun vi _ => 3 - (intOf vi).toNat)
  case atStart => exact ⟨0, cw, rfl, by omega, HO, HL, HS, hC2, hg2, hq2⟩
  case round =>
    clear HO HL HS hC2 hg2
    obtain ⟨i, ws, rfl, hi3, HO, HL, HS, HC, HG, hqr⟩ := hrel
    go_wp2_with fail
    refine (spec_l01Below w0 a n c b bs _ 4 HA.out hs (by omega) HC.out).mono ?_
    rintro e y1 ⟨x, hx0, hx1, rfl, hCy, hgy⟩
    have HOy := hide (HO.out.kept hgy (own_ne HO.out (by omega)))
    have HGy := hide (only_trans HG.out hgy)
    have sy := hgy.size
    have HCy := hide hCy
    clear hCy hgy HO HG HC
    by_cases hlt : (i : Int) < x
    · go_wp2_with fail
      refine (spec_l01Below w0 a n c b bs _ 11 HA.out hs (by omega) HCy.out).mono ?_
      rintro e y2 ⟨k9, hk0, hk1, rfl, hCz, hgz⟩
      obtain ⟨k, rfl⟩ : ∃ k : Nat, k9 = (k : Int) := ⟨k9.toNat, by omega⟩
      have HOz := hide (HOy.out.kept hgz (own_ne HOy.out (by omega)))
      have HGz := hide (only_trans HGy.out hgz)
      have sz := hgz.size
      have HCz := hide hCz
      have hk11 : k < 11 := by omega
      obtain ⟨v, hv⟩ : ∃ v, ws[k]? = some v := ⟨_, List.getElem?_eq_getElem (by rw [HL.out]; exact hk11)⟩
      have hv16 := HS.out v (List.mem_of_getElem? hv)
      have e0 : y2.cell? ⟨q, k, none⟩ = some (.int .i64 (v : Nat)) := (HOz.out.cellAt k (by omega)).trans (by rw [List.getElem?_map, ints, List.getElem?_map, hv]; rfl)
      have ef := fun o => HOz.out.frozenAt o
      have i0 : (0 : Int) ≤ (k : Int) := by omega
      have i1 : (k : Int) < 11 := by omega
      have HV := hide hv
      have hq9 : q < y2.heap.size := by omega
      clear hCz hgz hv HOy HGy HCy
      go_wp2_with fail
      go_region_law ((go_simp; go_at_call 63; refine (spec_l01Below w0 a n c b bs _ 15 HA.out hs (by omega) HCz.out.drew).mono ?_; rintro e y3 ⟨d9, hd0, hd1, rfl, hCd, hgd⟩; replace hgd := only_undrew hgd; have sd := hgd.size; have f0 := (only_cell hgd (b := q) (o := k) hq9 (by omega)).trans e0; have ff := fun o => (only_free hgd (b := q) (o := o) hq9 (by omega)).trans (ef o); have wd : IntKind.i64.wrap (1 + d9) = 1 + d9 := IntWalk.i64_in _ (by omega)))
      all_goals
        obtain ⟨dd, rfl⟩ : ∃ dd : Nat, d9 = (dd : Int) := ⟨d9.toNat, by omega⟩
        have hxor : bits .xor .i64 (v : Int) (1 + (dd : Int)) = ((v ^^^ (1 + dd) : Nat) : Int) := by
          rw [show (1 + (dd : Int)) = ((1 + dd : Nat) : Int) by omega]; exact i64_xor v (1 + dd) (by omega) (by omega)
        rw [hxor]
        have hx16 : v ^^^ (1 + dd) < 16 := Nat.xor_lt_two_pow (n := 4) hv16 (by omega)
        have HOd := hide ((HOz.out.kept hgd (own_ne HOz.out (by omega))).stored k (.int .i64 ((v ^^^ (1 + dd) : Nat) : Int))).1
        have HGd := hide (only_setCell (g := q) (o := k) (only_trans HGz.out hgd) (.inr (by omega)) (.int .i64 ((v ^^^ (1 + dd) : Nat) : Int)))
        have HCd := hide (hCd.set (g := q) (o := k) (.inl (by omega)) (.int .i64 ((v ^^^ (1 + dd) : Nat) : Int)))
        have hlast : q < (y3.setCell ⟨q, k, none⟩ (.int .i64 ((v ^^^ (1 + dd) : Nat) : Int))).heap.size := by simp; omega
        clear hxor hgd hCd f0 ff e0 ef
        generalize v ^^^ (1 + dd) = vv at *
        go_wp2_with fail
        go_roundw
        case rel => exact ⟨i + 1, ws.set k vv, by go_num, by omega, hide (by have := HOd.out; rw [ints_set] at this; exact this), hide (by rw [List.length_set]; exact HL.out), hide (fun z hz => by rcases List.mem_or_eq_of_mem_set hz with h1 | h1; exact HS.out z h1; rw [h1]; exact hx16), HCd, HGd, hlast⟩
        case measure => simp [intOf]; omega
    · go_wp2_with fail
      go_ret
      exact ⟨_, _, ws, rfl, own_base HOy.out (by omega), HL.out, HS.out, HCy.out, HGy.out⟩
end Go.Proofs.Ytkhcepmileiejaa
