/- Slices of slices of bools: the laws' helpers. -/
import Derived.Test.YtlaoeaecbdmebaaNest
import Derived.Test.YtlaoeaecbdmebaaBools
set_option linter.unusedSimpArgs false
set_option linter.unusedVariables false
namespace Go.Proofs.Ytlaoeaecbdmebaa
open Go.RowKit Go.ChangeShapes Go.WideShapes Go.ChangeAt Go.Joins Go.Deep
open Go.ChangeMaps (open_string shut_string)
theorem isRowsB_of {H : Type} {enc : TypeId × Value → H} {w : World} {base : Nat} {held : Bool} {fuel : Nat} {cs : List Value} {x : DataW H × List MemPlace}
    (h : DataW.trod enc Try.prog w base (fun _ => true) held fuel 54 cs = some x) : ∃ a n c, ∃ p : List Hd × List (List Bool), cs = [.slice a n c] ∧ IsNest .bool w a n c p.1 p.2 := by
  rcases Go.Deep.open_slice1 Try.underlying54 (by kernel_rfl) h with ⟨hcs, _⟩ | ⟨a, len, cap, m, n, V, D, Pl, hcs, hb, hl, hm, hmm, _, hx⟩
  · exact ⟨none, 0, 0, ([], []), hcs, rfl, Nat.le_refl _, Nat.zero_le _, RowIn.nil _ _, rfl, fun i h xs h1 => by simp at h1⟩
  · simp only [if_true] at hmm
    subst hmm
    obtain ⟨ps, hlen, hps⟩ := exists_list (P := fun i (p : Hd × List Bool) => w.cell? (a.add i) = some p.1.val ∧ IsRow Value.bool w p.1 p.2) len (fun i hi => by
      obtain ⟨h1, h2⟩ := hx i (by omega)
      obtain ⟨a', n', c', bs, e, hr⟩ := isBools_of Try.underlying56 Try.underlying4 (by kernel_rfl) h2
      injection e with e _
      exact ⟨(⟨a', n', c'⟩, bs), by rw [h1, e]; rfl, hr⟩)
    refine ⟨some a, len, _, (ps.map (·.1), ps.map (·.2)), hcs, by simpa using hlen, hl, hm, rowIn_of fun i v hv => ?_, by simp, fun i h xs h1 h2 => ?_⟩
    · rw [List.getElem?_map, List.getElem?_map, Option.map_eq_some_iff] at hv
      obtain ⟨h, hh, rfl⟩ := hv
      rw [Option.map_eq_some_iff] at hh
      obtain ⟨p, hp, rfl⟩ := hh
      exact (hps i p hp).1
    · simp only [List.getElem?_map, Option.map_eq_some_iff] at h1 h2
      obtain ⟨p, hp, rfl⟩ := h1
      obtain ⟨p', hp', rfl⟩ := h2
      rw [hp] at hp'
      injection hp' with hp'
      subst hp'
      exact (hps i p hp).2

def sumN (hs : List Hd) : Nat := (hs.map (·.n)).sum
theorem sumN_snoc {hs : List Hd} {k : Nat} {h : Hd} (hk : hs[k]? = some h) : sumN (hs.take (k + 1)) = sumN (hs.take k) + h.n := by
  unfold sumN; rw [take_snoc hk, List.map_append, List.sum_append]; simp
theorem sumN_take_le (hs : List Hd) (k : Nat) : sumN (hs.take k) ≤ sumN hs := by
  have : sumN hs = sumN (hs.take k) + sumN (hs.drop k) := by unfold sumN; rw [← List.sum_append, ← List.map_append, List.take_append_drop]
  omega
theorem sumN_at {hs : List Hd} {k : Nat} {h : Hd} (hk : hs[k]? = some h) : h.n ≤ sumN hs := by
  have := sumN_take_le hs (k + 1); rw [sumN_snoc hk] at this; omega

set_option maxHeartbeats 400000 in
theorem laws_szBoolS (a : Option Addr) (n c : Nat) (l : Int) (w : World) (h0 : 0 ≤ l) (h1 : (n : Int) ≤ l) (h2 : l ≤ 1048576) :
    Calls Try.prog 84 #[.slice a n c, .int .i64 l] w fun e w' => e = .returned (.int .i64 (l - n)) ∧ Below w.heap.size w w' := by
  have h3 : 0 ≤ l - (n : Int) := by omega
  go_enter Try.func84, Try.ntmps84
  go_wp2
  go_ret
  exact ⟨rfl, Below.refl _ _⟩
set_option maxHeartbeats 400000 in
theorem laws_szBoolS_no (a : Option Addr) (n c : Nat) (l : Int) (w : World) (h0 : 0 ≤ l) (h1 : l < (n : Int)) (h2 : l ≤ 1048576) (hm : n ≤ c ∧ c ≤ 9223372036854775807) :
    Calls Try.prog 84 #[.slice a n c, .int .i64 l] w fun e w' => e = .returned (.int .i64 (-1)) ∧ Below w.heap.size w w' := by
  have h3 : l - (n : Int) < 0 := by omega
  have h4 := hm.1; have h5 := hm.2
  clear hm
  go_enter Try.func84, Try.ntmps84
  go_wp2
  go_ret
  exact ⟨rfl, Below.refl _ _⟩
/-- What is left of l behind n and all rows; -1 where it is used up. -/
def szNest (l : Int) (n : Nat) (hs : List Hd) : Int := if l - n - sumN hs < 0 then -1 else l - n - sumN hs

set_option maxHeartbeats 1000000 in
theorem laws_szBoolSS (a : Option Addr) (n c : Nat) (hs : List Hd) (xss : List (List Bool)) (l : Int) (w : World) (hn : IsNest .bool w a n c hs xss) (h0 : 0 ≤ l) (h2 : l ≤ 1048576) :
    Calls Try.prog 38 #[.slice a n c, .int .i64 l] w fun e w' => e = .returned (.int .i64 (szNest l n hs)) ∧ Below w.heap.size w w' := by
  have HN := hide hn; have HL := hide hn.1
  have hc := hn.2.1; have hm : c ≤ 9223372036854775807 := hn.2.2.1
  clear hn
  by_cases h1 : (n : Int) ≤ l
  · have h3 : 0 ≤ l - (n : Int) := by omega
    go_enter Try.func38, Try.ntmps38
    go_wp2_with fail
    go_loopw [1, 5] (fun v i wr => ∃ k : Nat, k ≤ n ∧ i = .int .i64 k ∧ v = .int .i64 (l - n - sumN (hs.take k)) ∧ (sumN (hs.take k) : Int) ≤ l - n ∧ Below w.heap.size w wr) (fun _ i _ => n - (intOf i).toNat)
    case atStart => exact ⟨0, by omega, rfl, by simp [sumN], by simp [sumN]; omega, Below.refl _ _⟩
    case round =>
      obtain ⟨k, hk, rfl, rfl, hsum, hB⟩ := hrel
      by_cases hlt : k < n
      · obtain ⟨h, xs, b1, o1, hh, hx, rfl, hlb, hcell, hr⟩ := HN.out.get hlt
        have e0 := (hB.cell (p := ⟨b1, o1 + k, none⟩) hlb).trans hcell
        have HS := hide (sumN_snoc hh)
        have hcr := hr.2.1
        have hmr : h.c ≤ 9223372036854775807 := hr.2.2.1
        have i0 : (0 : Int) ≤ (k : Int) := by omega
        have i1 : (k : Int) < (n : Int) := by omega
        have HH := hide hh
        clear hcell hh hx hr
        by_cases hle : (h.n : Int) ≤ l - n - sumN (hs.take k)
        · have i2 : 0 ≤ l - n - sumN (hs.take k) - (h.n : Int) := by omega
          go_wp2_with fail
          refine (laws_szBoolS _ _ _ _ _ (by omega) hle (by omega)).mono ?_
          rintro e w1 ⟨rfl, h1'⟩
          have hB1 : Below w.heap.size w w1 := bthen hB h1' hB.size
          go_wp2_with fail
          go_roundw
          case rel => exact ⟨k + 1, by omega, by go_num, by rw [HS.out]; simp; omega, by rw [HS.out]; omega, hB1⟩
          case measure => simp [intOf]; omega
        · have i2 : l - n - sumN (hs.take k) < (h.n : Int) := by omega
          go_wp2_with fail
          refine (laws_szBoolS_no _ _ _ _ _ (by omega) i2 (by omega) ⟨hcr, hmr⟩).mono ?_
          rintro e w1 ⟨rfl, h1'⟩
          have hB1 : Below w.heap.size w w1 := bthen hB h1' hB.size
          go_wp2_with fail
          go_ret
          have := sumN_take_le hs (k + 1)
          rw [HS.out] at this
          exact ⟨ret_int (by unfold szNest; rw [if_pos (by omega)]), hB1⟩
      · obtain rfl : k = n := by omega
        go_wp2_with fail
        go_ret
        rw [List.take_of_length_le (by rw [HL.out]; exact Nat.le_refl _)] at hsum ⊢
        exact ⟨ret_int (by unfold szNest; rw [if_neg (by omega)]), hB⟩
  · have h3 : l - (n : Int) < 0 := by omega
    go_enter Try.func38, Try.ntmps38
    go_wp2
    go_ret
    exact ⟨ret_int (by unfold szNest; rw [if_pos (by omega)]), Below.refl _ _⟩

set_option maxHeartbeats 1000000 in
theorem laws_eqBoolSS (a b : Option Addr) (n c c' : Nat) (hs hs' : List Hd) (xss : List (List Bool)) (w : World) (ha : IsNest .bool w a n c hs xss) (hb : IsNest .bool w b n c' hs' xss) :
    Calls Try.prog 43 #[.slice a n c, .slice b n c'] w fun e w' => e = .returned (.bool true) ∧ Below w.heap.size w w' := by
  have HA := hide ha; have HB := hide hb
  have hc := ha.2.1; have hm : c ≤ 9223372036854775807 := ha.2.2.1
  clear ha hb
  go_enter Try.func43, Try.ntmps43
  go_wp2
  go_loopw [5] (fun i wr => ∃ k : Nat, k ≤ n ∧ i = .int .i64 k ∧ Below w.heap.size w wr) (fun i _ => n - (intOf i).toNat)
  case atStart => exact ⟨0, by omega, rfl, Below.refl _ _⟩
  case round =>
    obtain ⟨k, hk, rfl, hB⟩ := hrel
    by_cases hlt : k < n
    · obtain ⟨h, xs, b1, o1, hh, hx, rfl, hlb, hcell, hr⟩ := HA.out.get hlt
      obtain ⟨h', xs', b2, o2, hh', hx', rfl, hlb', hcell', hr'⟩ := HB.out.get hlt
      obtain rfl : xs' = xs := by rw [hx] at hx'; injection hx' with h; exact h.symm
      have e0 := (hB.cell (p := ⟨b1, o1 + k, none⟩) hlb).trans hcell
      have f0 := (hB.cell (p := ⟨b2, o2 + k, none⟩) hlb').trans hcell'
      obtain ⟨ha', hn', hc'⟩ := h
      obtain ⟨ha2, hn2, hc2⟩ := h'
      obtain rfl : hn2 = hn' := hr'.1.symm.trans hr.1
      have i0 : (0 : Int) ≤ (k : Int) := by omega
      have i1 : (k : Int) < (n : Int) := by omega
      have HR := hide (show IsBools wr ha' hn2 hc' xs' from IsRow.below hr hB (Nat.le_refl _)); have HR' := hide (show IsBools wr ha2 hn2 hc2 xs' from IsRow.below hr' hB (Nat.le_refl _))
      have hsr := hB.size
      have l1 : b1 < wr.heap.size := by omega
      have l2 : b2 < wr.heap.size := by omega
      clear hcell hcell' hh hh' hx hx' hr hr'
      go_wp2_with fail
      go_region_held3 (fun v => v.cell? ⟨b1, o1 + k, none⟩ = some (.slice ha' hn2 hc') ∧ v.cell? ⟨b2, o2 + k, none⟩ = some (.slice ha2 hn2 hc2)) (go_keep)
        ((go_at_call 42; refine (laws_eqBoolS _ _ _ _ _ xs' _ (HR.out.below (B := wr.heap.size) ((by repeat' (first | (with_reducible exact Below.refl _ _) | (with_reducible assumption) | (with_reducible refine bdrawn ?_ _) | (with_reducible refine Below.alloc ?_ ?_ _) | (with_reducible refine Below.drew ?_) | (with_reducible refine Below.setCell ?_ ?_ _) | go_size))) (Nat.le_refl _)) (HR'.out.below (B := wr.heap.size) ((by repeat' (first | (with_reducible exact Below.refl _ _) | (with_reducible assumption) | (with_reducible refine bdrawn ?_ _) | (with_reducible refine Below.alloc ?_ ?_ _) | (with_reducible refine Below.drew ?_) | (with_reducible refine Below.setCell ?_ ?_ _) | go_size))) (Nat.le_refl _))).mono ?_; rintro e w1 ⟨rfl, h1⟩; replace h1 : Below wr.heap.size wr w1 := bthen (by go_grown) h1 (by go_size); have hB2 : Below w.heap.size w w1 := (bthen hB h1 hsr); obtain ⟨hc1, hf1⟩ := bcell h1))
      go_wp2_with fail
      go_roundw
      case rel => exact ⟨k + 1, by omega, by go_num, by first | assumption | exact bdrawn (by assumption) _⟩
      case measure => simp [intOf]; omega
    · go_wp2
      go_ret
      exact ⟨rfl, hB⟩

theorem info_SB : (Try.prog.info? 56).map (fun i => (i.zero, i.size, i.bytes)) = some (some (.slice none 0 0), 1, 24) := by kernel_rfl
/-- A slice of slices in new memory. -/
def FreshN (w : World) (O E : TypeId) (n : Nat) (css : List (List Value)) (e : Ending) (w' : World) : Prop :=
  ∃ a c hs mid, e = .returned (.slice a n c) ∧ w.heap.size ≤ mid ∧ mid ≤ w'.heap.size ∧ Owned w.heap.size mid w' O 1 a n c (hs.map Hd.val) ∧ RowsOwn E w' mid w'.heap.size hs css ∧ hs.map (·.n) = css.map (·.length) ∧ Below w.heap.size w w'
theorem own_hi {lo hi n c : Nat} {w : World} {E : TypeId} {sz : Nat} {g : Nat} {xs : List Value} (h : w.ownsRow lo E sz (.slice (some ⟨g, 0, none⟩) n c) n xs) (hg : g < hi) : Owned lo hi w E sz (some ⟨g, 0, none⟩) n c xs :=
  ⟨h, fun x hx => by injection hx with hx; subst hx; exact hg⟩

set_option maxRecDepth 100000 in
set_option maxHeartbeats 1000000 in
theorem laws_toBoolSS (a : Option Addr) (n c : Nat) (hs : List Hd) (xss : List (List Bool)) (w : World) (hn : IsNest .bool w a n c hs xss) (hsz : n ≤ 1048576) (hall : ∀ h ∈ hs, h.n ≤ 1048576) :
    Calls Try.prog 40 #[.slice a n c] w (FreshN w 56 4 n (xss.map (·.map Value.bool))) := by
  obtain ⟨i0, hi, hz0, hz1, hz2⟩ := info_parts info_SB
  have HN := hide hn; have HL := hide hn.1; have HX := hide hn.2.2.2.2.1; have HLn := hide (rows_lens hn.2.2.2.2); have HALL := hide hall
  have hc := hn.2.1; have hm : c ≤ 9223372036854775807 := hn.2.2.1
  clear hn hall
  go_enter Try.func40, Try.ntmps40
  go_wp2_with (at_make; refine wpList_make_full _ rfl _ _ 54 rfl w.heap.size 56 i0 (.slice none 0 0) 1 Try.underlying54 hi hz0 hz1 _ _ _ _ n rfl rfl rfl rfl (by rw [hz2]; omega) (by unfold maxLen; omega) (Nat.le_refl _) ?_; intro w0 hown hg; have hb0 : Below w.heap.size w w0 := (Below.refl _ _).grown hg (Nat.le_refl _) (fun k h => by cases h))
  have hw0 : w.heap.size < w0.heap.size := (hown.lt w.heap.size rfl).2
  go_loopw [4] (fun i wr => ∃ (k : Nat) (gs : List Hd), k ≤ n ∧ i = .int .i64 k ∧ Below w.heap.size w wr ∧ w.heap.size < wr.heap.size ∧ gs.length = k ∧ gs.map (·.n) = (hs.take k).map (·.n) ∧ wr.ownsRow w.heap.size 56 1 (.slice (some ⟨w.heap.size, 0, none⟩) n n) n (gs.map Hd.val ++ List.replicate (n - k) (.slice none 0 0)) ∧ RowsOwn 4 wr (w.heap.size + 1) wr.heap.size gs ((xss.take k).map (·.map Value.bool))) (fun i _ => n - (intOf i).toNat)
  case atStart =>
    refine ⟨0, [], by omega, rfl, hb0, hw0, rfl, by simp, ?_, hw0⟩
    have := hown
    rw [Nat.mul_one, show (Value.slice none 0 0).cells = #[.slice none 0 0] from rfl, toList_madeCells_one] at this
    simpa using this
  case round =>
    clear hown hg hb0 hw0
    obtain ⟨k, gs, hk, rfl, hB, hsz', hgl, hgn, hown, hrows⟩ := hrel
    by_cases hlt : k < n
    · obtain ⟨h, xs, b1, o1, hh, hx, rfl, hlb, hcell, hr⟩ := HN.out.get hlt
      have e0 := (hB.cell (p := ⟨b1, o1 + k, none⟩) hlb).trans hcell
      have i0 : (0 : Int) ≤ (k : Int) := by omega
      have i1 : (k : Int) < (n : Int) := by omega
      have HO := hide hown; have HR := hide hrows
      have Hgl := hide hgl; have Hgn := hide hgn; have HH := hide hh; have HXX := hide hx; have HRR := hide hr
      have hhn := HALL.out h (List.mem_of_getElem? hh)
      clear hown hrows hgl hgn hcell hh hx hr
      go_wp2_with fail
      refine (laws_toBoolS _ _ _ xs _ (IsRow.below HRR.out hB (Nat.le_refl _)) hhn).mono ?_
      rintro e w1 ⟨a1, c1, rfl, ho1, h1⟩
      have hs1 := h1.size
      have hB1 : Below w.heap.size w w1 := bthen hB h1 (by omega)
      have HO1 := hide (own_below HO.out h1 (fun j hj => by injection hj with hj; rw [← hj]; exact hsz'))
      obtain ⟨u, c0⟩ : ∃ u, w1.cell? ⟨w.heap.size, k, none⟩ = some u := ⟨_, (HO1.out.cellAt k (by omega)).trans (List.getElem?_eq_getElem (by rw [HO1.out.1]; omega))⟩
      have fr := fun j => HO1.out.frozenAt j
      have HN1 := hide (Owned.of_own ho1)
      clear ho1
      go_wp2
      go_roundw
      case rel =>
        refine ⟨k + 1, gs ++ [⟨a1, h.n, c1⟩], by omega, by go_num, hB1.setCell (Nat.le_refl _) _, by simp; omega, by simp [Hgl.out], ?_, ?_, ?_⟩
        · rw [List.map_append, Hgn.out, take_snoc HH.out, List.map_append]; rfl
        · have hst := (HO1.out.stored k (.slice a1 h.n c1)).1
          have hx := row_next (sz := 1) (A := gs.map Hd.val) (vs := [.slice a1 h.n c1]) (Z := [.slice none 0 0]) (k := k) (n := n) (by simp [Hgl.out]) hlt rfl rfl
          simp only [Nat.mul_one, setRow, Nat.add_zero] at hx
          have hf : ∀ m, (List.replicate m [Value.slice none 0 0]).flatten = List.replicate m (Value.slice none 0 0) := fun m => by induction m with
            | zero => rfl
            | succ m ih => rw [List.replicate_succ, List.flatten_cons, ih, List.replicate_succ]; rfl
          rw [hf, hf] at hx
          rw [hx] at hst
          rw [List.map_append]
          exact hst
        · rw [take_snoc HXX.out, List.map_append]
          have hsv : Save w.heap.size (w.heap.size + 1) w1 (w1.setCell ⟨w.heap.size, k, none⟩ (.slice a1 h.n c1)) := ⟨rfl, rfl, rfl, by simp [World.setCell], fun j hj hr => heap_set_other _ _ _ _ _ (by omega)⟩
          have hr1 := RowsOwn.save hsv (HR.out.below h1 (Nat.le_refl _)) (.inr (Nat.le_refl _))
          have ho2 := HN1.out.save hsv (.inr (by omega))
          have := hr1.snoc (hi := w1.heap.size) (h := ⟨a1, h.n, c1⟩) (cs := xs.map Value.bool) hs1 ho2
          simpa [World.setCell] using this
      case measure => simp [intOf]; omega
    · go_wp2
      go_ret
      obtain rfl : k = n := by omega
      rw [List.take_of_length_le (by rw [HX.out, HL.out]; exact Nat.le_refl _)] at hrows
      rw [List.take_of_length_le (by rw [HL.out]; exact Nat.le_refl _)] at hgn
      rw [Nat.sub_self, List.replicate_zero, List.append_nil] at hown
      refine ⟨_, _, gs, w.heap.size + 1, rfl, by omega, by omega, own_hi hown (by omega), hrows, ?_, hB⟩
      rw [hgn, HLn.out]
      simp
/-- The marks of rows of these lengths. -/
def markRows (k0 : Int) : List Nat → List (List Bool)
  | [] => []
  | n :: ns => markB k0 n :: markRows (k0 + n) ns
set_option maxHeartbeats 1000000 in
theorem laws_markBoolSS (lo mid hi : Nat) (a : Option Addr) (n c : Nat) (hs : List Hd) (css : List (List Value)) (k0 : Int) (w : World) (hk0 : 0 ≤ k0 ∧ k0 ≤ 900000000) (hsum : sumN hs ≤ 1048576) (hsn : n ≤ 1048576)
    (ho : Owned lo mid w 56 1 a n c (hs.map Hd.val)) (hr : RowsOwn 4 w mid hi hs css) :
    Calls Try.prog 44 #[.slice a n c, .int .i64 k0] w fun e w' => e = .returned (.int .i64 (k0 + sumN hs)) ∧ True ∧ Save mid hi w w' := by
  have hk1 := hk0.1; have hk2 := hk0.2
  clear hk0
  have HL := hide (show hs.length = n by have := ho.row.1; simpa using this)
  have hc := ho.row.2.1
  have hm : c ≤ 9223372036854775807 := ho.row.2.2.1
  have HO := hide ho; have HR := hide hr; have HS := hide hsum
  have hCL := hide hr.len
  clear ho hr
  go_enter Try.func44, Try.ntmps44
  go_wp2
  go_loopw [1, 5] (fun v i wr => ∃ (k : Nat) (cs' : List (List Value)), k ≤ n ∧ i = .int .i64 k ∧ v = .int .i64 (k0 + sumN (hs.take k)) ∧ cs'.length = hs.length ∧ RowsOwn 4 wr mid hi hs cs' ∧ Save mid hi w wr) (fun _ i _ => n - (intOf i).toNat)
  case atStart => exact ⟨0, css, by omega, rfl, by simp [sumN], hCL.out, HR.out, Save.refl _ _ _⟩
  case round =>
    obtain ⟨k, cs', hk, rfl, rfl, hcl, hr, hS⟩ := hrel
    have hb := sumN_take_le hs k
    by_cases hlt : k < n
    · have hO2 := HO.out.save hS (.inl (Nat.le_refl _))
      obtain ⟨g, rfl, hg1, hg2, hg3, hcell, hfr⟩ := hO2.some (by omega)
      obtain ⟨h, hh⟩ : ∃ h, hs[k]? = some h := ⟨_, List.getElem?_eq_getElem (by rw [HL.out]; exact hlt)⟩
      have e0 : wr.cell? ⟨g, k, none⟩ = some (.slice h.a h.n h.c) := (hcell k (by omega)).trans (by rw [List.getElem?_map, hh]; rfl)
      obtain ⟨cc, hcc⟩ : ∃ cc, cs'[k]? = some cc := ⟨_, List.getElem?_eq_getElem (show k < cs'.length by rw [hcl, HL.out]; exact hlt)⟩
      obtain ⟨p, q, hp1, hp2, hp3, hown, hback⟩ := hr.at k hh hcc
      have HSS := hide (sumN_snoc hh)
      have hhn := sumN_at hh
      have i0 : (0 : Int) ≤ (k : Int) := by omega
      have i1 : (k : Int) < (n : Int) := by omega
      have HW := hide hown; have HBK := hide hback; have Hcl := hide hcl
      clear hcell hfr hown hback hcl hr hO2 hcc
      go_wp2_with fail
      refine (laws_markBoolS p q _ _ _ _ _ _ (by omega) (by omega) HW.out).mono ?_
      rintro e w1 ⟨rfl, ho1, hs1⟩
      have hS1 := hS.trans (hs1.wide hp1 hp3)
      have hr1 := HBK.out _ _ hs1 ho1
      have Hr1 := hide hr1
      clear hr1 ho1 hs1
      go_wp2_with fail
      go_roundw
      case rel => exact ⟨k + 1, _, by omega, by go_num, by rw [HSS.out]; simp; omega, by rw [List.length_set]; exact Hcl.out, Hr1.out, hS1⟩
      case measure => simp [intOf]; omega
    · go_wp2
      go_ret
      obtain rfl : k = n := by omega
      rw [List.take_of_length_le (by rw [HL.out]; exact Nat.le_refl _)]
      exact ⟨rfl, trivial, hS⟩
theorem mark_is (lo mid hi : Nat) (a : Option Addr) (n c : Nat) (hs : List Hd) (css : List (List Value)) (s : Nat) (hsm : sumN hs = s) (k0 : Int) (w : World) (hk0 : 0 ≤ k0 ∧ k0 ≤ 900000000) (hsum : s ≤ 1048576) (hsn : n ≤ 1048576)
    (ho : Owned lo mid w 56 1 a n c (hs.map Hd.val)) (hr : RowsOwn 4 w mid hi hs css) :
    Calls Try.prog 44 #[.slice a n c, .int .i64 k0] w fun e w' => e = .returned (.int .i64 (k0 + (s : Int))) ∧ True ∧ Save mid hi w w' := by subst hsm; exact laws_markBoolSS lo mid hi a n c hs css k0 w hk0 hsum hsn ho hr
end Go.Proofs.Ytlaoeaecbdmebaa
