/- A list of delays that drifts: what DriftPass computes, of the program and of the reference. -/
import Derived.Test.YtboejjplclaifaaMargin
set_option linter.unusedSimpArgs false
set_option linter.unusedVariables false
namespace Go.Proofs.Ytboejjplclaifaa
open Go.RowKit Go.ChangeShapes Go.WideShapes Go.ChangeAt Go.Joins Go.Deep
open Go.ChangeMaps (open_string shut_string)

/-- Whether delay i passes behind a drift. -/
def driftAt (xs : List Bool) (by_ : Int) (i : Nat) : Bool := btw ((i : Int) - by_) 0 ((xs.length : Int) - 1) && getB xs ((i : Int) - by_).toNat
def drift (xs : List Bool) (by_ : Int) : List Bool := (List.range xs.length).map (driftAt xs by_)
def driftOk (xs : List Bool) (by_ : Int) : Bool := decide (xs.length ≤ 64) && btw by_ (-64) 64
def drifted (xs : List Bool) (by_ : Int) : List Bool := if driftOk xs by_ = true then drift xs by_ else []
theorem drift_len (xs : List Bool) (by_ : Int) : (drift xs by_).length = xs.length := by simp [drift]
theorem drift_at {xs : List Bool} {by_ : Int} {i : Nat} (h : i < xs.length) : (drift xs by_)[i]? = some (driftAt xs by_ i) := by simp [drift, List.getElem?_range h]
theorem driftAt_out {xs : List Bool} {by_ : Int} {i : Nat} (h : btw ((i : Int) - by_) 0 ((xs.length : Int) - 1) = false) : driftAt xs by_ i = false := by unfold driftAt; rw [h]; rfl
theorem driftAt_in {xs : List Bool} {by_ : Int} {i : Nat} {z : Bool} (h : btw ((i : Int) - by_) 0 ((xs.length : Int) - 1) = true) (hz : xs[((i : Int) - by_).toNat]? = some z) : driftAt xs by_ i = z := by unfold driftAt; rw [h, getB_at hz]; rfl
theorem drifted_len {xs : List Bool} {by_ : Int} {n : Nat} (hn : xs.length = n) (h : driftOk xs by_ = true) : (drifted xs by_).length = n := by unfold drifted; rw [if_pos h, drift_len, hn]
theorem drifted_short (xs : List Bool) (by_ : Int) : (drifted xs by_).length ≤ xs.length := by
  unfold drifted; split
  · rw [drift_len]; exact Nat.le_refl _
  · simp
theorem drifted_no {xs : List Bool} {by_ : Int} (h : driftOk xs by_ = false) : drifted xs by_ = [] := by unfold drifted; rw [if_neg (by simp [h])]

theorem set_nextv {α : Type} (xs : List α) (z : α) (k n : Nat) (v : α) (hk : k < n) (hx : xs.length = n) (h : xs[k]? = some v) : (xs.take k ++ List.replicate (n - k) z).set k v = xs.take (k + 1) ++ List.replicate (n - (k + 1)) z := by
  obtain ⟨h1, rfl⟩ := List.getElem?_eq_some_iff.1 h
  exact set_next xs z k n hk hx
theorem same_next {α : Type} (xs : List α) (z : α) (k n : Nat) (hk : k < n) (h : xs[k]? = some z) : xs.take k ++ List.replicate (n - k) z = xs.take (k + 1) ++ List.replicate (n - (k + 1)) z := by
  rw [take_snoc h, show n - k = (n - (k + 1)) + 1 by omega, List.replicate_succ, List.append_assoc, List.singleton_append]

set_option maxHeartbeats 1000000 in
theorem impl_DriftPass (a : Option Addr) (n c : Nat) (zs : List Bool) (by_ : Int) (w : World) (ha : IsBools w a n c zs) (hs : n ≤ 1048576) :
    Calls Try.prog 25 #[.slice a n c, .int .i64 by_] w (Fresh w 4 1 (drifted zs by_).length ((drifted zs by_).map Value.bool)) := by
  obtain ⟨hn, hc, hm, hr⟩ := ha
  obtain ⟨i0, hi, hz0, hz1, hz2⟩ := info_parts info_bool
  have Hr := hide hr; have HN := hide hn
  clear hr hm
  by_cases h64 : n ≤ 64
  · cases hb : btw by_ (-64) 64
    · rw [drifted_no (by unfold driftOk; rw [hb, Bool.and_false])]
      clear hn
      go_enter Try.func25, Try.ntmps25
      go_wp2_with (first | (go_at_call 56; refine (impl_between _ _ _ _).mono ?_; rintro e w1 ⟨rfl, rfl⟩))
      go_ret
      exact ⟨none, 0, rfl, World.ownsRow_nil _ _ _ _, Below.refl _ _⟩
    · have hb' := btw_true.1 hb
      have hb1 := hb'.1; have hb2 := hb'.2
      have hok : driftOk zs by_ = true := by unfold driftOk; rw [hb, hn, decide_eq_true h64]; rfl
      rw [drifted_len hn hok, show drifted zs by_ = drift zs by_ from if_pos hok]
      clear hn hb' hok
      go_enter Try.func25, Try.ntmps25
      go_wp2_with (first | (go_at_call 56; refine (impl_between _ _ _ _).mono ?_; rintro e w1 ⟨rfl, rfl⟩) | (at_make; refine wpList_make_full _ rfl _ _ 22 rfl w.heap.size 4 i0 (.bool false) 1 Try.underlying22 hi hz0 hz1 _ _ _ _ n rfl rfl rfl rfl (by rw [hz2]; omega) (by unfold maxLen; omega) (Nat.le_refl _) ?_; intro w0 hown hg; have hb0 : Below w.heap.size w w0 := (Below.refl _ _).grown hg (Nat.le_refl _) (fun k h => by cases h)))
      go_loopw [20] (fun i wr => ∃ k : Nat, k ≤ n ∧ i = .int .i64 k ∧ Below w.heap.size w wr ∧ wr.ownsRow w.heap.size 4 1 (.slice (some ⟨w.heap.size, 0, none⟩) n n) n (((drift zs by_).map Value.bool).take k ++ List.replicate (n - k) (.bool false))) (fun i _ => n - (intOf i).toNat)
      case atStart =>
        refine ⟨0, by omega, rfl, hb0, ?_⟩
        have := hown
        rw [Nat.mul_one, show (Value.bool false).cells = #[.bool false] from rfl, toList_madeCells_one] at this
        simpa using this
      case round =>
        clear hown hg hb0
        obtain ⟨k, hk, rfl, hB, hown⟩ := hrel
        by_cases hlt : k < n
        · have HD := hide (drift_at (xs := zs) (by_ := by_) (i := k) (by rw [HN.out]; exact hlt))
          cases hc2 : btw ((k : Int) - by_) 0 ((n : Int) - 1)
          · have HV := hide (driftAt_out (xs := zs) (by_ := by_) (i := k) (by rw [HN.out]; exact hc2))
            go_wp2_with (first | (go_at_call 56; refine (impl_between _ _ _ _).mono ?_; rintro e w1 ⟨rfl, rfl⟩))
            go_roundw
            case rel =>
              refine ⟨k + 1, by omega, by go_num, hB, ?_⟩
              rw [← same_next _ _ k n hlt (by rw [List.getElem?_map, HD.out, HV.out]; rfl)]
              exact hown
            case measure => simp [intOf]; omega
          · have hb9 := btw_true.1 hc2
            obtain ⟨j, hj⟩ : ∃ j : Nat, (k : Int) - by_ = (j : Int) := ⟨((k : Int) - by_).toNat, by omega⟩
            have hjn : j < n := by omega
            obtain ⟨z, b1, o1, hz, rfl, hlb, hc1⟩ := Hr.out.get (k := j) (by rw [HN.out]; exact hjn)
            have e1 := (hB.cell (p := ⟨b1, o1 + j, none⟩) hlb).trans hc1
            have HV := hide (driftAt_in (xs := zs) (by_ := by_) (i := k) (by rw [HN.out]; exact hc2) (by rw [hj, Int.toNat_natCast]; exact hz))
            have e2 := hown.cellAt k (by omega)
            rw [List.getElem?_eq_getElem (by rw [hown.1]; omega)] at e2
            obtain ⟨u, e2⟩ : ∃ u, wr.cell? ⟨w.heap.size, k, none⟩ = some u := ⟨_, e2⟩
            have e3 := hown.frozenAt k
            have hst := hide (hown.stored k (.bool z)).1
            have h1 : (0 : Int) ≤ (k : Int) := by omega
            have h2 : (k : Int) < (n : Int) := by omega
            have h3 : (0 : Int) ≤ (j : Int) := by omega
            have h4 : (j : Int) < (n : Int) := by omega
            have HX := hide (set_nextv ((drift zs by_).map Value.bool) (.bool false) k n (.bool z) hlt (by rw [List.length_map, drift_len, HN.out]) (by rw [List.getElem?_map, HD.out, HV.out]; rfl))
            clear hc1 hz hb9
            rw [hj] at hc2
            go_wp2_with (first | (go_at_call 56; refine (impl_between _ _ _ _).mono ?_; rintro e w1 ⟨rfl, rfl⟩))
            go_roundw
            case rel =>
              refine ⟨k + 1, by omega, by go_num, hB.setCell (Nat.le_refl _) _, ?_⟩
              have := hst.out
              rw [HX.out] at this
              exact this
            case measure => simp [intOf]; omega
        · go_wp2
          go_ret
          obtain rfl : k = n := by omega
          rw [List.take_of_length_le (by rw [List.length_map, drift_len, HN.out]; exact Nat.le_refl _), Nat.sub_self, List.replicate_zero, List.append_nil] at hown
          exact ⟨_, _, rfl, hown, hB⟩
  · rw [drifted_no (by unfold driftOk; rw [hn, decide_eq_false h64]; rfl)]
    clear hn
    go_enter Try.func25, Try.ntmps25
    go_wp2_with (first | (go_at_call 56; refine (impl_between _ _ _ _).mono ?_; rintro e w1 ⟨rfl, rfl⟩))
    go_ret
    exact ⟨none, 0, rfl, World.ownsRow_nil _ _ _ _, Below.refl _ _⟩

set_option maxHeartbeats 1000000 in
theorem spec_DriftPass (a : Option Addr) (n c : Nat) (zs : List Bool) (by_ : Int) (w : World) (ha : IsBools w a n c zs) (hs : n ≤ 1048576) :
    Calls Try.prog 24 #[.slice a n c, .int .i64 by_] w (Fresh w 4 1 (drifted zs by_).length ((drifted zs by_).map Value.bool)) := by
  obtain ⟨hn, hc, hm, hr⟩ := ha
  obtain ⟨i0, hi, hz0, hz1, hz2⟩ := info_parts info_bool
  have Hr := hide hr; have HN := hide hn
  clear hr hm
  by_cases h64 : n ≤ 64
  · cases hb : btw by_ (-64) 64
    · rw [drifted_no (by unfold driftOk; rw [hb, Bool.and_false])]
      clear hn
      go_enter Try.func24, Try.ntmps24
      go_wp2_with (first | (go_at_call 55; refine (spec_l01In _ _ _ _).mono ?_; rintro e w1 ⟨rfl, rfl⟩))
      go_ret
      exact ⟨_, _, rfl, World.ownsRow_made w #[] 0 (Nat.le_refl _) (by decide) rfl, by go_grown⟩
    · have hb' := btw_true.1 hb
      have hb1 := hb'.1; have hb2 := hb'.2
      have hok : driftOk zs by_ = true := by unfold driftOk; rw [hb, hn, decide_eq_true h64]; rfl
      rw [drifted_len hn hok, show drifted zs by_ = drift zs by_ from if_pos hok]
      clear hn hb' hok
      go_enter Try.func24, Try.ntmps24
      go_wp2_with (first | (go_at_call 55; refine (spec_l01In _ _ _ _).mono ?_; rintro e w1 ⟨rfl, rfl⟩))
      go_loopw [5, 6] (fun v i wr => ∃ (k : Nat) (a' : Option Addr) (c' : Nat), k ≤ n ∧ i = .int .i64 k ∧ v = .slice a' k c' ∧ Below w.heap.size w wr ∧ wr.ownsRow w.heap.size 4 1 (.slice a' k c') k (((drift zs by_).map Value.bool).take k)) (fun _ i _ => n - (intOf i).toNat)
      case atStart => exact ⟨0, _, _, by omega, rfl, rfl, by go_grown, by simpa using World.ownsRow_made w #[] 0 (Nat.le_refl _) (by decide) rfl⟩
      case round =>
        obtain ⟨k, a', c', hk, rfl, rfl, hB, hown⟩ := hrel
        by_cases hlt : k < n
        · have HD := hide (drift_at (xs := zs) (by_ := by_) (i := k) (by rw [HN.out]; exact hlt))
          have hsz := hB.size
          cases hc2 : btw ((k : Int) - by_) 0 ((n : Int) - 1)
          · have HV := hide (driftAt_out (xs := zs) (by_ := by_) (i := k) (by rw [HN.out]; exact hc2))
            go_wp2_with (first | (go_at_call 55; refine (spec_l01In _ _ _ _).mono ?_; rintro e w1 ⟨rfl, rfl⟩) | (at_builtin; refine wpList_append_own _ rfl _ _ 22 rfl w.heap.size 4 i0 (.bool false) 1 1 Try.underlying22 hi hz0 hz1 hz2 rfl (by decide) _ _ _ rfl (hown.alloc _) ⟨wr.heap.size, 0, none⟩ 1 1 [.bool false] rfl rfl ?c1 ?c2 ?c3 ?c4 ?c5 ?_))
            case c1 =>
              intro j u hj
              match j, hj with
              | 0, hj => simp at hj; subst hj; simp [Addr.add]
            case c2 => intro u hu; simp at hu; subst hu; rfl
            case c3 => unfold maxLen; omega
            case c4 => omega
            case c5 => simp; omega
            · intro v' w3 hown3 hg3 _
              obtain ⟨a3, c3, rfl⟩ := own_shape hown3
              have hB3 : Below w.heap.size w w3 := (hB.alloc (by omega) _).grown hg3 (by simp; omega) (fun j hj => (hown.lt j hj).1)
              have HO := hide hown3
              clear hown3
              go_wp2
              go_roundw
              case rel => exact ⟨k + 1, _, _, by omega, by go_num, rfl, hB3, by rw [take_snoc (z := .bool false) (by rw [List.getElem?_map, HD.out, HV.out]; rfl)]; exact HO.out⟩
              case measure => simp [intOf]; omega
          · have hb9 := btw_true.1 hc2
            obtain ⟨j, hj⟩ : ∃ j : Nat, (k : Int) - by_ = (j : Int) := ⟨((k : Int) - by_).toNat, by omega⟩
            have hjn : j < n := by omega
            obtain ⟨z, b1, o1, hz, rfl, hlb, hc1⟩ := Hr.out.get (k := j) (by rw [HN.out]; exact hjn)
            have e1 := (hB.cell (p := ⟨b1, o1 + j, none⟩) hlb).trans hc1
            have HV := hide (driftAt_in (xs := zs) (by_ := by_) (i := k) (by rw [HN.out]; exact hc2) (by rw [hj, Int.toNat_natCast]; exact hz))
            have h1 : (0 : Int) ≤ (k : Int) := by omega
            have h2 : (k : Int) < (n : Int) := by omega
            have h3 : (0 : Int) ≤ (j : Int) := by omega
            have h4 : (j : Int) < (n : Int) := by omega
            clear hc1 hz hb9
            rw [hj] at hc2
            go_wp2_with (first | (go_at_call 55; refine (spec_l01In _ _ _ _).mono ?_; rintro e w1 ⟨rfl, rfl⟩) | (at_builtin; refine wpList_append_own _ rfl _ _ 22 rfl w.heap.size 4 i0 (.bool false) 1 1 Try.underlying22 hi hz0 hz1 hz2 rfl (by decide) _ _ _ rfl (hown.alloc _) ⟨wr.heap.size, 0, none⟩ 1 1 [.bool z] rfl rfl ?d1 ?d2 ?d3 ?d4 ?d5 ?_))
            case d1 =>
              intro j u hj
              match j, hj with
              | 0, hj => simp at hj; subst hj; simp [Addr.add]
            case d2 => intro u hu; simp at hu; subst hu; rfl
            case d3 => unfold maxLen; omega
            case d4 => omega
            case d5 => simp; omega
            · intro v' w3 hown3 hg3 _
              obtain ⟨a3, c3, rfl⟩ := own_shape hown3
              have hB3 : Below w.heap.size w w3 := (hB.alloc (by omega) _).grown hg3 (by simp; omega) (fun j hj => (hown.lt j hj).1)
              have HO := hide hown3
              clear hown3
              go_wp2
              go_roundw
              case rel => exact ⟨k + 1, _, _, by omega, by go_num, rfl, hB3, by rw [take_snoc (z := .bool z) (by rw [List.getElem?_map, HD.out, HV.out]; rfl)]; exact HO.out⟩
              case measure => simp [intOf]; omega
        · go_wp2
          go_ret
          obtain rfl : k = n := by omega
          rw [List.take_of_length_le (by rw [List.length_map, drift_len, HN.out]; exact Nat.le_refl _)] at hown
          exact ⟨_, _, rfl, hown, hB⟩
  · rw [drifted_no (by unfold driftOk; rw [hn, decide_eq_false h64]; rfl)]
    clear hn
    go_enter Try.func24, Try.ntmps24
    go_wp2_with (first | (go_at_call 55; refine (spec_l01In _ _ _ _).mono ?_; rintro e w1 ⟨rfl, rfl⟩))
    go_ret
    exact ⟨_, _, rfl, World.ownsRow_made w #[] 0 (Nat.le_refl _) (by decide) rfl, by go_grown⟩
end Go.Proofs.Ytboejjplclaifaa
