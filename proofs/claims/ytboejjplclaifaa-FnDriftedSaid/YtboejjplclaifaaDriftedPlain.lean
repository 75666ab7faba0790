/- Plain facts on one window that drifts: its place and its width. -/
import Derived.Test.YtboejjplclaifaaWindows
set_option linter.unusedSimpArgs false
set_option linter.unusedVariables false
namespace Go.Proofs.Ytboejjplclaifaa
open Go.RowKit Go.ChangeShapes Go.WideShapes Go.ChangeAt Go.Joins Go.Deep
open Go.ChangeMaps (open_string shut_string)

/-- The only passing delays are those from A to A + l. -/
def Block (xs : List Bool) (A l : Nat) : Prop := ∀ i, xs[i]? = some true ↔ A ≤ i ∧ i < A + l
theorem ww_block {xs : List Bool} {A l : Nat} (h : xs.length ≤ 64) (hb : Block xs A l) (hl : 0 < l) : ww xs = ((A : Int), (l : Int)) := by
  obtain ⟨f, l', e, h1, h2, h3⟩ := ww_inv xs h
  have hA : A + l ≤ xs.length := by have := (List.getElem?_eq_some_iff.1 ((hb (A + l - 1)).2 ⟨by omega, by omega⟩)).1; omega
  have h4 := h3 A l hA (fun i hi => (hb (A + i)).2 ⟨by omega, by omega⟩)
  have h5 := (hb _).1 (h2 0 (by omega))
  have h6 := (hb _).1 (h2 (l' - 1) (by omega))
  rw [e]
  obtain rfl : l' = l := by omega
  obtain rfl : f = A := by omega
  rfl
theorem bestOf_pos (A l : Int) (hl : 0 < l) : bestOf (A, l) = A + (l - 1) / 2 := by
  unfold bestOf
  rw [if_neg (by simp; omega)]

/-- Forty delays, the passing ones from A to A + k. -/
def passL (A k : Nat) : List Bool := (List.range 40).map fun j => decide (A ≤ j ∧ j < A + k)
theorem passL_len (A k : Nat) : (passL A k).length = 40 := by simp [passL]
theorem passL_at {A k i : Nat} (h : i < 40) : (passL A k)[i]? = some (decide (A ≤ i ∧ i < A + k)) := by simp [passL, List.getElem?_range h]
theorem passL_zero (A : Nat) : passL A 0 = List.replicate 40 false := by
  apply List.ext_getElem?
  intro i
  by_cases h : i < 40
  · rw [passL_at h, List.getElem?_replicate, if_pos h, decide_eq_false (by omega)]
  · rw [List.getElem?_eq_none (by rw [passL_len]; omega), List.getElem?_eq_none (by simp; omega)]
theorem passL_next {A k : Nat} (h : A + k < 40) : (passL A k).set (A + k) true = passL A (k + 1) := by
  apply List.ext_getElem?
  intro i
  rw [List.getElem?_set]
  by_cases hi : i < 40
  · by_cases he : A + k = i
    · rw [if_pos he, if_pos (by rw [passL_len]; omega), passL_at hi, decide_eq_true (by omega)]
    · rw [if_neg he, passL_at hi, passL_at hi]
      congr 1
      exact decide_eq_decide.2 (by omega)
  · rw [if_neg (by omega), List.getElem?_eq_none (by rw [passL_len]; omega), List.getElem?_eq_none (by rw [passL_len]; omega)]
theorem passL_block {A k : Nat} (h : A + k ≤ 40) : Block (passL A k) A k := fun i => by
  by_cases hi : i < 40
  · rw [passL_at hi]; simp
  · rw [List.getElem?_eq_none (by rw [passL_len]; omega)]
    constructor
    · intro h; cases h
    · intro h; omega
theorem drift_block {A k B : Nat} {by_ : Int} (h : A + k ≤ 40) (hb : (B : Int) = (A : Int) + by_) (h2 : B + k ≤ 40) : Block (drift (passL A k) by_) B k := fun i => by
  by_cases hi : i < 40
  · rw [drift_at (by rw [passL_len]; exact hi)]
    by_cases hc : btw ((i : Int) - by_) 0 ((40 : Int) - 1) = true
    · have hc' := btw_true.1 hc
      obtain ⟨j, hj⟩ : ∃ j : Nat, (i : Int) - by_ = (j : Int) := ⟨((i : Int) - by_).toNat, by omega⟩
      rw [driftAt_in (by rw [passL_len]; exact hc) (by rw [hj, Int.toNat_natCast]; exact passL_at (by omega))]
      simp
      omega
    · rw [driftAt_out (by rw [passL_len]; simpa using hc)]
      have hc' := btw_false.1 (by simpa using hc : btw ((i : Int) - by_) 0 ((40 : Int) - 1) = false)
      constructor
      · intro h; cases h
      · intro h; omega
  · rw [List.getElem?_eq_none (by rw [drift_len, passL_len]; omega)]
    constructor
    · intro h; cases h
    · intro h; omega
theorem passL_ok {A k : Nat} {by_ : Int} (h1 : -64 ≤ by_) (h2 : by_ ≤ 64) : driftOk (passL A k) by_ = true := by
  unfold driftOk; rw [passL_len, btw_mk h1 h2]; rfl
theorem drifted_pass {A k : Nat} {by_ : Int} (h1 : -64 ≤ by_) (h2 : by_ ≤ 64) : drifted (passL A k) by_ = drift (passL A k) by_ := if_pos (passL_ok h1 h2)
end Go.Proofs.Ytboejjplclaifaa
