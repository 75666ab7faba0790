/- A list of delays that drifts: what DriftPass computes, of the program and of the reference. -/
import Derived.Test.YtahfbhfmhccgoaaMargin
set_option linter.unusedSimpArgs false
set_option linter.unusedVariables false
namespace Go.Proofs.Ytahfbhfmhccgoaa
open Go.RowKit Go.ChangeShapes Go.WideShapes Go.ChangeAt Go.Joins Go.Deep
open Go.ChangeMaps (open_string shut_string)

/-- Whether delay i passes behind a drift. -/
def driftAt (xs : List Bool) (by_ : Int) (i : Nat) : Bool := btw ((i : Int) - by_) 0 ((xs.length : Int) - 1) && getB xs ((i : Int) - by_).toNat
def drift (xs : List Bool) (by_ : Int) : List Bool := (List.range xs.length).map (driftAt xs by_)
def driftOk (xs : List Bool) (by_ : Int) : Bool := decide (xs.length ≤ 64) && btw by_ (-64) 64
def drifted (xs : List Bool) (by_ : Int) : List Bool := if driftOk xs by_ = true then drift xs by_ else []
theorem drift_len (xs : List Bool) (by_ : Int) : (drift xs by_).length = xs.length := by simp [drift]
theorem drift_at {xs : List Bool} {by_ : Int} {i : Nat} (h : i < xs.length) : (drift xs by_)[i]? = some (driftAt xs by_ i) := by simp [drift, List.getElem?_range h]
theorem driftAt_out {xs : List Bool} {by_ : Int} {i : Nat} (h : btw ((i : Int) - by_) 0 ((xs.length : Int) - 1) = false) : driftAt xs by_ i = false := by unfold driftAt; rw [h]; rfl
theorem driftAt_in {xs : List Bool} {by_ : Int} {i : Nat} {z : Bool} (h : btw ((i : Int) - by_) 0 ((xs.length : Int) - 1) = true) (hz : xs[((i : Int) - by_).toNat]? = some z) : driftAt xs by_ i = z := by unfold driftAt; rw [h, getB_at hz]; rfl
theorem drifted_len {xs : List Bool} {by_ : Int} {n : Nat} (hn : xs.length = n) (h : driftOk xs by_ = true) : (drifted xs by_).length = n := by unfold drifted; rw [if_pos h, drift_len, hn]
theorem drifted_short (xs : List Bool) (by_ : Int) : (drifted xs by_).length ≤ xs.length := by
  unfold drifted; split
  · rw [drift_len]; exact Nat.le_refl _
  · simp
theorem drifted_no {xs : List Bool} {by_ : Int} (h : driftOk xs by_ = false) : drifted xs by_ = [] := by unfold drifted; rw [if_neg (by simp [h])]

theorem set_nextv {α : Type} (xs : List α) (z : α) (k n : Nat) (v : α) (hk : k < n) (hx : xs.length = n) (h : xs[k]? = some v) : (xs.take k ++ List.replicate (n - k) z).set k v = xs.take (k + 1) ++ List.replicate (n - (k + 1)) z := by
  obtain ⟨h1, rfl⟩ := List.getElem?_eq_some_iff.1 h
  exact set_next xs z k n hk hx
theorem same_next {α : Type} (xs : List α) (z : α) (k n : Nat) (hk : k < n) (h : xs[k]? = some z) : xs.take k ++ List.replicate (n - k) z = xs.take (k + 1) ++ List.replicate (n - (k + 1)) z := by
  rw [take_snoc h, show n - k = (n - (k + 1)) + 1 by omega, List.replicate_succ, List.append_assoc, List.singleton_append]

end Go.Proofs.Ytahfbhfmhccgoaa
