/- The margin of a delay: what MarginOf computes, of the program and of the reference. -/
import Derived.Test.YtahfbhfmhccgoaaTrain
set_option linter.unusedSimpArgs false
set_option linter.unusedVariables false
namespace Go.Proofs.Ytahfbhfmhccgoaa
open Go.RowKit Go.ChangeShapes Go.WideShapes Go.ChangeAt Go.Joins Go.Deep
open Go.ChangeMaps (open_string shut_string)

def getB (xs : List Bool) (i : Nat) : Bool := xs[i]?.getD false
theorem getB_at {xs : List Bool} {i : Nat} {z : Bool} (h : xs[i]? = some z) : getB xs i = z := by unfold getB; rw [h]; rfl
/-- May the margin of delay d grow from m to m + 1? -/
def mgOk (xs : List Bool) (d m : Nat) : Bool := decide (m < d) && (decide (d + m + 1 < xs.length) && (getB xs (d - m - 1) && getB xs (d + m + 1)))
def mgFrom (xs : List Bool) (d : Nat) : Nat → Nat → Nat
  | 0, m => m
  | f + 1, m => if mgOk xs d m = true then mgFrom xs d f (m + 1) else m
theorem mgFrom_yes {xs : List Bool} {d m f : Nat} (h : mgOk xs d m = true) (hf : 0 < f) : mgFrom xs d f m = mgFrom xs d (f - 1) (m + 1) := by
  obtain ⟨g, rfl⟩ : ∃ g, f = g + 1 := ⟨f - 1, by omega⟩
  show (if _ then _ else _) = _
  rw [if_pos h]; rfl
theorem mgFrom_no {xs : List Bool} {d m f : Nat} (h : mgOk xs d m = false) : mgFrom xs d f m = m := by
  cases f with
  | zero => rfl
  | succ f => show (if _ then _ else _) = _; rw [if_neg (by simp [h])]
theorem mgOk_d {xs : List Bool} {d m : Nat} (h : ¬ m < d) : mgOk xs d m = false := by simp [mgOk, h]
theorem mgOk_n {xs : List Bool} {d m : Nat} (h : ¬ d + m + 1 < xs.length) : mgOk xs d m = false := by
  unfold mgOk; rw [decide_eq_false h, Bool.false_and, Bool.and_false]
theorem mgOk_z {xs : List Bool} {d m : Nat} {y z : Bool} (h1 : m < d) (h2 : d + m + 1 < xs.length) (h3 : xs[d - m - 1]? = some y) (h4 : xs[d + m + 1]? = some z) : mgOk xs d m = (y && z) := by
  unfold mgOk; rw [getB_at h3, getB_at h4, decide_eq_true h1, decide_eq_true h2]; simp
def margin (xs : List Bool) (dl : Int) : Int :=
  if xs.length ≤ 64 ∧ btw dl 0 ((xs.length : Int) - 1) = true ∧ getB xs dl.toNat = true then (mgFrom xs dl.toNat 64 0 : Int) else -1

end Go.Proofs.Ytahfbhfmhccgoaa
