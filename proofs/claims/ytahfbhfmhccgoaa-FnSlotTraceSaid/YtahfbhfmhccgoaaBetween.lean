/- Whether a number lies between two others: the program's answer and the reference's. -/
import Derived.Test.YtahfbhfmhccgoaaCommon
set_option linter.unusedSimpArgs false
set_option linter.unusedVariables false
namespace Go.Proofs.Ytahfbhfmhccgoaa
open Go.RowKit Go.ChangeShapes Go.WideShapes Go.ChangeAt Go.Joins Go.Deep
open Go.ChangeMaps (open_string shut_string)

def btw (x a b : Int) : Bool := decide (a ≤ x) && decide (x ≤ b)
theorem btw_true {x a b : Int} : btw x a b = true ↔ a ≤ x ∧ x ≤ b := by simp [btw]
theorem btw_false {x a b : Int} : btw x a b = false ↔ x < a ∨ b < x := by
  rw [← Bool.not_eq_true, btw_true]; omega
theorem btw_mk {x a b : Int} (h1 : a ≤ x) (h2 : x ≤ b) : btw x a b = true := btw_true.2 ⟨h1, h2⟩
theorem btw_lo {x a b : Int} (h1 : x < a) : btw x a b = false := btw_false.2 (.inl h1)
theorem btw_hi {x a b : Int} (h1 : b < x) : btw x a b = false := btw_false.2 (.inr h1)

set_option maxHeartbeats 400000 in
theorem impl_between (x a b : Int) (w : World) :
    Calls Try.prog 77 #[.int .i64 x, .int .i64 a, .int .i64 b] w fun e w' => e = .returned (.bool (btw x a b)) ∧ w = w' := by
  by_cases h1 : a ≤ x
  · by_cases h2 : x ≤ b
    · rw [btw_mk h1 h2]
      go_enter Try.func77, Try.ntmps77
      go_wp2
      go_ret
      exact ⟨rfl, rfl⟩
    · rw [btw_hi (by omega)]
      go_enter Try.func77, Try.ntmps77
      go_wp2
      go_ret
      exact ⟨rfl, rfl⟩
  · rw [btw_lo (by omega)]
    go_enter Try.func77, Try.ntmps77
    go_wp2
    go_ret
    exact ⟨rfl, rfl⟩

set_option maxHeartbeats 400000 in
theorem spec_l01In (x a b : Int) (w : World) :
    Calls Try.prog 78 #[.int .i64 x, .int .i64 a, .int .i64 b] w fun e w' => e = .returned (.bool (btw x a b)) ∧ w = w' := by
  by_cases h1 : a ≤ x
  · by_cases h2 : x ≤ b
    · rw [btw_mk h1 h2]
      go_enter Try.func78, Try.ntmps78
      go_wp2
      go_ret
      exact ⟨rfl, rfl⟩
    · rw [btw_hi (by omega)]
      go_enter Try.func78, Try.ntmps78
      go_wp2
      go_ret
      exact ⟨rfl, rfl⟩
  · rw [btw_lo (by omega)]
    go_enter Try.func78, Try.ntmps78
    go_wp2
    go_ret
    exact ⟨rfl, rfl⟩
end Go.Proofs.Ytahfbhfmhccgoaa
