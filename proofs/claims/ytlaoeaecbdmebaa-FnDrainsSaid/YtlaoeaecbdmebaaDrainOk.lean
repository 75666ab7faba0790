/- Whether a drain's limits are well formed: the program's answer and the reference's. -/
import Derived.Test.YtlaoeaecbdmebaaCommon
set_option linter.unusedSimpArgs false
set_option linter.unusedVariables false
namespace Go.Proofs.Ytlaoeaecbdmebaa
open Go.RowKit Go.ChangeShapes Go.WideShapes Go.ChangeAt Go.Joins Go.Deep
open Go.ChangeMaps (open_string shut_string)

def drainOkB (lo hi : Int) : Bool := decide (0 ≤ lo) && (decide (lo < hi) && decide (hi ≤ 12))

set_option maxHeartbeats 400000 in
theorem impl_DrainOk (on : Bool) (lo hi : Int) (w : World) :
    Calls Try.prog 18 #[.agg #[.bool on, .int .i64 lo, .int .i64 hi]] w fun e w' => e = .returned (.bool (drainOkB lo hi)) ∧ Below w.heap.size w w' := by
  go_enter Try.func18, Try.ntmps18
  go_wp2
  all_goals go_ret
  all_goals exact ⟨by simp [drainOkB, *] <;> omega, by go_grown⟩

set_option maxHeartbeats 400000 in
theorem spec_DrainOk (on : Bool) (lo hi : Int) (w : World) :
    Calls Try.prog 17 #[.agg #[.bool on, .int .i64 lo, .int .i64 hi]] w fun e w' => e = .returned (.bool (drainOkB lo hi)) ∧ Below w.heap.size w w' := by
  go_enter Try.func17, Try.ntmps17
  go_wp2
  all_goals go_ret
  all_goals exact ⟨by simp [drainOkB, *] <;> omega, by go_grown⟩

end Go.Proofs.Ytlaoeaecbdmebaa
