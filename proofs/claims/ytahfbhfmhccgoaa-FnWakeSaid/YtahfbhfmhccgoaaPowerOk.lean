/- Whether a power rule and a power state are well formed: the program's answer and the reference's. -/
import Derived.Test.YtahfbhfmhccgoaaBetween
set_option linter.unusedSimpArgs false
set_option linter.unusedVariables false
namespace Go.Proofs.Ytahfbhfmhccgoaa
open Go.RowKit Go.ChangeShapes Go.WideShapes Go.ChangeAt Go.Joins Go.Deep
open Go.ChangeMaps (open_string shut_string)

def ruleOkB (d s : Int) : Bool := btw d 1 10000 && (decide (d < s) && decide (s ≤ 20000))
def powOkB (s t i : Int) : Bool := btw s 0 2 && (btw t 0 1000000 && btw i 0 1000000)

set_option maxHeartbeats 400000 in
theorem impl_PowerOk (s t i : Int) (w : World) :
    Calls Try.prog 111 #[.agg #[.int .i64 s, .int .i64 t, .int .i64 i]] w fun e w' => e = .returned (.bool (powOkB s t i)) ∧ Below w.heap.size w w' := by
  go_enter Try.func111, Try.ntmps111
  go_wp2_with (first | (go_at_call 77; refine (impl_between _ _ _ _).mono ?_; rintro e w1 ⟨rfl, rfl⟩))
  all_goals go_ret
  all_goals exact ⟨by first | (simp [powOkB, *]; done) | (simp [powOkB, *]; omega), by go_grown⟩

end Go.Proofs.Ytahfbhfmhccgoaa
