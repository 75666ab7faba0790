/- Whether a power rule and a power state are well formed: the program's answer and the reference's. -/
import Derived.Test.YtlaoeaecbdmebaaBetween
set_option linter.unusedSimpArgs false
set_option linter.unusedVariables false
namespace Go.Proofs.Ytlaoeaecbdmebaa
open Go.RowKit Go.ChangeShapes Go.WideShapes Go.ChangeAt Go.Joins Go.Deep
open Go.ChangeMaps (open_string shut_string)

def ruleOkB (d s : Int) : Bool := btw d 1 10000 && (decide (d < s) && decide (s ≤ 20000))
def powOkB (s t i : Int) : Bool := btw s 0 2 && (btw t 0 1000000 && btw i 0 1000000)

set_option maxHeartbeats 400000 in
theorem impl_PowerRuleOk (d s : Int) (w : World) :
    Calls Try.prog 27 #[.agg #[.int .i64 d, .int .i64 s]] w fun e w' => e = .returned (.bool (ruleOkB d s)) ∧ Below w.heap.size w w' := by
  go_enter Try.func27, Try.ntmps27
  go_wp2_with (first | (go_at_call 80; refine (impl_between _ _ _ _).mono ?_; rintro e w1 ⟨rfl, rfl⟩))
  all_goals go_ret
  all_goals exact ⟨by first | (simp [ruleOkB, *]; done) | (simp [ruleOkB, *]; omega), by go_grown⟩

set_option maxHeartbeats 400000 in
theorem impl_PowerOk (s t i : Int) (w : World) :
    Calls Try.prog 26 #[.agg #[.int .i64 s, .int .i64 t, .int .i64 i]] w fun e w' => e = .returned (.bool (powOkB s t i)) ∧ Below w.heap.size w w' := by
  go_enter Try.func26, Try.ntmps26
  go_wp2_with (first | (go_at_call 80; refine (impl_between _ _ _ _).mono ?_; rintro e w1 ⟨rfl, rfl⟩))
  all_goals go_ret
  all_goals exact ⟨by first | (simp [powOkB, *]; done) | (simp [powOkB, *]; omega), by go_grown⟩

set_option maxHeartbeats 400000 in
theorem spec_PowerRuleOk (d s : Int) (w : World) :
    Calls Try.prog 24 #[.agg #[.int .i64 d, .int .i64 s]] w fun e w' => e = .returned (.bool (ruleOkB d s)) ∧ Below w.heap.size w w' := by
  go_enter Try.func24, Try.ntmps24
  go_wp2_with (first | (go_at_call 79; refine (spec_l01In _ _ _ _).mono ?_; rintro e w1 ⟨rfl, rfl⟩))
  all_goals go_ret
  all_goals exact ⟨by first | (simp [ruleOkB, *]; done) | (simp [ruleOkB, *]; omega), by go_grown⟩

set_option maxHeartbeats 400000 in
theorem spec_PowerOk (s t i : Int) (w : World) :
    Calls Try.prog 25 #[.agg #[.int .i64 s, .int .i64 t, .int .i64 i]] w fun e w' => e = .returned (.bool (powOkB s t i)) ∧ Below w.heap.size w w' := by
  go_enter Try.func25, Try.ntmps25
  go_wp2_with (first | (go_at_call 79; refine (spec_l01In _ _ _ _).mono ?_; rintro e w1 ⟨rfl, rfl⟩))
  all_goals go_ret
  all_goals exact ⟨by first | (simp [powOkB, *]; done) | (simp [powOkB, *]; omega), by go_grown⟩

set_option maxHeartbeats 400000 in
theorem laws_toPower (s t i : Int) (w : World) :
    Calls Try.prog 71 #[.agg #[.int .i64 s, .int .i64 t, .int .i64 i]] w fun e w' => e = .returned (.agg #[.int .i64 s, .int .i64 t, .int .i64 i]) ∧ Below w.heap.size w w' := by
  go_enter Try.func71, Try.ntmps71
  go_wp2
  go_returns
  exact ⟨rfl, by go_grown⟩
end Go.Proofs.Ytlaoeaecbdmebaa
