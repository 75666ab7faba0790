/- The commands of a trace without rows (refresh, down, up, sleep, wake): form, state. -/
import Derived.Test.YtahfbhfmhccgoaaNeed
import Derived.Test.YtahfbhfmhccgoaaGeo
set_option linter.unusedSimpArgs false
set_option linter.unusedVariables false
namespace Go.Proofs.Ytahfbhfmhccgoaa
open Go.RowKit Go.ChangeShapes Go.WideShapes Go.ChangeAt Go.Joins Go.Deep
open Go.ChangeMaps (open_string shut_string)
def fast : Tm := ⟨3, 3, 7, 2, 3, 10, 2, 3, 3, 6, 4, 5, 4, 12, 3, 4, 16⟩
set_option maxRecDepth 100000 in
set_option maxHeartbeats 2000000 in
theorem spec_FastTiming (w : World) : Calls Try.prog 48 #[] w fun e w' => e = .returned (.agg (tmC fast).toArray) ∧ Below w.heap.size w w' := by
  go_enter Try.func48, Try.ntmps48
  go_wp2
  go_returns
  exact ⟨rfl, by go_grown⟩
set_option maxHeartbeats 800000 in
theorem spec_l06Uses (k : Int) (b1 b2 b3 : Bool) (w : World) (h1 : btw k 1 5 = b1) (h2 : (k == 1) = b2) (h3 : (k == 2 || k == 3) = b3) :
    Calls Try.prog 137 #[.int .i64 k] w fun e w' => e = .returned (.tuple #[.bool b1, .bool b2, .bool b3]) ∧ w = w' := by
  go_enter Try.func137, Try.ntmps137
  go_wp2_with (first | (go_at_call 78; refine (spec_l01In _ _ _ _).mono ?_; rintro e w1 ⟨rfl, rfl⟩))
  all_goals go_returns
  all_goals (refine ⟨?_, rfl⟩; subst h1 h2 h3; simp_all)
/-- A command that names no row: its kind, and its bank where it is a refresh. -/
def NoRow (g : Ge) (k b : Int) : Prop := (k = 5 ∧ 0 ≤ b ∧ b < bankCnt g) ∨ ((k = 6 ∨ k = 7 ∨ k = 8 ∨ k = 9) ∧ b = 0)
set_option maxRecDepth 100000 in
set_option maxHeartbeats 2000000 in
theorem spec_l06Form (g : Ge) (k b : Int) (w : World) (h : NoRow g k b) :
    Calls Try.prog 138 #[.agg #[.int .i64 k, .int .i64 b, .int .i64 0, .int .i64 0]] w fun e w' => e = .returned (.bool true) ∧ Below w.heap.size w w' := by
  have hb := bankCnt_bd g
  have hb7 : 0 ≤ b ∧ b ≤ 7 := by rcases h with ⟨_, h1, h2⟩ | ⟨_, h1⟩ <;> omega
  have hq := btw_mk hb7.1 hb7.2
  rcases h with ⟨rfl, h1, h2⟩ | ⟨rfl | rfl | rfl | rfl, rfl⟩
  all_goals
    go_enter Try.func138, Try.ntmps138
    go_wp2_with fail
  · refine (spec_l06Uses 5 true false false _ rfl rfl rfl).mono ?_
    rintro e w' ⟨rfl, rfl⟩
    go_wp2_with (first | (go_at_call 78; refine (spec_l01In _ _ _ _).mono ?_; rintro e w1 ⟨rfl, rfl⟩))
    go_ret
    exact ⟨rfl, by go_grown⟩
  · refine (spec_l06Uses 6 false false false _ rfl rfl rfl).mono ?_
    rintro e w' ⟨rfl, rfl⟩
    go_wp2_with (first | (go_at_call 78; refine (spec_l01In _ _ _ _).mono ?_; rintro e w1 ⟨rfl, rfl⟩))
    go_ret
    exact ⟨rfl, by go_grown⟩
  · refine (spec_l06Uses 7 false false false _ rfl rfl rfl).mono ?_
    rintro e w' ⟨rfl, rfl⟩
    go_wp2_with (first | (go_at_call 78; refine (spec_l01In _ _ _ _).mono ?_; rintro e w1 ⟨rfl, rfl⟩))
    go_ret
    exact ⟨rfl, by go_grown⟩
  · refine (spec_l06Uses 8 false false false _ rfl rfl rfl).mono ?_
    rintro e w' ⟨rfl, rfl⟩
    go_wp2_with (first | (go_at_call 78; refine (spec_l01In _ _ _ _).mono ?_; rintro e w1 ⟨rfl, rfl⟩))
    go_ret
    exact ⟨rfl, by go_grown⟩
  · refine (spec_l06Uses 9 false false false _ rfl rfl rfl).mono ?_
    rintro e w' ⟨rfl, rfl⟩
    go_wp2_with (first | (go_at_call 78; refine (spec_l01In _ _ _ _).mono ?_; rintro e w1 ⟨rfl, rfl⟩))
    go_ret
    exact ⟨rfl, by go_grown⟩
end Go.Proofs.Ytahfbhfmhccgoaa
