/- Draining: what DrainAfter, DrainAllows and DrainSwitches compute, of the program and of the reference, and what the laws' own helpers do. -/
import Derived.Test.YtlaoeaecbdmebaaDrainOk
set_option linter.unusedSimpArgs false
set_option linter.unusedVariables false
namespace Go.Proofs.Ytlaoeaecbdmebaa
open Go.RowKit Go.ChangeShapes Go.WideShapes Go.ChangeAt Go.Joins Go.Deep
open Go.ChangeMaps (open_string shut_string)

/-- Whether it drains behind a count of writes. -/
def drainAfterB (on : Bool) (lo hi x : Int) : Bool := if drainOkB lo hi = true then (if hi ≤ x then true else if x ≤ lo then false else on) else on
def drainAllowsB (on : Bool) (lo hi reads : Int) (write : Bool) : Bool := drainOkB lo hi && (if write = true then on || decide (reads < 1) else !on)
theorem drainOkB_lt {lo hi : Int} (h : drainOkB lo hi = true) : 0 ≤ lo ∧ lo < hi ∧ hi ≤ 12 := by simpa [drainOkB] using h

set_option maxHeartbeats 400000 in
theorem impl_DrainAfter (on : Bool) (lo hi x : Int) (w : World) :
    Calls Try.prog 20 #[.agg #[.bool on, .int .i64 lo, .int .i64 hi], .int .i64 x] w fun e w' => e = .returned (.agg #[.bool (drainAfterB on lo hi x), .int .i64 lo, .int .i64 hi]) ∧ Below w.heap.size w w' := by
  cases hok : drainOkB lo hi
  rotate_left
  have hlohi := drainOkB_lt hok
  rotate_left
  all_goals
    go_enter Try.func20, Try.ntmps20
    go_wp2_with (first | (go_at_call 18; refine (impl_DrainOk _ _ _ _).mono ?_; rintro e w1 ⟨rfl, h1⟩; (try (have hz0 : w.heap.size < w1.heap.size := (by have := h1.size; (try simp at this); omega); have hl0 := (fun o => (bcell h1).1 (w.heap.size) o (by go_size)); have hv0 := (fun o => (bcell h1).2 (w.heap.size) o (by go_size)))); (try (have hz1 : w.heap.size + 1 < w1.heap.size := (by have := h1.size; (try simp at this); omega); have hl1 := (fun o => (bcell h1).1 (w.heap.size + 1) o (by go_size)); have hv1 := (fun o => (bcell h1).2 (w.heap.size + 1) o (by go_size)))); (try (have hz2 : w.heap.size + 1 + 1 < w1.heap.size := (by have := h1.size; (try simp at this); omega); have hl2 := (fun o => (bcell h1).1 (w.heap.size + 1 + 1) o (by go_size)); have hv2 := (fun o => (bcell h1).2 (w.heap.size + 1 + 1) o (by go_size)))); replace h1 : Below w.heap.size w w1 := bthen (by go_grown) h1 (by first | go_size | omega); obtain ⟨hc1, hf1⟩ := bcell h1))
    all_goals (refine bodyPost_ret (by simp [results, Try.results20, go_sem, *]; try rfl) rfl ?_; exact ⟨by first | (simp [drainAfterB, *]; done) | (simp (disch := omega) [drainAfterB, hok, if_pos, if_neg]; done), by go_grown⟩)

set_option maxHeartbeats 400000 in
theorem impl_DrainAllows (on : Bool) (lo hi x : Int) (b : Bool) (w : World) :
    Calls Try.prog 19 #[.agg #[.bool on, .int .i64 lo, .int .i64 hi], .int .i64 x, .bool b] w fun e w' => e = .returned (.bool (drainAllowsB on lo hi x b)) ∧ Below w.heap.size w w' := by
  cases hok : drainOkB lo hi
  rotate_left
  have hlohi := drainOkB_lt hok
  rotate_left
  all_goals
    go_enter Try.func19, Try.ntmps19
    go_wp2_with (first | (go_at_call 18; refine (impl_DrainOk _ _ _ _).mono ?_; rintro e w1 ⟨rfl, h1⟩; (try (have hz0 : w.heap.size < w1.heap.size := (by have := h1.size; (try simp at this); omega); have hl0 := (fun o => (bcell h1).1 (w.heap.size) o (by go_size)); have hv0 := (fun o => (bcell h1).2 (w.heap.size) o (by go_size)))); (try (have hz1 : w.heap.size + 1 < w1.heap.size := (by have := h1.size; (try simp at this); omega); have hl1 := (fun o => (bcell h1).1 (w.heap.size + 1) o (by go_size)); have hv1 := (fun o => (bcell h1).2 (w.heap.size + 1) o (by go_size)))); (try (have hz2 : w.heap.size + 1 + 1 < w1.heap.size := (by have := h1.size; (try simp at this); omega); have hl2 := (fun o => (bcell h1).1 (w.heap.size + 1 + 1) o (by go_size)); have hv2 := (fun o => (bcell h1).2 (w.heap.size + 1 + 1) o (by go_size)))); replace h1 : Below w.heap.size w w1 := bthen (by go_grown) h1 (by first | go_size | omega); obtain ⟨hc1, hf1⟩ := bcell h1))
    all_goals (go_ret; exact ⟨by first | (simp [drainAllowsB, *]; done) | (simp [drainAllowsB, *] <;> omega), by go_grown⟩)

end Go.Proofs.Ytlaoeaecbdmebaa
