/- Power states: what PowerIdle, PowerWant and PowerChange compute, of the program and of the reference. -/
import Derived.Test.YtahfbhfmhccgoaaPowerOk
set_option linter.unusedSimpArgs false
set_option linter.unusedVariables false
namespace Go.Proofs.Ytahfbhfmhccgoaa
open Go.RowKit Go.ChangeShapes Go.WideShapes Go.ChangeAt Go.Joins Go.Deep
open Go.ChangeMaps (open_string shut_string)

theorem powOkB_true {s t i : Int} : powOkB s t i = true ↔ (0 ≤ s ∧ s ≤ 2) ∧ (0 ≤ t ∧ t ≤ 1000000) ∧ (0 ≤ i ∧ i ≤ 1000000) := by simp [powOkB, btw_true]
/-- The idle count behind a cycle. -/
def powIdle (s t i : Int) (work : Bool) : Int := if powOkB s t i = true then (if work = true then 0 else min (i + 1) 1000000) else i
/-- The command that a rank wants. -/
def powWant (d l s t i : Int) (work : Bool) : Int :=
  if ruleOkB d l = true ∧ powOkB s t i = true then
    (if work = true then (if (s == 1) = true then 7 else if (s == 2) = true then 9 else 0)
     else if (s == 0) = true then (if l ≤ i then 8 else if d ≤ i then 6 else 0) else if (s == 1) = true then (if l ≤ i then 7 else 0) else 0)
  else 0
/-- The state that a command leads from, the state that it leads to, and whether it changes the state. -/
def powFrom (k : Int) : Int := if (k == 6) = true then 0 else if (k == 8) = true then 0 else if (k == 7) = true then 1 else if (k == 9) = true then 2 else -1
def powTo (k : Int) : Int := if (k == 6) = true then 1 else if (k == 8) = true then 2 else 0
def powChanges (s t i k now : Int) : Bool := powOkB s t i && (btw now t 1000000 && !(s != powFrom k))
def powChanged (s t i k now : Int) : Value :=
  if powChanges s t i k now = true then .tuple #[.agg #[.int .i64 (powTo k), .int .i64 now, .int .i64 i], .bool true]
  else .tuple #[.agg #[.int .i64 s, .int .i64 t, .int .i64 i], .bool false]
def chS (s t i k now : Int) : Int := if powChanges s t i k now = true then powTo k else s
def chT (s t i k now : Int) : Int := if powChanges s t i k now = true then now else t
theorem powChanged_eq (s t i k now : Int) : powChanged s t i k now = .tuple #[.agg #[.int .i64 (chS s t i k now), .int .i64 (chT s t i k now), .int .i64 i], .bool (powChanges s t i k now)] := by
  unfold powChanged chS chT; cases h : powChanges s t i k now <;> simp
theorem ret_val {a b : Value} (h : a = b) : Ending.returned a = .returned b := by rw [h]

set_option maxHeartbeats 1000000 in
theorem impl_PowerChange (s t i k now : Int) (w : World) :
    Calls Try.prog 60 #[.agg #[.int .i64 s, .int .i64 t, .int .i64 i], .int .i64 k, .int .i64 now] w fun e w' => e = .returned (powChanged s t i k now) ∧ Below w.heap.size w w' := by
  cases hok : powOkB s t i
  rotate_left
  have hm1 : (s == -1) = false := by have := (powOkB_true.1 hok).1.1; simp; omega
  have hm2 : (s != -1) = true := by have := (powOkB_true.1 hok).1.1; simp; omega
  rotate_left
  all_goals cases hn : btw now t 1000000
  all_goals
    go_enter Try.func60, Try.ntmps60
    go_wp2_with (first | (go_at_call 111; refine (impl_PowerOk _ _ _ _).mono ?_; rintro e w1 ⟨rfl, h1⟩; (try (have hz0 : w.heap.size < w1.heap.size := (by have := h1.size; (try simp at this); omega); have hl0 := (fun o => (bcell h1).1 (w.heap.size) o (by go_size)); have hv0 := (fun o => (bcell h1).2 (w.heap.size) o (by go_size)))); (try (have hz1 : w.heap.size + 1 < w1.heap.size := (by have := h1.size; (try simp at this); omega); have hl1 := (fun o => (bcell h1).1 (w.heap.size + 1) o (by go_size)); have hv1 := (fun o => (bcell h1).2 (w.heap.size + 1) o (by go_size)))); (try (have hz2 : w.heap.size + 1 + 1 < w1.heap.size := (by have := h1.size; (try simp at this); omega); have hl2 := (fun o => (bcell h1).1 (w.heap.size + 1 + 1) o (by go_size)); have hv2 := (fun o => (bcell h1).2 (w.heap.size + 1 + 1) o (by go_size)))); replace h1 : Below w.heap.size w w1 := bthen (by go_grown) h1 (by first | go_size | omega); obtain ⟨hc1, hf1⟩ := bcell h1) | (go_at_call 77; refine (impl_between _ _ _ _).mono ?_; rintro e w1 ⟨rfl, rfl⟩))
    all_goals (refine bodyPost_ret (by simp [results, Try.results60, go_sem, *]; try rfl) rfl ?_; exact ⟨ret_val (by first | (simp only [powChanged, powChanges, powFrom, powTo, *, Bool.not_true, Bool.not_false, Bool.true_and, Bool.false_and, Bool.and_true, Bool.and_false, if_true, if_false, reduceCtorEq, Bool.false_eq_true]; done) | (simp [powChanged, powChanges, powFrom, powTo, *]; done) | (subst_vars; simp [powChanged, powChanges, powFrom, powTo, *]; done)), by go_grown⟩)

end Go.Proofs.Ytahfbhfmhccgoaa
