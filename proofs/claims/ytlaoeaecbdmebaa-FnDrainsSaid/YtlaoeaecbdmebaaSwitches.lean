/- DrainSwitches: how often draining begins or ends: of the program and of the reference. -/
import Derived.Test.YtlaoeaecbdmebaaDrain
import Derived.Test.YtlaoeaecbdmebaaInts
import Derived.Deep.RegionHeld3
set_option linter.unusedSimpArgs false
set_option linter.unusedVariables false
namespace Go.Proofs.Ytlaoeaecbdmebaa
open Go.RowKit Go.ChangeShapes Go.WideShapes Go.ChangeAt Go.Joins Go.Deep
open Go.ChangeMaps (open_string shut_string)

def swSt (lo hi : Int) (s : Bool × Int) (x : Int) : Bool × Int := (drainAfterB s.1 lo hi x, if (!(drainAfterB s.1 lo hi x == s.1)) = true then s.2 + 1 else s.2)
def swRun (on : Bool) (lo hi : Int) (xs : List Int) : Bool × Int := xs.foldl (swSt lo hi) (on, 0)
theorem swRun_snoc (on : Bool) (lo hi : Int) (xs : List Int) (k : Nat) (z : Int) (h : xs[k]? = some z) : swRun on lo hi (xs.take (k + 1)) = swSt lo hi (swRun on lo hi (xs.take k)) z := by
  unfold swRun
  rw [take_snoc h, List.foldl_append, List.foldl_cons, List.foldl_nil]
theorem swRun_bd (on : Bool) (lo hi : Int) (xs : List Int) (k : Nat) (h : k ≤ xs.length) : 0 ≤ (swRun on lo hi (xs.take k)).2 ∧ (swRun on lo hi (xs.take k)).2 ≤ k := by
  induction k with
  | zero => simp [swRun]
  | succ k ih =>
    rw [swRun_snoc _ _ _ _ _ _ (List.getElem?_eq_getElem (show k < xs.length by omega))]
    have := ih (by omega)
    unfold swSt
    simp only
    split <;> omega
theorem swRun_no (on : Bool) (lo hi : Int) (xs : List Int) (h : drainOkB lo hi = false) : swRun on lo hi xs = (on, 0) := by
  unfold swRun
  induction xs with
  | nil => rfl
  | cons x xs ih => rw [List.foldl_cons]; simpa [swSt, drainAfterB, h] using ih

set_option maxHeartbeats 800000 in
theorem impl_DrainSwitches (on : Bool) (lo hi : Int) (a : Option Addr) (n c : Nat) (zs : List Int) (w : World) (ha : IsInts .i64 w a n c zs) (hs : n ≤ 1048576) :
    Calls Try.prog 21 #[.agg #[.bool on, .int .i64 lo, .int .i64 hi], .slice a n c] w fun e w' => e = .returned (.int .i64 (swRun on lo hi zs).2) ∧ Below w.heap.size w w' := by
  obtain ⟨hn, hc, hm, hw, hr⟩ := ha
  have Hr := hide hr; have HN := hide hn
  clear hr hw hm hn
  go_enter Try.func21, Try.ntmps21
  go_wp2
  go_loopw [5, 11] (fun v i wr => ∃ k : Nat, k ≤ n ∧ i = .int .i64 k ∧ v = .int .i64 (swRun on lo hi (zs.take k)).2 ∧ Below w.heap.size w wr ∧ w.heap.size < wr.heap.size ∧
      wr.cell? ⟨w.heap.size, 0, none⟩ = some (.bool (swRun on lo hi (zs.take k)).1) ∧ wr.cell? ⟨w.heap.size, 1, none⟩ = some (.int .i64 lo) ∧ wr.cell? ⟨w.heap.size, 2, none⟩ = some (.int .i64 hi) ∧ (∀ o, wr.frozen? ⟨w.heap.size, o, none⟩ = false)) (fun _ i _ => n - (intOf i).toNat)
  case atStart => exact ⟨0, by omega, rfl, rfl, by go_grown, by simp, by simp [swRun], by simp, by simp, by simp⟩
  case round =>
    obtain ⟨k, hk, rfl, rfl, hB, hsz, e0, e1, e2, hf⟩ := hrel
    by_cases hlt : k < n
    · obtain ⟨z, b1, o1, hz, rfl, hlb, hc1⟩ := Hr.out.get (k := k) (by rw [HN.out]; omega)
      have e3 := (hB.cell (p := ⟨b1, o1 + k, none⟩) hlb).trans hc1
      have h1 : (0 : Int) ≤ (k : Int) := by omega
      have h2 : (k : Int) < (n : Int) := by omega
      have hb := swRun_bd on lo hi zs k (by rw [HN.out]; omega)
      have hb1 := hb.1
      have hb2 := hb.2
      have HS := hide (swRun_snoc on lo hi zs k z hz)
      clear hc1 hb hz
      go_wp2_with (first | (go_at_call 20; refine (impl_DrainAfter _ _ _ _ _).mono ?_; rintro e w1 ⟨rfl, h1⟩; (try (have hz0 : wr.heap.size < w1.heap.size := (by have := h1.size; (try simp at this); omega); have hl0 := (fun o => (bcell h1).1 (wr.heap.size) o (by go_size)); have hv0 := (fun o => (bcell h1).2 (wr.heap.size) o (by go_size)))); replace h1 : Below wr.heap.size wr w1 := bthen (by go_grown) h1 (by first | go_size | omega); obtain ⟨hc1, hf1⟩ := bcell h1; have hzw : w.heap.size < w1.heap.size := (by have := h1.size; omega); have hB1 : Below w.heap.size w w1 := bthen hB h1 (by omega)))
      all_goals
        go_roundw
        case rel => exact ⟨k + 1, by omega, by go_num, by rw [HS.out]; simp only [swSt, *, if_true, Bool.false_eq_true, if_false], by go_grown, by simp; omega, by rw [HS.out]; simp [swSt, go_sem, *], by simp [go_sem, *], by simp [go_sem, *], by simp [go_sem, *]⟩
        case measure => simp [intOf]; omega
    · go_wp2
      go_ret
      obtain rfl : k = n := by omega
      exact ⟨ret_int (by rw [List.take_of_length_le (by rw [HN.out]; exact Nat.le_refl _)]), hB⟩

end Go.Proofs.Ytlaoeaecbdmebaa
