/- Which of two requests stands before the other; how many slots there are. -/
import Derived.Test.YtahfbhfmhccgoaaServeP
set_option linter.unusedSimpArgs false
set_option linter.unusedVariables false
namespace Go.Proofs.Ytahfbhfmhccgoaa
open Go.RowKit Go.ChangeShapes Go.WideShapes Go.ChangeAt Go.Joins Go.Deep
open Go.ChangeMaps (open_string shut_string)
set_option maxHeartbeats 800000 in
theorem impl_arrivesBefore (a b : Rq) (w : World) :
    Calls Try.prog 123 #[.agg #[.int .i64 a.id, .int .i64 a.tenant, .int .i64 a.line, .bool a.write, .int .i64 a.data, .int .i64 a.tm], .agg #[.int .i64 b.id, .int .i64 b.tenant, .int .i64 b.line, .bool b.write, .int .i64 b.data, .int .i64 b.tm]] w fun e w' => e = .returned (.bool (befB a b)) ∧ Below w.heap.size w w' := by
  go_enter Try.func123, Try.ntmps123
  go_wp2
  all_goals go_ret
  all_goals exact ⟨by first | (simp [befB, *]; done) | (simp [befB, *]; omega), by go_grown⟩
set_option maxHeartbeats 800000 in
theorem spec_l19Before (a b : Rq) (w : World) :
    Calls Try.prog 126 #[.agg #[.int .i64 a.id, .int .i64 a.tenant, .int .i64 a.line, .bool a.write, .int .i64 a.data, .int .i64 a.tm], .agg #[.int .i64 b.id, .int .i64 b.tenant, .int .i64 b.line, .bool b.write, .int .i64 b.data, .int .i64 b.tm]] w fun e w' => e = .returned (.bool (befB a b)) ∧ Below w.heap.size w w' := by
  go_enter Try.func126, Try.ntmps126
  go_wp2
  all_goals go_ret
  all_goals exact ⟨by first | (simp [befB, *]; done) | (simp [befB, *]; omega), by go_grown⟩
theorem impl_arrivesBefore_is (a b : Rq) (v : Bool) (h : befB a b = v) (w : World) :
    Calls Try.prog 123 #[.agg #[.int .i64 a.id, .int .i64 a.tenant, .int .i64 a.line, .bool a.write, .int .i64 a.data, .int .i64 a.tm], .agg #[.int .i64 b.id, .int .i64 b.tenant, .int .i64 b.line, .bool b.write, .int .i64 b.data, .int .i64 b.tm]] w fun e w' => e = .returned (.bool v) ∧ Below w.heap.size w w' := by subst h; exact impl_arrivesBefore a b w
theorem spec_l19Before_is (a b : Rq) (v : Bool) (h : befB a b = v) (w : World) :
    Calls Try.prog 126 #[.agg #[.int .i64 a.id, .int .i64 a.tenant, .int .i64 a.line, .bool a.write, .int .i64 a.data, .int .i64 a.tm], .agg #[.int .i64 b.id, .int .i64 b.tenant, .int .i64 b.line, .bool b.write, .int .i64 b.data, .int .i64 b.tm]] w fun e w' => e = .returned (.bool v) ∧ Below w.heap.size w w' := by subst h; exact spec_l19Before a b w
/-- How many slots begin before a time. -/
def nSlots (u l : Int) : Nat := ((u + l - 1) / l).toNat
theorem nSlots_iff {u l : Int} (hl : 0 < l) (j : Nat) : (j : Int) * l < u ↔ j < nSlots u l := by
  unfold nSlots
  have b1 : (u + l - 1) / l * l ≤ u + l - 1 := Int.ediv_mul_le _ (by omega)
  have b2 : u + l - 1 < ((u + l - 1) / l + 1) * l := Int.lt_ediv_add_one_mul_self _ hl
  generalize (u + l - 1) / l = q at *
  rw [Int.add_mul, Int.one_mul] at b2
  constructor
  · intro h
    have h1 : (j : Int) < q := by
      have : (j : Int) * l < q * l := by omega
      exact Int.lt_of_mul_lt_mul_right this (by omega)
    omega
  · intro h
    have h1 : (j : Int) + 1 ≤ q := by omega
    have : ((j : Int) + 1) * l ≤ q * l := Int.mul_le_mul_of_nonneg_right h1 (by omega)
    rw [Int.add_mul, Int.one_mul] at this
    omega
theorem nSlots_le {u l : Int} (hl : 4 ≤ l) (hu : 0 ≤ u) (h : u / l ≤ 1000) : nSlots u l ≤ 1001 ∧ (nSlots u l : Int) * l ≤ u + l := by
  have b1 : (u + l - 1) / l * l ≤ u + l - 1 := Int.ediv_mul_le _ (by omega)
  have h0 : 0 ≤ (u + l - 1) / l := Int.ediv_nonneg (by omega) (by omega)
  have h2 : (u + l - 1) / l ≤ 1001 := by
    have : (u + l - 1) / l ≤ (u + l) / l := Int.ediv_le_ediv (by omega) (by omega)
    rw [Int.add_ediv_of_dvd_right (Int.dvd_refl l), Int.ediv_self (by omega)] at this
    omega
  unfold nSlots
  refine ⟨by omega, ?_⟩
  rw [Int.toNat_of_nonneg h0]; omega
theorem mul_step (j : Nat) (l : Int) : ((j + 1 : Nat) : Int) * l = (j : Int) * l + l := by rw [show ((j + 1 : Nat) : Int) = (j : Int) + 1 by omega, Int.add_mul, Int.one_mul]
/-- Whether slots can be served. -/
def servable (zs : List Int) (l u : Int) (n : Nat) : Bool := slotsOkB zs l && (btw u 0 1000000 && (decide (n ≤ 60) && decide (u / l ≤ 1000)))
theorem servable_bd {zs : List Int} {l u : Int} {n : Nat} (h : servable zs l u n = true) : slotsOkB zs l = true ∧ 0 ≤ u ∧ u ≤ 1000000 ∧ n ≤ 60 ∧ u / l ≤ 1000 := by
  simp only [servable, Bool.and_eq_true, btw_true, decide_eq_true_eq] at h
  exact ⟨h.1, h.2.1.1, h.2.1.2, h.2.2.1, h.2.2.2⟩
def servedAll (rs : List Rq) (zs : List Int) (l u : Int) : List Sv := if servable zs l u rs.length = true then servedS rs zs l (nSlots u l) else []
end Go.Proofs.Ytahfbhfmhccgoaa
