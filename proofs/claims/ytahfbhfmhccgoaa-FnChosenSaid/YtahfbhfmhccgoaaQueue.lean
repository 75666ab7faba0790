/- The queue of requests of the reference: whether it is valid. -/
import Derived.Test.YtahfbhfmhccgoaaQueueA
set_option linter.unusedSimpArgs false
set_option linter.unusedVariables false
namespace Go.Proofs.Ytahfbhfmhccgoaa
open Go.RowKit Go.ChangeShapes Go.WideShapes Go.ChangeAt Go.Joins Go.Deep
open Go.ChangeMaps (open_string shut_string)
set_option maxRecDepth 100000 in
set_option maxHeartbeats 8000000 in
theorem spec_QueueOk (lines : Int) (a : Option Addr) (n c : Nat) (es : List Rq) (w : World) (ha : IsStructs rqF 6 w a n c es) (hs : n ≤ 1048576) :
    Calls Try.prog 156 #[.int .i64 lines, .slice a n c] w (SomeBool w) := by
  have HA := hide ha
  have hc := ha.2.1; have hcm : c ≤ 9223372036854775807 := ha.2.2.1
  clear ha
  by_cases h12 : 12 < n
  · go_enter Try.func156, Try.ntmps156
    go_wp2
    go_ret
    exact ⟨_, rfl, Below.refl _ _⟩
  · have h12' : ¬ (12 : Int) < (n : Int) := by omega
    go_enter Try.func156, Try.ntmps156
    go_wp2
    go_loopw [5] (fun i wr => ∃ k : Nat, k ≤ n ∧ i = .int .i64 k ∧ Below w.heap.size w wr) (fun i _ => n - (intOf i).toNat)
    case atStart => exact ⟨0, by omega, rfl, Below.refl _ _⟩
    case round =>
      obtain ⟨i, hi, rfl, hB⟩ := hrel
      have hsr := hB.size
      by_cases hlt : i < n
      · obtain ⟨e, b1, o1, hh_e, rfl, hlb, hcell⟩ := HA.out.get rqF_len (by omega) (show i < n by omega)
        have e0 : wr.cell? ⟨b1, o1 + i * 6, none⟩ = some (.int .i64 e.id) := (hB.cell (p := ⟨b1, o1 + (i * 6 + 0), none⟩) hlb).trans (hcell 0 _ rfl)
        have e1 : wr.cell? ⟨b1, o1 + i * 6 + 1, none⟩ = some (.int .i64 e.tenant) := (hB.cell (p := ⟨b1, o1 + (i * 6 + 1), none⟩) hlb).trans (hcell 1 _ rfl)
        have e2 : wr.cell? ⟨b1, o1 + i * 6 + 2, none⟩ = some (.int .i64 e.line) := (hB.cell (p := ⟨b1, o1 + (i * 6 + 2), none⟩) hlb).trans (hcell 2 _ rfl)
        have e3 : wr.cell? ⟨b1, o1 + i * 6 + 3, none⟩ = some (.bool e.write) := (hB.cell (p := ⟨b1, o1 + (i * 6 + 3), none⟩) hlb).trans (hcell 3 _ rfl)
        have e4 : wr.cell? ⟨b1, o1 + i * 6 + 4, none⟩ = some (.int .i64 e.data) := (hB.cell (p := ⟨b1, o1 + (i * 6 + 4), none⟩) hlb).trans (hcell 4 _ rfl)
        have e5 : wr.cell? ⟨b1, o1 + i * 6 + 5, none⟩ = some (.int .i64 e.tm) := (hB.cell (p := ⟨b1, o1 + (i * 6 + 5), none⟩) hlb).trans (hcell 5 _ rfl)
        have HE_e := hide hh_e
        have sz_e := hB.size
        have lt_b1 : b1 < wr.heap.size := (by have := hB.size; omega)
        have lw_b1 := hlb
        have i0_e : (0 : Int) ≤ (i : Int) := by omega
        have i1_e : (i : Int) < (n : Int) := by omega
        clear hcell hlb hh_e
        cases hq1 : rqOkB lines e
        · go_wp2_with fail
          refine wp_region_held_drew (S := fun v => v.cell? ⟨b1, o1 + i * 6, none⟩ = some (.int .i64 e.id) ∧ v.cell? ⟨b1, o1 + i * 6 + 1, none⟩ = some (.int .i64 e.tenant) ∧ v.cell? ⟨b1, o1 + i * 6 + 2, none⟩ = some (.int .i64 e.line) ∧ v.cell? ⟨b1, o1 + i * 6 + 3, none⟩ = some (.bool e.write) ∧ v.cell? ⟨b1, o1 + i * 6 + 4, none⟩ = some (.int .i64 e.data) ∧ v.cell? ⟨b1, o1 + i * 6 + 5, none⟩ = some (.int .i64 e.tm) ∧ Below wr.heap.size wr v) (by kernel_rfl) (⟨e0, e1, e2, e3, e4, e5, (Below.refl _ _).drew⟩) (fun hSx => ?_)
          refine wpAnyH_take (i := 0) (v := ?_) rfl (by kernel_rfl) (by kernel_rfl) (by kernel_rfl) (fun _ _ _ h => h) (Or.inl ⟨by rfl, ?_⟩) (by assumption) ?_
          rotate_left
          · intro w _; go_simp; try with_reducible rfl
          try simp only [Act.put, List.getElem_toArray, List.getElem_cons_zero, List.getElem_cons_succ, List.setIfInBounds_toArray, List.set_cons_zero, List.set_cons_succ]
          refine wpAnyH_take (i := 1) (v := ?_) rfl (by kernel_rfl) (by kernel_rfl) (by kernel_rfl) (fun _ _ _ h => h) (Or.inl ⟨by rfl, ?_⟩) (by assumption) ?_
          rotate_left
          · intro w _; go_simp; try with_reducible rfl
          try simp only [Act.put, List.getElem_toArray, List.getElem_cons_zero, List.getElem_cons_succ, List.setIfInBounds_toArray, List.set_cons_zero, List.set_cons_succ]
          refine wpAnyH_take (i := 2) (v := ?_) rfl (by kernel_rfl) (by kernel_rfl) (by kernel_rfl) (fun _ _ _ h => h) (Or.inl ⟨by rfl, ?_⟩) (by assumption) ?_
          rotate_left
          · intro w _; go_simp; try with_reducible rfl
          try simp only [Act.put, List.getElem_toArray, List.getElem_cons_zero, List.getElem_cons_succ, List.setIfInBounds_toArray, List.set_cons_zero, List.set_cons_succ]
          refine wpAnyH_take (i := 3) (v := ?_) rfl (by kernel_rfl) (by kernel_rfl) (by kernel_rfl) (fun _ _ _ h => h) (Or.inl ⟨by rfl, ?_⟩) (by assumption) ?_
          rotate_left
          · intro w _; go_simp; try with_reducible rfl
          try simp only [Act.put, List.getElem_toArray, List.getElem_cons_zero, List.getElem_cons_succ, List.setIfInBounds_toArray, List.set_cons_zero, List.set_cons_succ]
          refine wpAnyH_take (i := 4) (v := ?_) rfl (by kernel_rfl) (by kernel_rfl) (by kernel_rfl) (fun _ _ _ h => h) (Or.inl ⟨by rfl, ?_⟩) (by assumption) ?_
          rotate_left
          · intro w hSw; (try dsimp only at hSw); go_simp; try with_reducible rfl
          try simp only [Act.put, List.getElem_toArray, List.getElem_cons_zero, List.getElem_cons_succ, List.setIfInBounds_toArray, List.set_cons_zero, List.set_cons_succ]
          refine wpAnyH_ready (rs := [5]) (by kernel_rfl) (by simp) ?_
          refine AllReadyH.cons rfl (fun K hK => ?_) AllReadyH.nil
          go_simp
          refine (spec_RequestOk_is lines e false hq1 _).mono ?_
          rintro e y1 ⟨rfl, hy1⟩
          refine hK.out _ _ (⟨(hy1.cell (p := ⟨b1, o1 + i * 6, none⟩) (Nat.lt_of_lt_of_le lt_b1 (hSx.2.2.2.2.2.2).size)).trans hSx.1, (hy1.cell (p := ⟨b1, o1 + i * 6 + 1, none⟩) (Nat.lt_of_lt_of_le lt_b1 (hSx.2.2.2.2.2.2).size)).trans hSx.2.1, (hy1.cell (p := ⟨b1, o1 + i * 6 + 2, none⟩) (Nat.lt_of_lt_of_le lt_b1 (hSx.2.2.2.2.2.2).size)).trans hSx.2.2.1, (hy1.cell (p := ⟨b1, o1 + i * 6 + 3, none⟩) (Nat.lt_of_lt_of_le lt_b1 (hSx.2.2.2.2.2.2).size)).trans hSx.2.2.2.1, (hy1.cell (p := ⟨b1, o1 + i * 6 + 4, none⟩) (Nat.lt_of_lt_of_le lt_b1 (hSx.2.2.2.2.2.2).size)).trans hSx.2.2.2.2.1, (hy1.cell (p := ⟨b1, o1 + i * 6 + 5, none⟩) (Nat.lt_of_lt_of_le lt_b1 (hSx.2.2.2.2.2.2).size)).trans hSx.2.2.2.2.2.1, bthen hSx.2.2.2.2.2.2 hy1 (hSx.2.2.2.2.2.2).size⟩) (fun hSy => ?_)
          clear hSx hK K
          have hSx := hSy; clear hSy
          try simp only [Act.put, List.getElem_toArray, List.getElem_cons_zero, List.getElem_cons_succ, List.setIfInBounds_toArray, List.set_cons_zero, List.set_cons_succ]
          refine wpAnyH_take (i := 6) (v := ?_) rfl (by kernel_rfl) (by kernel_rfl) (by kernel_rfl) (fun _ _ _ h => h) (Or.inl ⟨by rfl, ?_⟩) (by assumption) ?_
          rotate_left
          · intro w _; go_simp; try with_reducible rfl
          try simp only [Act.put, List.getElem_toArray, List.getElem_cons_zero, List.getElem_cons_succ, List.setIfInBounds_toArray, List.set_cons_zero, List.set_cons_succ]
          refine wpAnyH_take (i := 7) (v := ?_) rfl (by kernel_rfl) (by kernel_rfl) (by kernel_rfl) (fun _ _ _ h => h) (Or.inl ⟨by rfl, ?_⟩) (by assumption) ?_
          rotate_left
          · intro w _; go_simp; try with_reducible rfl
          try simp only [Act.put, List.getElem_toArray, List.getElem_cons_zero, List.getElem_cons_succ, List.setIfInBounds_toArray, List.set_cons_zero, List.set_cons_succ]
          refine wpAnyH_take (i := 8) (v := undef) rfl (by kernel_rfl) (by kernel_rfl) (by kernel_rfl) (fun _ _ _ h => h) (Or.inr ⟨by rfl, rfl⟩) (by assumption) ?_
          try simp only [Act.put, List.getElem_toArray, List.getElem_cons_zero, List.getElem_cons_succ, List.setIfInBounds_toArray, List.set_cons_zero, List.set_cons_succ]
          refine wpAnyH_take (i := 9) (v := undef) rfl (by kernel_rfl) (by kernel_rfl) (by kernel_rfl) (fun _ _ _ h => h) (Or.inr ⟨by rfl, rfl⟩) (by assumption) ?_
          try simp only [Act.put, List.getElem_toArray, List.getElem_cons_zero, List.getElem_cons_succ, List.setIfInBounds_toArray, List.set_cons_zero, List.set_cons_succ]
          refine wpAnyH_take (i := 10) (v := undef) rfl (by kernel_rfl) (by kernel_rfl) (by kernel_rfl) (fun _ _ _ h => h) (Or.inr ⟨by rfl, rfl⟩) (by assumption) ?_
          try simp only [Act.put, List.getElem_toArray, List.getElem_cons_zero, List.getElem_cons_succ, List.setIfInBounds_toArray, List.set_cons_zero, List.set_cons_succ]
          refine wpAnyH_take (i := 11) (v := undef) rfl (by kernel_rfl) (by kernel_rfl) (by kernel_rfl) (fun _ _ _ h => h) (Or.inr ⟨by rfl, rfl⟩) (by assumption) ?_
          try simp only [Act.put, List.getElem_toArray, List.getElem_cons_zero, List.getElem_cons_succ, List.setIfInBounds_toArray, List.set_cons_zero, List.set_cons_succ]
          refine wpAnyH_take (i := 12) (v := undef) rfl (by kernel_rfl) (by kernel_rfl) (by kernel_rfl) (fun _ _ _ h => h) (Or.inr ⟨by rfl, rfl⟩) (by assumption) ?_
          try simp only [Act.put, List.getElem_toArray, List.getElem_cons_zero, List.getElem_cons_succ, List.setIfInBounds_toArray, List.set_cons_zero, List.set_cons_succ]
          refine wpAnyH_take (i := 13) (v := undef) rfl (by kernel_rfl) (by kernel_rfl) (by kernel_rfl) (fun _ _ _ h => h) (Or.inr ⟨by rfl, rfl⟩) (by assumption) ?_
          try simp only [Act.put, List.getElem_toArray, List.getElem_cons_zero, List.getElem_cons_succ, List.setIfInBounds_toArray, List.set_cons_zero, List.set_cons_succ]
          refine wpAnyH_take (i := 14) (v := undef) rfl (by kernel_rfl) (by kernel_rfl) (by kernel_rfl) (fun _ _ _ h => h) (Or.inr ⟨by rfl, rfl⟩) (by assumption) ?_
          try simp only [Act.put, List.getElem_toArray, List.getElem_cons_zero, List.getElem_cons_succ, List.setIfInBounds_toArray, List.set_cons_zero, List.set_cons_succ]
          refine wpAnyH_take (i := 15) (v := undef) rfl (by kernel_rfl) (by kernel_rfl) (by kernel_rfl) (fun _ _ _ h => h) (Or.inr ⟨by rfl, rfl⟩) (by assumption) ?_
          try simp only [Act.put, List.getElem_toArray, List.getElem_cons_zero, List.getElem_cons_succ, List.setIfInBounds_toArray, List.set_cons_zero, List.set_cons_succ]
          refine wpAnyH_take (i := 16) (v := undef) rfl (by kernel_rfl) (by kernel_rfl) (by kernel_rfl) (fun _ _ _ h => h) (Or.inr ⟨by rfl, rfl⟩) (by assumption) ?_
          try simp only [Act.put, List.getElem_toArray, List.getElem_cons_zero, List.getElem_cons_succ, List.setIfInBounds_toArray, List.set_cons_zero, List.set_cons_succ]
          refine wpAnyH_take (i := 17) (v := undef) rfl (by kernel_rfl) (by kernel_rfl) (by kernel_rfl) (fun _ _ _ h => h) (Or.inr ⟨by rfl, rfl⟩) (by assumption) ?_
          try simp only [Act.put, List.getElem_toArray, List.getElem_cons_zero, List.getElem_cons_succ, List.setIfInBounds_toArray, List.set_cons_zero, List.set_cons_succ]
          refine wpAnyH_take (i := 18) (v := undef) rfl (by kernel_rfl) (by kernel_rfl) (by kernel_rfl) (fun _ _ _ h => h) (Or.inr ⟨by rfl, rfl⟩) (by assumption) ?_
          try simp only [Act.put, List.getElem_toArray, List.getElem_cons_zero, List.getElem_cons_succ, List.setIfInBounds_toArray, List.set_cons_zero, List.set_cons_succ]
          refine wpAnyH_take (i := 19) (v := undef) rfl (by kernel_rfl) (by kernel_rfl) (by kernel_rfl) (fun _ _ _ h => h) (Or.inr ⟨by rfl, rfl⟩) (by assumption) ?_
          try simp only [Act.put, List.getElem_toArray, List.getElem_cons_zero, List.getElem_cons_succ, List.setIfInBounds_toArray, List.set_cons_zero, List.set_cons_succ]
          refine wpAnyH_take (i := 20) (v := undef) rfl (by kernel_rfl) (by kernel_rfl) (by kernel_rfl) (fun _ _ _ h => h) (Or.inr ⟨by rfl, rfl⟩) (by assumption) ?_
          try simp only [Act.put, List.getElem_toArray, List.getElem_cons_zero, List.getElem_cons_succ, List.setIfInBounds_toArray, List.set_cons_zero, List.set_cons_succ]
          refine wpAnyH_take (i := 21) (v := undef) rfl (by kernel_rfl) (by kernel_rfl) (by kernel_rfl) (fun _ _ _ h => h) (Or.inr ⟨by rfl, rfl⟩) (by assumption) ?_
          try simp only [Act.put, List.getElem_toArray, List.getElem_cons_zero, List.getElem_cons_succ, List.setIfInBounds_toArray, List.set_cons_zero, List.set_cons_succ]
          refine wpAnyH_take (i := 22) (v := undef) rfl (by kernel_rfl) (by kernel_rfl) (by kernel_rfl) (fun _ _ _ h => h) (Or.inr ⟨by rfl, rfl⟩) (by assumption) ?_
          try simp only [Act.put, List.getElem_toArray, List.getElem_cons_zero, List.getElem_cons_succ, List.setIfInBounds_toArray, List.set_cons_zero, List.set_cons_succ]
          refine wpAnyH_take (i := 23) (v := ?_) rfl (by kernel_rfl) (by kernel_rfl) (by kernel_rfl) (fun _ _ _ h => h) (Or.inl ⟨by rfl, ?_⟩) (by assumption) ?_
          rotate_left
          · intro w _; go_simp; try with_reducible rfl
          try simp only [Act.put, List.getElem_toArray, List.getElem_cons_zero, List.getElem_cons_succ, List.setIfInBounds_toArray, List.set_cons_zero, List.set_cons_succ]
          refine wpAnyH_take (i := 24) (v := ?_) rfl (by kernel_rfl) (by kernel_rfl) (by kernel_rfl) (fun _ _ _ h => h) (Or.inl ⟨by rfl, ?_⟩) (by assumption) ?_
          rotate_left
          · intro w _; go_simp; try with_reducible rfl
          try simp only [Act.put, List.getElem_toArray, List.getElem_cons_zero, List.getElem_cons_succ, List.setIfInBounds_toArray, List.set_cons_zero, List.set_cons_succ]
          refine wpAnyH_take (i := 25) (v := undef) rfl (by kernel_rfl) (by kernel_rfl) (by kernel_rfl) (fun _ _ _ h => h) (Or.inr ⟨by rfl, rfl⟩) (by assumption) ?_
          try simp only [Act.put, List.getElem_toArray, List.getElem_cons_zero, List.getElem_cons_succ, List.setIfInBounds_toArray, List.set_cons_zero, List.set_cons_succ]
          refine wpAnyH_take (i := 26) (v := undef) rfl (by kernel_rfl) (by kernel_rfl) (by kernel_rfl) (fun _ _ _ h => h) (Or.inr ⟨by rfl, rfl⟩) (by assumption) ?_
          try simp only [Act.put, List.getElem_toArray, List.getElem_cons_zero, List.getElem_cons_succ, List.setIfInBounds_toArray, List.set_cons_zero, List.set_cons_succ]
          refine wpAnyH_take (i := 27) (v := undef) rfl (by kernel_rfl) (by kernel_rfl) (by kernel_rfl) (fun _ _ _ h => h) (Or.inr ⟨by rfl, rfl⟩) (by assumption) ?_
          try simp only [Act.put, List.getElem_toArray, List.getElem_cons_zero, List.getElem_cons_succ, List.setIfInBounds_toArray, List.set_cons_zero, List.set_cons_succ]
          refine wpAnyH_take (i := 28) (v := undef) rfl (by kernel_rfl) (by kernel_rfl) (by kernel_rfl) (fun _ _ _ h => h) (Or.inr ⟨by rfl, rfl⟩) (by assumption) ?_
          try simp only [Act.put, List.getElem_toArray, List.getElem_cons_zero, List.getElem_cons_succ, List.setIfInBounds_toArray, List.set_cons_zero, List.set_cons_succ]
          refine wpAnyH_take (i := 29) (v := undef) rfl (by kernel_rfl) (by kernel_rfl) (by kernel_rfl) (fun _ _ _ h => h) (Or.inr ⟨by rfl, rfl⟩) (by assumption) ?_
          try simp only [Act.put, List.getElem_toArray, List.getElem_cons_zero, List.getElem_cons_succ, List.setIfInBounds_toArray, List.set_cons_zero, List.set_cons_succ]
          refine wpAnyH_take (i := 30) (v := undef) rfl (by kernel_rfl) (by kernel_rfl) (by kernel_rfl) (fun _ _ _ h => h) (Or.inr ⟨by rfl, rfl⟩) (by assumption) ?_
          try simp only [Act.put, List.getElem_toArray, List.getElem_cons_zero, List.getElem_cons_succ, List.setIfInBounds_toArray, List.set_cons_zero, List.set_cons_succ]
          refine wpAnyH_take (i := 31) (v := undef) rfl (by kernel_rfl) (by kernel_rfl) (by kernel_rfl) (fun _ _ _ h => h) (Or.inr ⟨by rfl, rfl⟩) (by assumption) ?_
          try simp only [Act.put, List.getElem_toArray, List.getElem_cons_zero, List.getElem_cons_succ, List.setIfInBounds_toArray, List.set_cons_zero, List.set_cons_succ]
          refine wpAnyH_take (i := 32) (v := undef) rfl (by kernel_rfl) (by kernel_rfl) (by kernel_rfl) (fun _ _ _ h => h) (Or.inr ⟨by rfl, rfl⟩) (by assumption) ?_
          try simp only [Act.put, List.getElem_toArray, List.getElem_cons_zero, List.getElem_cons_succ, List.setIfInBounds_toArray, List.set_cons_zero, List.set_cons_succ]
          refine wpAnyH_take (i := 33) (v := undef) rfl (by kernel_rfl) (by kernel_rfl) (by kernel_rfl) (fun _ _ _ h => h) (Or.inr ⟨by rfl, rfl⟩) (by assumption) ?_
          try simp only [Act.put, List.getElem_toArray, List.getElem_cons_zero, List.getElem_cons_succ, List.setIfInBounds_toArray, List.set_cons_zero, List.set_cons_succ]
          refine wpAnyH_take (i := 34) (v := ?_) rfl (by kernel_rfl) (by kernel_rfl) (by kernel_rfl) (fun _ _ _ h => h) (Or.inl ⟨by rfl, ?_⟩) (by assumption) ?_
          rotate_left
          · intro w _; go_simp; try with_reducible rfl
          try simp only [Act.put, List.getElem_toArray, List.getElem_cons_zero, List.getElem_cons_succ, List.setIfInBounds_toArray, List.set_cons_zero, List.set_cons_succ]
          refine wpAnyH_done (by kernel_rfl) ?_ _
          have hBy := hide (bthen hB (hSx.2.2.2.2.2.2) (by omega))
          clear hSx hy1
          go_wp2_with fail
          go_ret
          exact ⟨_, rfl, hBy.out⟩
        · rcases Nat.eq_zero_or_pos i with hi0 | hi0
          · have hd1 : decide ((0 : Int) < (i : Int)) = false := by simp; omega
            have hd2 : decide (0 < i) = false := by simp; omega
            have hi0' := hide hi0
            clear hi0
            go_wp2_with fail
            refine wp_region_held_drew (S := fun v => v.cell? ⟨b1, o1 + i * 6, none⟩ = some (.int .i64 e.id) ∧ v.cell? ⟨b1, o1 + i * 6 + 1, none⟩ = some (.int .i64 e.tenant) ∧ v.cell? ⟨b1, o1 + i * 6 + 2, none⟩ = some (.int .i64 e.line) ∧ v.cell? ⟨b1, o1 + i * 6 + 3, none⟩ = some (.bool e.write) ∧ v.cell? ⟨b1, o1 + i * 6 + 4, none⟩ = some (.int .i64 e.data) ∧ v.cell? ⟨b1, o1 + i * 6 + 5, none⟩ = some (.int .i64 e.tm) ∧ Below wr.heap.size wr v) (by kernel_rfl) (⟨e0, e1, e2, e3, e4, e5, (Below.refl _ _).drew⟩) (fun hSx => ?_)
            refine wpAnyH_take (i := 0) (v := ?_) rfl (by kernel_rfl) (by kernel_rfl) (by kernel_rfl) (fun _ _ _ h => h) (Or.inl ⟨by rfl, ?_⟩) (by assumption) ?_
            rotate_left
            · intro w _; go_simp; try with_reducible rfl
            try simp only [Act.put, List.getElem_toArray, List.getElem_cons_zero, List.getElem_cons_succ, List.setIfInBounds_toArray, List.set_cons_zero, List.set_cons_succ]
            refine wpAnyH_take (i := 1) (v := ?_) rfl (by kernel_rfl) (by kernel_rfl) (by kernel_rfl) (fun _ _ _ h => h) (Or.inl ⟨by rfl, ?_⟩) (by assumption) ?_
            rotate_left
            · intro w _; go_simp; try with_reducible rfl
            try simp only [Act.put, List.getElem_toArray, List.getElem_cons_zero, List.getElem_cons_succ, List.setIfInBounds_toArray, List.set_cons_zero, List.set_cons_succ]
            refine wpAnyH_take (i := 2) (v := ?_) rfl (by kernel_rfl) (by kernel_rfl) (by kernel_rfl) (fun _ _ _ h => h) (Or.inl ⟨by rfl, ?_⟩) (by assumption) ?_
            rotate_left
            · intro w _; go_simp; try with_reducible rfl
            try simp only [Act.put, List.getElem_toArray, List.getElem_cons_zero, List.getElem_cons_succ, List.setIfInBounds_toArray, List.set_cons_zero, List.set_cons_succ]
            refine wpAnyH_take (i := 3) (v := ?_) rfl (by kernel_rfl) (by kernel_rfl) (by kernel_rfl) (fun _ _ _ h => h) (Or.inl ⟨by rfl, ?_⟩) (by assumption) ?_
            rotate_left
            · intro w _; go_simp; try with_reducible rfl
            try simp only [Act.put, List.getElem_toArray, List.getElem_cons_zero, List.getElem_cons_succ, List.setIfInBounds_toArray, List.set_cons_zero, List.set_cons_succ]
            refine wpAnyH_take (i := 4) (v := ?_) rfl (by kernel_rfl) (by kernel_rfl) (by kernel_rfl) (fun _ _ _ h => h) (Or.inl ⟨by rfl, ?_⟩) (by assumption) ?_
            rotate_left
            · intro w hSw; (try dsimp only at hSw); go_simp; try with_reducible rfl
            try simp only [Act.put, List.getElem_toArray, List.getElem_cons_zero, List.getElem_cons_succ, List.setIfInBounds_toArray, List.set_cons_zero, List.set_cons_succ]
            refine wpAnyH_ready (rs := [5]) (by kernel_rfl) (by simp) ?_
            refine AllReadyH.cons rfl (fun K hK => ?_) AllReadyH.nil
            go_simp
            refine (spec_RequestOk_is lines e true hq1 _).mono ?_
            rintro e y1 ⟨rfl, hy1⟩
            refine hK.out _ _ (⟨(hy1.cell (p := ⟨b1, o1 + i * 6, none⟩) (Nat.lt_of_lt_of_le lt_b1 (hSx.2.2.2.2.2.2).size)).trans hSx.1, (hy1.cell (p := ⟨b1, o1 + i * 6 + 1, none⟩) (Nat.lt_of_lt_of_le lt_b1 (hSx.2.2.2.2.2.2).size)).trans hSx.2.1, (hy1.cell (p := ⟨b1, o1 + i * 6 + 2, none⟩) (Nat.lt_of_lt_of_le lt_b1 (hSx.2.2.2.2.2.2).size)).trans hSx.2.2.1, (hy1.cell (p := ⟨b1, o1 + i * 6 + 3, none⟩) (Nat.lt_of_lt_of_le lt_b1 (hSx.2.2.2.2.2.2).size)).trans hSx.2.2.2.1, (hy1.cell (p := ⟨b1, o1 + i * 6 + 4, none⟩) (Nat.lt_of_lt_of_le lt_b1 (hSx.2.2.2.2.2.2).size)).trans hSx.2.2.2.2.1, (hy1.cell (p := ⟨b1, o1 + i * 6 + 5, none⟩) (Nat.lt_of_lt_of_le lt_b1 (hSx.2.2.2.2.2.2).size)).trans hSx.2.2.2.2.2.1, bthen hSx.2.2.2.2.2.2 hy1 (hSx.2.2.2.2.2.2).size⟩) (fun hSy => ?_)
            clear hSx hK K
            have hSx := hSy; clear hSy
            try simp only [Act.put, List.getElem_toArray, List.getElem_cons_zero, List.getElem_cons_succ, List.setIfInBounds_toArray, List.set_cons_zero, List.set_cons_succ]
            refine wpAnyH_take (i := 6) (v := ?_) rfl (by kernel_rfl) (by kernel_rfl) (by kernel_rfl) (fun _ _ _ h => h) (Or.inl ⟨by rfl, ?_⟩) (by assumption) ?_
            rotate_left
            · intro w _; go_simp; try with_reducible rfl
            try simp only [Act.put, List.getElem_toArray, List.getElem_cons_zero, List.getElem_cons_succ, List.setIfInBounds_toArray, List.set_cons_zero, List.set_cons_succ]
            refine wpAnyH_take (i := 7) (v := ?_) rfl (by kernel_rfl) (by kernel_rfl) (by kernel_rfl) (fun _ _ _ h => h) (Or.inl ⟨by rfl, ?_⟩) (by assumption) ?_
            rotate_left
            · intro w _; go_simp; try with_reducible rfl
            try simp only [Act.put, List.getElem_toArray, List.getElem_cons_zero, List.getElem_cons_succ, List.setIfInBounds_toArray, List.set_cons_zero, List.set_cons_succ]
            refine wpAnyH_take (i := 8) (v := ?_) rfl (by kernel_rfl) (by kernel_rfl) (by kernel_rfl) (fun _ _ _ h => h) (Or.inl ⟨by rfl, ?_⟩) (by assumption) ?_
            rotate_left
            · intro w _; go_simp; try with_reducible rfl
            try simp only [Act.put, List.getElem_toArray, List.getElem_cons_zero, List.getElem_cons_succ, List.setIfInBounds_toArray, List.set_cons_zero, List.set_cons_succ]
            refine wpAnyH_take (i := 9) (v := ?_) rfl (by kernel_rfl) (by kernel_rfl) (by kernel_rfl) (fun _ _ _ h => h) (Or.inl ⟨by rfl, ?_⟩) (by assumption) ?_
            rotate_left
            · intro w _; go_simp; try with_reducible rfl
            try simp only [Act.put, List.getElem_toArray, List.getElem_cons_zero, List.getElem_cons_succ, List.setIfInBounds_toArray, List.set_cons_zero, List.set_cons_succ]
            refine wpAnyH_take (i := 10) (v := ?_) rfl (by kernel_rfl) (by kernel_rfl) (by kernel_rfl) (fun _ _ _ h => h) (Or.inl ⟨by rfl, ?_⟩) (by assumption) ?_
            rotate_left
            · intro w _; go_simp; try with_reducible rfl
            try simp only [Act.put, List.getElem_toArray, List.getElem_cons_zero, List.getElem_cons_succ, List.setIfInBounds_toArray, List.set_cons_zero, List.set_cons_succ]
            refine wpAnyH_take (i := 11) (v := undef) rfl (by kernel_rfl) (by kernel_rfl) (by kernel_rfl) (fun _ _ _ h => h) (Or.inr ⟨by rfl, rfl⟩) (by assumption) ?_
            try simp only [Act.put, List.getElem_toArray, List.getElem_cons_zero, List.getElem_cons_succ, List.setIfInBounds_toArray, List.set_cons_zero, List.set_cons_succ]
            refine wpAnyH_take (i := 12) (v := undef) rfl (by kernel_rfl) (by kernel_rfl) (by kernel_rfl) (fun _ _ _ h => h) (Or.inr ⟨by rfl, rfl⟩) (by assumption) ?_
            try simp only [Act.put, List.getElem_toArray, List.getElem_cons_zero, List.getElem_cons_succ, List.setIfInBounds_toArray, List.set_cons_zero, List.set_cons_succ]
            refine wpAnyH_take (i := 13) (v := undef) rfl (by kernel_rfl) (by kernel_rfl) (by kernel_rfl) (fun _ _ _ h => h) (Or.inr ⟨by rfl, rfl⟩) (by assumption) ?_
            try simp only [Act.put, List.getElem_toArray, List.getElem_cons_zero, List.getElem_cons_succ, List.setIfInBounds_toArray, List.set_cons_zero, List.set_cons_succ]
            refine wpAnyH_take (i := 14) (v := undef) rfl (by kernel_rfl) (by kernel_rfl) (by kernel_rfl) (fun _ _ _ h => h) (Or.inr ⟨by rfl, rfl⟩) (by assumption) ?_
            try simp only [Act.put, List.getElem_toArray, List.getElem_cons_zero, List.getElem_cons_succ, List.setIfInBounds_toArray, List.set_cons_zero, List.set_cons_succ]
            refine wpAnyH_take (i := 15) (v := undef) rfl (by kernel_rfl) (by kernel_rfl) (by kernel_rfl) (fun _ _ _ h => h) (Or.inr ⟨by rfl, rfl⟩) (by assumption) ?_
            try simp only [Act.put, List.getElem_toArray, List.getElem_cons_zero, List.getElem_cons_succ, List.setIfInBounds_toArray, List.set_cons_zero, List.set_cons_succ]
            refine wpAnyH_take (i := 16) (v := undef) rfl (by kernel_rfl) (by kernel_rfl) (by kernel_rfl) (fun _ _ _ h => h) (Or.inr ⟨by rfl, rfl⟩) (by assumption) ?_
            try simp only [Act.put, List.getElem_toArray, List.getElem_cons_zero, List.getElem_cons_succ, List.setIfInBounds_toArray, List.set_cons_zero, List.set_cons_succ]
            refine wpAnyH_take (i := 17) (v := undef) rfl (by kernel_rfl) (by kernel_rfl) (by kernel_rfl) (fun _ _ _ h => h) (Or.inr ⟨by rfl, rfl⟩) (by assumption) ?_
            try simp only [Act.put, List.getElem_toArray, List.getElem_cons_zero, List.getElem_cons_succ, List.setIfInBounds_toArray, List.set_cons_zero, List.set_cons_succ]
            refine wpAnyH_take (i := 18) (v := undef) rfl (by kernel_rfl) (by kernel_rfl) (by kernel_rfl) (fun _ _ _ h => h) (Or.inr ⟨by rfl, rfl⟩) (by assumption) ?_
            try simp only [Act.put, List.getElem_toArray, List.getElem_cons_zero, List.getElem_cons_succ, List.setIfInBounds_toArray, List.set_cons_zero, List.set_cons_succ]
            refine wpAnyH_take (i := 19) (v := undef) rfl (by kernel_rfl) (by kernel_rfl) (by kernel_rfl) (fun _ _ _ h => h) (Or.inr ⟨by rfl, rfl⟩) (by assumption) ?_
            try simp only [Act.put, List.getElem_toArray, List.getElem_cons_zero, List.getElem_cons_succ, List.setIfInBounds_toArray, List.set_cons_zero, List.set_cons_succ]
            refine wpAnyH_take (i := 20) (v := undef) rfl (by kernel_rfl) (by kernel_rfl) (by kernel_rfl) (fun _ _ _ h => h) (Or.inr ⟨by rfl, rfl⟩) (by assumption) ?_
            try simp only [Act.put, List.getElem_toArray, List.getElem_cons_zero, List.getElem_cons_succ, List.setIfInBounds_toArray, List.set_cons_zero, List.set_cons_succ]
            refine wpAnyH_take (i := 21) (v := undef) rfl (by kernel_rfl) (by kernel_rfl) (by kernel_rfl) (fun _ _ _ h => h) (Or.inr ⟨by rfl, rfl⟩) (by assumption) ?_
            try simp only [Act.put, List.getElem_toArray, List.getElem_cons_zero, List.getElem_cons_succ, List.setIfInBounds_toArray, List.set_cons_zero, List.set_cons_succ]
            refine wpAnyH_take (i := 22) (v := ?_) rfl (by kernel_rfl) (by kernel_rfl) (by kernel_rfl) (fun _ _ _ h => h) (Or.inl ⟨by rfl, ?_⟩) (by assumption) ?_
            rotate_left
            · intro w _; go_simp; try with_reducible rfl
            try simp only [Act.put, List.getElem_toArray, List.getElem_cons_zero, List.getElem_cons_succ, List.setIfInBounds_toArray, List.set_cons_zero, List.set_cons_succ]
            refine wpAnyH_take (i := 23) (v := ?_) rfl (by kernel_rfl) (by kernel_rfl) (by kernel_rfl) (fun _ _ _ h => h) (Or.inl ⟨by rfl, ?_⟩) (by assumption) ?_
            rotate_left
            · intro w _; go_simp; try with_reducible rfl
            try simp only [Act.put, List.getElem_toArray, List.getElem_cons_zero, List.getElem_cons_succ, List.setIfInBounds_toArray, List.set_cons_zero, List.set_cons_succ]
            refine wpAnyH_take (i := 24) (v := ?_) rfl (by kernel_rfl) (by kernel_rfl) (by kernel_rfl) (fun _ _ _ h => h) (Or.inl ⟨by rfl, ?_⟩) (by assumption) ?_
            rotate_left
            · intro w _; go_simp; try with_reducible rfl
            try simp only [Act.put, List.getElem_toArray, List.getElem_cons_zero, List.getElem_cons_succ, List.setIfInBounds_toArray, List.set_cons_zero, List.set_cons_succ]
            refine wpAnyH_take (i := 25) (v := ?_) rfl (by kernel_rfl) (by kernel_rfl) (by kernel_rfl) (fun _ _ _ h => h) (Or.inl ⟨by rfl, ?_⟩) (by assumption) ?_
            rotate_left
            · intro w _; go_simp; try with_reducible rfl
            try simp only [Act.put, List.getElem_toArray, List.getElem_cons_zero, List.getElem_cons_succ, List.setIfInBounds_toArray, List.set_cons_zero, List.set_cons_succ]
            refine wpAnyH_take (i := 26) (v := ?_) rfl (by kernel_rfl) (by kernel_rfl) (by kernel_rfl) (fun _ _ _ h => h) (Or.inl ⟨by rfl, ?_⟩) (by assumption) ?_
            rotate_left
            · intro w _; go_simp; try with_reducible rfl
            try simp only [Act.put, List.getElem_toArray, List.getElem_cons_zero, List.getElem_cons_succ, List.setIfInBounds_toArray, List.set_cons_zero, List.set_cons_succ]
            refine wpAnyH_take (i := 27) (v := ?_) rfl (by kernel_rfl) (by kernel_rfl) (by kernel_rfl) (fun _ _ _ h => h) (Or.inl ⟨by rfl, ?_⟩) (by assumption) ?_
            rotate_left
            · intro w _; go_simp; try with_reducible rfl
            try simp only [Act.put, List.getElem_toArray, List.getElem_cons_zero, List.getElem_cons_succ, List.setIfInBounds_toArray, List.set_cons_zero, List.set_cons_succ]
            refine wpAnyH_take (i := 28) (v := ?_) rfl (by kernel_rfl) (by kernel_rfl) (by kernel_rfl) (fun _ _ _ h => h) (Or.inl ⟨by rfl, ?_⟩) (by assumption) ?_
            rotate_left
            · intro w _; go_simp; try with_reducible rfl
            try simp only [Act.put, List.getElem_toArray, List.getElem_cons_zero, List.getElem_cons_succ, List.setIfInBounds_toArray, List.set_cons_zero, List.set_cons_succ]
            refine wpAnyH_take (i := 29) (v := ?_) rfl (by kernel_rfl) (by kernel_rfl) (by kernel_rfl) (fun _ _ _ h => h) (Or.inl ⟨by rfl, ?_⟩) (by assumption) ?_
            rotate_left
            · intro w _; go_simp; try with_reducible rfl
            try simp only [Act.put, List.getElem_toArray, List.getElem_cons_zero, List.getElem_cons_succ, List.setIfInBounds_toArray, List.set_cons_zero, List.set_cons_succ]
            refine wpAnyH_take (i := 32) (v := ?_) rfl (by kernel_rfl) (by kernel_rfl) (by kernel_rfl) (fun _ _ _ h => h) (Or.inl ⟨by rfl, ?_⟩) (by assumption) ?_
            rotate_left
            · intro w _; go_simp; try with_reducible rfl
            try simp only [Act.put, List.getElem_toArray, List.getElem_cons_zero, List.getElem_cons_succ, List.setIfInBounds_toArray, List.set_cons_zero, List.set_cons_succ]
            refine wpAnyH_take (i := 30) (v := ?_) rfl (by kernel_rfl) (by kernel_rfl) (by kernel_rfl) (fun _ _ _ h => h) (Or.inl ⟨by rfl, ?_⟩) (by assumption) ?_
            rotate_left
            · intro w hSw; (try dsimp only at hSw); go_simp; try with_reducible rfl
            try simp only [Act.put, List.getElem_toArray, List.getElem_cons_zero, List.getElem_cons_succ, List.setIfInBounds_toArray, List.set_cons_zero, List.set_cons_succ]
            refine wpAnyH_ready (rs := [31]) (by kernel_rfl) (by simp) ?_
            refine AllReadyH.cons rfl (fun K hK => ?_) AllReadyH.nil
            go_simp
            refine (spec_l19At _ n c es e.id _ (HA.out.below (B := w.heap.size) (bthen hB hSx.2.2.2.2.2.2 (by omega)) (Nat.le_refl _)) hs).mono ?_
            rintro e y2 ⟨rfl, hy2⟩
            refine hK.out _ _ (⟨(hy2.cell (p := ⟨b1, o1 + i * 6, none⟩) (Nat.lt_of_lt_of_le lt_b1 (hSx.2.2.2.2.2.2).size)).trans hSx.1, (hy2.cell (p := ⟨b1, o1 + i * 6 + 1, none⟩) (Nat.lt_of_lt_of_le lt_b1 (hSx.2.2.2.2.2.2).size)).trans hSx.2.1, (hy2.cell (p := ⟨b1, o1 + i * 6 + 2, none⟩) (Nat.lt_of_lt_of_le lt_b1 (hSx.2.2.2.2.2.2).size)).trans hSx.2.2.1, (hy2.cell (p := ⟨b1, o1 + i * 6 + 3, none⟩) (Nat.lt_of_lt_of_le lt_b1 (hSx.2.2.2.2.2.2).size)).trans hSx.2.2.2.1, (hy2.cell (p := ⟨b1, o1 + i * 6 + 4, none⟩) (Nat.lt_of_lt_of_le lt_b1 (hSx.2.2.2.2.2.2).size)).trans hSx.2.2.2.2.1, (hy2.cell (p := ⟨b1, o1 + i * 6 + 5, none⟩) (Nat.lt_of_lt_of_le lt_b1 (hSx.2.2.2.2.2.2).size)).trans hSx.2.2.2.2.2.1, bthen hSx.2.2.2.2.2.2 hy2 (hSx.2.2.2.2.2.2).size⟩) (fun hSy => ?_)
            clear hSx hK K
            have hSx := hSy; clear hSy
            try simp only [Act.put, List.getElem_toArray, List.getElem_cons_zero, List.getElem_cons_succ, List.setIfInBounds_toArray, List.set_cons_zero, List.set_cons_succ]
            refine wpAnyH_take (i := 33) (v := ?_) rfl (by kernel_rfl) (by kernel_rfl) (by kernel_rfl) (fun _ _ _ h => h) (Or.inl ⟨by rfl, ?_⟩) (by assumption) ?_
            rotate_left
            · intro w _; go_simp; try with_reducible rfl
            try simp only [Act.put, List.getElem_toArray, List.getElem_cons_zero, List.getElem_cons_succ, List.setIfInBounds_toArray, List.set_cons_zero, List.set_cons_succ]
            refine wpAnyH_take (i := 34) (v := ?_) rfl (by kernel_rfl) (by kernel_rfl) (by kernel_rfl) (fun _ _ _ h => h) (Or.inl ⟨by rfl, ?_⟩) (by assumption) ?_
            rotate_left
            · intro w _; go_simp; try with_reducible rfl
            try simp only [Act.put, List.getElem_toArray, List.getElem_cons_zero, List.getElem_cons_succ, List.setIfInBounds_toArray, List.set_cons_zero, List.set_cons_succ]
            refine wpAnyH_done (by kernel_rfl) ?_ _
            have hBy := hide (bthen hB (hSx.2.2.2.2.2.2) (by omega))
            clear hSx hy1 hy2
            go_wp2_with fail
            · go_ret
              exact ⟨_, rfl, hBy.out⟩
            · have hBy' := hBy.out
              go_roundw
              case rel => exact ⟨i + 1, by omega, by go_num, hBy'⟩
              case measure => simp [intOf]; omega
          · obtain ⟨i', hi'⟩ : ∃ i', i = i' + 1 := ⟨i - 1, by omega⟩
            have hi'n : i' < n := by omega
            obtain ⟨d, b', o', hh_d, hbo, hlb, hcell⟩ := HA.out.get rqF_len (by omega) (show i' < n by omega)
            obtain ⟨rfl, rfl⟩ : b1 = b' ∧ o1 = o' := by injection hbo with hbo; injection hbo with hb1 hb2; exact ⟨hb1, hb2⟩
            clear hbo
            have d0 : wr.cell? ⟨b1, o1 + i' * 6, none⟩ = some (.int .i64 d.id) := (hB.cell (p := ⟨b1, o1 + (i' * 6 + 0), none⟩) hlb).trans (hcell 0 _ rfl)
            have d1 : wr.cell? ⟨b1, o1 + i' * 6 + 1, none⟩ = some (.int .i64 d.tenant) := (hB.cell (p := ⟨b1, o1 + (i' * 6 + 1), none⟩) hlb).trans (hcell 1 _ rfl)
            have d2 : wr.cell? ⟨b1, o1 + i' * 6 + 2, none⟩ = some (.int .i64 d.line) := (hB.cell (p := ⟨b1, o1 + (i' * 6 + 2), none⟩) hlb).trans (hcell 2 _ rfl)
            have d3 : wr.cell? ⟨b1, o1 + i' * 6 + 3, none⟩ = some (.bool d.write) := (hB.cell (p := ⟨b1, o1 + (i' * 6 + 3), none⟩) hlb).trans (hcell 3 _ rfl)
            have d4 : wr.cell? ⟨b1, o1 + i' * 6 + 4, none⟩ = some (.int .i64 d.data) := (hB.cell (p := ⟨b1, o1 + (i' * 6 + 4), none⟩) hlb).trans (hcell 4 _ rfl)
            have d5 : wr.cell? ⟨b1, o1 + i' * 6 + 5, none⟩ = some (.int .i64 d.tm) := (hB.cell (p := ⟨b1, o1 + (i' * 6 + 5), none⟩) hlb).trans (hcell 5 _ rfl)
            have HE_d := hide hh_d
            have sz_d := hB.size
            have lt_b1 : b1 < wr.heap.size := (by have := hB.size; omega)
            have i0_d : (0 : Int) ≤ (i' : Int) := by omega
            have i1_d : (i' : Int) < (n : Int) := by omega
            clear hcell hlb hh_d
            have hw1 : IntKind.i64.wrap ((i : Int) - 1) = (i' : Int) := by rw [hi']; exact (IntWalk.i64_in _ (by omega)).trans (by omega)
            have hw3 : IntKind.i64.wrap (i' : Int) = (i' : Int) := IntWalk.i64_in _ (by omega)
            have hw4 : (i' : Int).toNat = i' := by omega
            have hi2 : (0 : Int) < (i : Int) := by omega
            have hi3 := hide hi'
            clear hi'
            cases hq2 : befB d e
            · go_wp2_with fail
              refine wp_region_held_drew (S := fun v => v.cell? ⟨b1, o1 + i * 6, none⟩ = some (.int .i64 e.id) ∧ v.cell? ⟨b1, o1 + i * 6 + 1, none⟩ = some (.int .i64 e.tenant) ∧ v.cell? ⟨b1, o1 + i * 6 + 2, none⟩ = some (.int .i64 e.line) ∧ v.cell? ⟨b1, o1 + i * 6 + 3, none⟩ = some (.bool e.write) ∧ v.cell? ⟨b1, o1 + i * 6 + 4, none⟩ = some (.int .i64 e.data) ∧ v.cell? ⟨b1, o1 + i * 6 + 5, none⟩ = some (.int .i64 e.tm) ∧ v.cell? ⟨b1, o1 + i' * 6, none⟩ = some (.int .i64 d.id) ∧ v.cell? ⟨b1, o1 + i' * 6 + 1, none⟩ = some (.int .i64 d.tenant) ∧ v.cell? ⟨b1, o1 + i' * 6 + 2, none⟩ = some (.int .i64 d.line) ∧ v.cell? ⟨b1, o1 + i' * 6 + 3, none⟩ = some (.bool d.write) ∧ v.cell? ⟨b1, o1 + i' * 6 + 4, none⟩ = some (.int .i64 d.data) ∧ v.cell? ⟨b1, o1 + i' * 6 + 5, none⟩ = some (.int .i64 d.tm) ∧ Below wr.heap.size wr v) (by kernel_rfl) (⟨e0, e1, e2, e3, e4, e5, d0, d1, d2, d3, d4, d5, (Below.refl _ _).drew⟩) (fun hSx => ?_)
              refine wpAnyH_take (i := 0) (v := ?_) rfl (by kernel_rfl) (by kernel_rfl) (by kernel_rfl) (fun _ _ _ h => h) (Or.inl ⟨by rfl, ?_⟩) (by assumption) ?_
              rotate_left
              · intro w _; go_simp; try with_reducible rfl
              try simp only [Act.put, List.getElem_toArray, List.getElem_cons_zero, List.getElem_cons_succ, List.setIfInBounds_toArray, List.set_cons_zero, List.set_cons_succ]
              refine wpAnyH_take (i := 1) (v := ?_) rfl (by kernel_rfl) (by kernel_rfl) (by kernel_rfl) (fun _ _ _ h => h) (Or.inl ⟨by rfl, ?_⟩) (by assumption) ?_
              rotate_left
              · intro w _; go_simp; try with_reducible rfl
              try simp only [Act.put, List.getElem_toArray, List.getElem_cons_zero, List.getElem_cons_succ, List.setIfInBounds_toArray, List.set_cons_zero, List.set_cons_succ]
              refine wpAnyH_take (i := 2) (v := ?_) rfl (by kernel_rfl) (by kernel_rfl) (by kernel_rfl) (fun _ _ _ h => h) (Or.inl ⟨by rfl, ?_⟩) (by assumption) ?_
              rotate_left
              · intro w _; go_simp; try with_reducible rfl
              try simp only [Act.put, List.getElem_toArray, List.getElem_cons_zero, List.getElem_cons_succ, List.setIfInBounds_toArray, List.set_cons_zero, List.set_cons_succ]
              refine wpAnyH_take (i := 3) (v := ?_) rfl (by kernel_rfl) (by kernel_rfl) (by kernel_rfl) (fun _ _ _ h => h) (Or.inl ⟨by rfl, ?_⟩) (by assumption) ?_
              rotate_left
              · intro w _; go_simp; try with_reducible rfl
              try simp only [Act.put, List.getElem_toArray, List.getElem_cons_zero, List.getElem_cons_succ, List.setIfInBounds_toArray, List.set_cons_zero, List.set_cons_succ]
              refine wpAnyH_take (i := 4) (v := ?_) rfl (by kernel_rfl) (by kernel_rfl) (by kernel_rfl) (fun _ _ _ h => h) (Or.inl ⟨by rfl, ?_⟩) (by assumption) ?_
              rotate_left
              · intro w hSw; (try dsimp only at hSw); go_simp; try with_reducible rfl
              try simp only [Act.put, List.getElem_toArray, List.getElem_cons_zero, List.getElem_cons_succ, List.setIfInBounds_toArray, List.set_cons_zero, List.set_cons_succ]
              refine wpAnyH_ready (rs := [5]) (by kernel_rfl) (by simp) ?_
              refine AllReadyH.cons rfl (fun K hK => ?_) AllReadyH.nil
              go_simp
              refine (spec_RequestOk_is lines e true hq1 _).mono ?_
              rintro e y1 ⟨rfl, hy1⟩
              refine hK.out _ _ (⟨(hy1.cell (p := ⟨b1, o1 + i * 6, none⟩) (Nat.lt_of_lt_of_le lt_b1 (hSx.2.2.2.2.2.2.2.2.2.2.2.2).size)).trans hSx.1, (hy1.cell (p := ⟨b1, o1 + i * 6 + 1, none⟩) (Nat.lt_of_lt_of_le lt_b1 (hSx.2.2.2.2.2.2.2.2.2.2.2.2).size)).trans hSx.2.1, (hy1.cell (p := ⟨b1, o1 + i * 6 + 2, none⟩) (Nat.lt_of_lt_of_le lt_b1 (hSx.2.2.2.2.2.2.2.2.2.2.2.2).size)).trans hSx.2.2.1, (hy1.cell (p := ⟨b1, o1 + i * 6 + 3, none⟩) (Nat.lt_of_lt_of_le lt_b1 (hSx.2.2.2.2.2.2.2.2.2.2.2.2).size)).trans hSx.2.2.2.1, (hy1.cell (p := ⟨b1, o1 + i * 6 + 4, none⟩) (Nat.lt_of_lt_of_le lt_b1 (hSx.2.2.2.2.2.2.2.2.2.2.2.2).size)).trans hSx.2.2.2.2.1, (hy1.cell (p := ⟨b1, o1 + i * 6 + 5, none⟩) (Nat.lt_of_lt_of_le lt_b1 (hSx.2.2.2.2.2.2.2.2.2.2.2.2).size)).trans hSx.2.2.2.2.2.1, (hy1.cell (p := ⟨b1, o1 + i' * 6, none⟩) (Nat.lt_of_lt_of_le lt_b1 (hSx.2.2.2.2.2.2.2.2.2.2.2.2).size)).trans hSx.2.2.2.2.2.2.1, (hy1.cell (p := ⟨b1, o1 + i' * 6 + 1, none⟩) (Nat.lt_of_lt_of_le lt_b1 (hSx.2.2.2.2.2.2.2.2.2.2.2.2).size)).trans hSx.2.2.2.2.2.2.2.1, (hy1.cell (p := ⟨b1, o1 + i' * 6 + 2, none⟩) (Nat.lt_of_lt_of_le lt_b1 (hSx.2.2.2.2.2.2.2.2.2.2.2.2).size)).trans hSx.2.2.2.2.2.2.2.2.1, (hy1.cell (p := ⟨b1, o1 + i' * 6 + 3, none⟩) (Nat.lt_of_lt_of_le lt_b1 (hSx.2.2.2.2.2.2.2.2.2.2.2.2).size)).trans hSx.2.2.2.2.2.2.2.2.2.1, (hy1.cell (p := ⟨b1, o1 + i' * 6 + 4, none⟩) (Nat.lt_of_lt_of_le lt_b1 (hSx.2.2.2.2.2.2.2.2.2.2.2.2).size)).trans hSx.2.2.2.2.2.2.2.2.2.2.1, (hy1.cell (p := ⟨b1, o1 + i' * 6 + 5, none⟩) (Nat.lt_of_lt_of_le lt_b1 (hSx.2.2.2.2.2.2.2.2.2.2.2.2).size)).trans hSx.2.2.2.2.2.2.2.2.2.2.2.1, bthen hSx.2.2.2.2.2.2.2.2.2.2.2.2 hy1 (hSx.2.2.2.2.2.2.2.2.2.2.2.2).size⟩) (fun hSy => ?_)
              clear hSx hK K
              have hSx := hSy; clear hSy
              try simp only [Act.put, List.getElem_toArray, List.getElem_cons_zero, List.getElem_cons_succ, List.setIfInBounds_toArray, List.set_cons_zero, List.set_cons_succ]
              refine wpAnyH_take (i := 6) (v := ?_) rfl (by kernel_rfl) (by kernel_rfl) (by kernel_rfl) (fun _ _ _ h => h) (Or.inl ⟨by rfl, ?_⟩) (by assumption) ?_
              rotate_left
              · intro w _; go_simp; try with_reducible rfl
              try simp only [Act.put, List.getElem_toArray, List.getElem_cons_zero, List.getElem_cons_succ, List.setIfInBounds_toArray, List.set_cons_zero, List.set_cons_succ]
              refine wpAnyH_take (i := 7) (v := ?_) rfl (by kernel_rfl) (by kernel_rfl) (by kernel_rfl) (fun _ _ _ h => h) (Or.inl ⟨by rfl, ?_⟩) (by assumption) ?_
              rotate_left
              · intro w _; go_simp; try with_reducible rfl
              try simp only [Act.put, List.getElem_toArray, List.getElem_cons_zero, List.getElem_cons_succ, List.setIfInBounds_toArray, List.set_cons_zero, List.set_cons_succ]
              refine wpAnyH_take (i := 8) (v := ?_) rfl (by kernel_rfl) (by kernel_rfl) (by kernel_rfl) (fun _ _ _ h => h) (Or.inl ⟨by rfl, ?_⟩) (by assumption) ?_
              rotate_left
              · intro w _; go_simp; try with_reducible rfl
              try simp only [Act.put, List.getElem_toArray, List.getElem_cons_zero, List.getElem_cons_succ, List.setIfInBounds_toArray, List.set_cons_zero, List.set_cons_succ]
              refine wpAnyH_take (i := 9) (v := ?_) rfl (by kernel_rfl) (by kernel_rfl) (by kernel_rfl) (fun _ _ _ h => h) (Or.inl ⟨by rfl, ?_⟩) (by assumption) ?_
              rotate_left
              · intro w _; go_simp; try with_reducible rfl
              try simp only [Act.put, List.getElem_toArray, List.getElem_cons_zero, List.getElem_cons_succ, List.setIfInBounds_toArray, List.set_cons_zero, List.set_cons_succ]
              refine wpAnyH_take (i := 10) (v := ?_) rfl (by kernel_rfl) (by kernel_rfl) (by kernel_rfl) (fun _ _ _ h => h) (Or.inl ⟨by rfl, ?_⟩) (by assumption) ?_
              rotate_left
              · intro w _; go_simp; try with_reducible rfl
              try simp only [Act.put, List.getElem_toArray, List.getElem_cons_zero, List.getElem_cons_succ, List.setIfInBounds_toArray, List.set_cons_zero, List.set_cons_succ]
              refine wpAnyH_take (i := 11) (v := ?_) rfl (by kernel_rfl) (by kernel_rfl) (by kernel_rfl) (fun _ _ _ h => h) (Or.inl ⟨by rfl, ?_⟩) (by assumption) ?_
              rotate_left
              · intro w _; go_simp; try with_reducible rfl
              try simp only [Act.put, List.getElem_toArray, List.getElem_cons_zero, List.getElem_cons_succ, List.setIfInBounds_toArray, List.set_cons_zero, List.set_cons_succ]
              refine wpAnyH_take (i := 12) (v := ?_) rfl (by kernel_rfl) (by kernel_rfl) (by kernel_rfl) (fun _ _ _ h => h) (Or.inl ⟨by rfl, ?_⟩) (by assumption) ?_
              rotate_left
              · intro w _; go_simp; try with_reducible rfl
              try simp only [Act.put, List.getElem_toArray, List.getElem_cons_zero, List.getElem_cons_succ, List.setIfInBounds_toArray, List.set_cons_zero, List.set_cons_succ]
              refine wpAnyH_take (i := 13) (v := ?_) rfl (by kernel_rfl) (by kernel_rfl) (by kernel_rfl) (fun _ _ _ h => h) (Or.inl ⟨by rfl, ?_⟩) (by assumption) ?_
              rotate_left
              · intro w _; go_simp; try with_reducible rfl
              try simp only [Act.put, List.getElem_toArray, List.getElem_cons_zero, List.getElem_cons_succ, List.setIfInBounds_toArray, List.set_cons_zero, List.set_cons_succ]
              refine wpAnyH_take (i := 14) (v := ?_) rfl (by kernel_rfl) (by kernel_rfl) (by kernel_rfl) (fun _ _ _ h => h) (Or.inl ⟨by rfl, ?_⟩) (by assumption) ?_
              rotate_left
              · intro w _; go_simp; try with_reducible rfl
              try simp only [Act.put, List.getElem_toArray, List.getElem_cons_zero, List.getElem_cons_succ, List.setIfInBounds_toArray, List.set_cons_zero, List.set_cons_succ]
              refine wpAnyH_take (i := 15) (v := ?_) rfl (by kernel_rfl) (by kernel_rfl) (by kernel_rfl) (fun _ _ _ h => h) (Or.inl ⟨by rfl, ?_⟩) (by assumption) ?_
              rotate_left
              · intro w hSw; (try dsimp only at hSw); go_simp; try with_reducible rfl
              try simp only [Act.put, List.getElem_toArray, List.getElem_cons_zero, List.getElem_cons_succ, List.setIfInBounds_toArray, List.set_cons_zero, List.set_cons_succ]
              refine wpAnyH_take (i := 16) (v := ?_) rfl (by kernel_rfl) (by kernel_rfl) (by kernel_rfl) (fun _ _ _ h => h) (Or.inl ⟨by rfl, ?_⟩) (by assumption) ?_
              rotate_left
              · intro w _; go_simp; try with_reducible rfl
              try simp only [Act.put, List.getElem_toArray, List.getElem_cons_zero, List.getElem_cons_succ, List.setIfInBounds_toArray, List.set_cons_zero, List.set_cons_succ]
              refine wpAnyH_take (i := 17) (v := ?_) rfl (by kernel_rfl) (by kernel_rfl) (by kernel_rfl) (fun _ _ _ h => h) (Or.inl ⟨by rfl, ?_⟩) (by assumption) ?_
              rotate_left
              · intro w _; go_simp; try with_reducible rfl
              try simp only [Act.put, List.getElem_toArray, List.getElem_cons_zero, List.getElem_cons_succ, List.setIfInBounds_toArray, List.set_cons_zero, List.set_cons_succ]
              refine wpAnyH_take (i := 18) (v := ?_) rfl (by kernel_rfl) (by kernel_rfl) (by kernel_rfl) (fun _ _ _ h => h) (Or.inl ⟨by rfl, ?_⟩) (by assumption) ?_
              rotate_left
              · intro w _; go_simp; try with_reducible rfl
              try simp only [Act.put, List.getElem_toArray, List.getElem_cons_zero, List.getElem_cons_succ, List.setIfInBounds_toArray, List.set_cons_zero, List.set_cons_succ]
              refine wpAnyH_take (i := 19) (v := ?_) rfl (by kernel_rfl) (by kernel_rfl) (by kernel_rfl) (fun _ _ _ h => h) (Or.inl ⟨by rfl, ?_⟩) (by assumption) ?_
              rotate_left
              · intro w hSw; (try dsimp only at hSw); go_simp; try with_reducible rfl
              try simp only [Act.put, List.getElem_toArray, List.getElem_cons_zero, List.getElem_cons_succ, List.setIfInBounds_toArray, List.set_cons_zero, List.set_cons_succ]
              refine wpAnyH_ready (rs := [20]) (by kernel_rfl) (by simp) ?_
              refine AllReadyH.cons rfl (fun K hK => ?_) AllReadyH.nil
              go_simp
              refine (spec_l19Before_is d e false hq2 _).mono ?_
              rintro e y2 ⟨rfl, hy2⟩
              refine hK.out _ _ (⟨(hy2.cell (p := ⟨b1, o1 + i * 6, none⟩) (Nat.lt_of_lt_of_le lt_b1 (hSx.2.2.2.2.2.2.2.2.2.2.2.2).size)).trans hSx.1, (hy2.cell (p := ⟨b1, o1 + i * 6 + 1, none⟩) (Nat.lt_of_lt_of_le lt_b1 (hSx.2.2.2.2.2.2.2.2.2.2.2.2).size)).trans hSx.2.1, (hy2.cell (p := ⟨b1, o1 + i * 6 + 2, none⟩) (Nat.lt_of_lt_of_le lt_b1 (hSx.2.2.2.2.2.2.2.2.2.2.2.2).size)).trans hSx.2.2.1, (hy2.cell (p := ⟨b1, o1 + i * 6 + 3, none⟩) (Nat.lt_of_lt_of_le lt_b1 (hSx.2.2.2.2.2.2.2.2.2.2.2.2).size)).trans hSx.2.2.2.1, (hy2.cell (p := ⟨b1, o1 + i * 6 + 4, none⟩) (Nat.lt_of_lt_of_le lt_b1 (hSx.2.2.2.2.2.2.2.2.2.2.2.2).size)).trans hSx.2.2.2.2.1, (hy2.cell (p := ⟨b1, o1 + i * 6 + 5, none⟩) (Nat.lt_of_lt_of_le lt_b1 (hSx.2.2.2.2.2.2.2.2.2.2.2.2).size)).trans hSx.2.2.2.2.2.1, (hy2.cell (p := ⟨b1, o1 + i' * 6, none⟩) (Nat.lt_of_lt_of_le lt_b1 (hSx.2.2.2.2.2.2.2.2.2.2.2.2).size)).trans hSx.2.2.2.2.2.2.1, (hy2.cell (p := ⟨b1, o1 + i' * 6 + 1, none⟩) (Nat.lt_of_lt_of_le lt_b1 (hSx.2.2.2.2.2.2.2.2.2.2.2.2).size)).trans hSx.2.2.2.2.2.2.2.1, (hy2.cell (p := ⟨b1, o1 + i' * 6 + 2, none⟩) (Nat.lt_of_lt_of_le lt_b1 (hSx.2.2.2.2.2.2.2.2.2.2.2.2).size)).trans hSx.2.2.2.2.2.2.2.2.1, (hy2.cell (p := ⟨b1, o1 + i' * 6 + 3, none⟩) (Nat.lt_of_lt_of_le lt_b1 (hSx.2.2.2.2.2.2.2.2.2.2.2.2).size)).trans hSx.2.2.2.2.2.2.2.2.2.1, (hy2.cell (p := ⟨b1, o1 + i' * 6 + 4, none⟩) (Nat.lt_of_lt_of_le lt_b1 (hSx.2.2.2.2.2.2.2.2.2.2.2.2).size)).trans hSx.2.2.2.2.2.2.2.2.2.2.1, (hy2.cell (p := ⟨b1, o1 + i' * 6 + 5, none⟩) (Nat.lt_of_lt_of_le lt_b1 (hSx.2.2.2.2.2.2.2.2.2.2.2.2).size)).trans hSx.2.2.2.2.2.2.2.2.2.2.2.1, bthen hSx.2.2.2.2.2.2.2.2.2.2.2.2 hy2 (hSx.2.2.2.2.2.2.2.2.2.2.2.2).size⟩) (fun hSy => ?_)
              clear hSx hK K
              have hSx := hSy; clear hSy
              try simp only [Act.put, List.getElem_toArray, List.getElem_cons_zero, List.getElem_cons_succ, List.setIfInBounds_toArray, List.set_cons_zero, List.set_cons_succ]
              refine wpAnyH_take (i := 21) (v := ?_) rfl (by kernel_rfl) (by kernel_rfl) (by kernel_rfl) (fun _ _ _ h => h) (Or.inl ⟨by rfl, ?_⟩) (by assumption) ?_
              rotate_left
              · intro w _; go_simp; try with_reducible rfl
              try simp only [Act.put, List.getElem_toArray, List.getElem_cons_zero, List.getElem_cons_succ, List.setIfInBounds_toArray, List.set_cons_zero, List.set_cons_succ]
              refine wpAnyH_take (i := 22) (v := ?_) rfl (by kernel_rfl) (by kernel_rfl) (by kernel_rfl) (fun _ _ _ h => h) (Or.inl ⟨by rfl, ?_⟩) (by assumption) ?_
              rotate_left
              · intro w _; go_simp; try with_reducible rfl
              try simp only [Act.put, List.getElem_toArray, List.getElem_cons_zero, List.getElem_cons_succ, List.setIfInBounds_toArray, List.set_cons_zero, List.set_cons_succ]
              refine wpAnyH_take (i := 23) (v := ?_) rfl (by kernel_rfl) (by kernel_rfl) (by kernel_rfl) (fun _ _ _ h => h) (Or.inl ⟨by rfl, ?_⟩) (by assumption) ?_
              rotate_left
              · intro w _; go_simp; try with_reducible rfl
              try simp only [Act.put, List.getElem_toArray, List.getElem_cons_zero, List.getElem_cons_succ, List.setIfInBounds_toArray, List.set_cons_zero, List.set_cons_succ]
              refine wpAnyH_take (i := 24) (v := ?_) rfl (by kernel_rfl) (by kernel_rfl) (by kernel_rfl) (fun _ _ _ h => h) (Or.inl ⟨by rfl, ?_⟩) (by assumption) ?_
              rotate_left
              · intro w _; go_simp; try with_reducible rfl
              try simp only [Act.put, List.getElem_toArray, List.getElem_cons_zero, List.getElem_cons_succ, List.setIfInBounds_toArray, List.set_cons_zero, List.set_cons_succ]
              refine wpAnyH_take (i := 25) (v := undef) rfl (by kernel_rfl) (by kernel_rfl) (by kernel_rfl) (fun _ _ _ h => h) (Or.inr ⟨by rfl, rfl⟩) (by assumption) ?_
              try simp only [Act.put, List.getElem_toArray, List.getElem_cons_zero, List.getElem_cons_succ, List.setIfInBounds_toArray, List.set_cons_zero, List.set_cons_succ]
              refine wpAnyH_take (i := 26) (v := undef) rfl (by kernel_rfl) (by kernel_rfl) (by kernel_rfl) (fun _ _ _ h => h) (Or.inr ⟨by rfl, rfl⟩) (by assumption) ?_
              try simp only [Act.put, List.getElem_toArray, List.getElem_cons_zero, List.getElem_cons_succ, List.setIfInBounds_toArray, List.set_cons_zero, List.set_cons_succ]
              refine wpAnyH_take (i := 27) (v := undef) rfl (by kernel_rfl) (by kernel_rfl) (by kernel_rfl) (fun _ _ _ h => h) (Or.inr ⟨by rfl, rfl⟩) (by assumption) ?_
              try simp only [Act.put, List.getElem_toArray, List.getElem_cons_zero, List.getElem_cons_succ, List.setIfInBounds_toArray, List.set_cons_zero, List.set_cons_succ]
              refine wpAnyH_take (i := 28) (v := undef) rfl (by kernel_rfl) (by kernel_rfl) (by kernel_rfl) (fun _ _ _ h => h) (Or.inr ⟨by rfl, rfl⟩) (by assumption) ?_
              try simp only [Act.put, List.getElem_toArray, List.getElem_cons_zero, List.getElem_cons_succ, List.setIfInBounds_toArray, List.set_cons_zero, List.set_cons_succ]
              refine wpAnyH_take (i := 29) (v := undef) rfl (by kernel_rfl) (by kernel_rfl) (by kernel_rfl) (fun _ _ _ h => h) (Or.inr ⟨by rfl, rfl⟩) (by assumption) ?_
              try simp only [Act.put, List.getElem_toArray, List.getElem_cons_zero, List.getElem_cons_succ, List.setIfInBounds_toArray, List.set_cons_zero, List.set_cons_succ]
              refine wpAnyH_take (i := 30) (v := undef) rfl (by kernel_rfl) (by kernel_rfl) (by kernel_rfl) (fun _ _ _ h => h) (Or.inr ⟨by rfl, rfl⟩) (by assumption) ?_
              try simp only [Act.put, List.getElem_toArray, List.getElem_cons_zero, List.getElem_cons_succ, List.setIfInBounds_toArray, List.set_cons_zero, List.set_cons_succ]
              refine wpAnyH_take (i := 31) (v := undef) rfl (by kernel_rfl) (by kernel_rfl) (by kernel_rfl) (fun _ _ _ h => h) (Or.inr ⟨by rfl, rfl⟩) (by assumption) ?_
              try simp only [Act.put, List.getElem_toArray, List.getElem_cons_zero, List.getElem_cons_succ, List.setIfInBounds_toArray, List.set_cons_zero, List.set_cons_succ]
              refine wpAnyH_take (i := 32) (v := undef) rfl (by kernel_rfl) (by kernel_rfl) (by kernel_rfl) (fun _ _ _ h => h) (Or.inr ⟨by rfl, rfl⟩) (by assumption) ?_
              try simp only [Act.put, List.getElem_toArray, List.getElem_cons_zero, List.getElem_cons_succ, List.setIfInBounds_toArray, List.set_cons_zero, List.set_cons_succ]
              refine wpAnyH_take (i := 33) (v := undef) rfl (by kernel_rfl) (by kernel_rfl) (by kernel_rfl) (fun _ _ _ h => h) (Or.inr ⟨by rfl, rfl⟩) (by assumption) ?_
              try simp only [Act.put, List.getElem_toArray, List.getElem_cons_zero, List.getElem_cons_succ, List.setIfInBounds_toArray, List.set_cons_zero, List.set_cons_succ]
              refine wpAnyH_take (i := 34) (v := ?_) rfl (by kernel_rfl) (by kernel_rfl) (by kernel_rfl) (fun _ _ _ h => h) (Or.inl ⟨by rfl, ?_⟩) (by assumption) ?_
              rotate_left
              · intro w _; go_simp; try with_reducible rfl
              try simp only [Act.put, List.getElem_toArray, List.getElem_cons_zero, List.getElem_cons_succ, List.setIfInBounds_toArray, List.set_cons_zero, List.set_cons_succ]
              refine wpAnyH_done (by kernel_rfl) ?_ _
              have hBy := hide (bthen hB (hSx.2.2.2.2.2.2.2.2.2.2.2.2) (by omega))
              clear hSx hy1 hy2
              go_wp2_with fail
              go_ret
              exact ⟨_, rfl, hBy.out⟩
            · go_wp2_with fail
              refine wp_region_held_drew (S := fun v => v.cell? ⟨b1, o1 + i * 6, none⟩ = some (.int .i64 e.id) ∧ v.cell? ⟨b1, o1 + i * 6 + 1, none⟩ = some (.int .i64 e.tenant) ∧ v.cell? ⟨b1, o1 + i * 6 + 2, none⟩ = some (.int .i64 e.line) ∧ v.cell? ⟨b1, o1 + i * 6 + 3, none⟩ = some (.bool e.write) ∧ v.cell? ⟨b1, o1 + i * 6 + 4, none⟩ = some (.int .i64 e.data) ∧ v.cell? ⟨b1, o1 + i * 6 + 5, none⟩ = some (.int .i64 e.tm) ∧ v.cell? ⟨b1, o1 + i' * 6, none⟩ = some (.int .i64 d.id) ∧ v.cell? ⟨b1, o1 + i' * 6 + 1, none⟩ = some (.int .i64 d.tenant) ∧ v.cell? ⟨b1, o1 + i' * 6 + 2, none⟩ = some (.int .i64 d.line) ∧ v.cell? ⟨b1, o1 + i' * 6 + 3, none⟩ = some (.bool d.write) ∧ v.cell? ⟨b1, o1 + i' * 6 + 4, none⟩ = some (.int .i64 d.data) ∧ v.cell? ⟨b1, o1 + i' * 6 + 5, none⟩ = some (.int .i64 d.tm) ∧ Below wr.heap.size wr v) (by kernel_rfl) (⟨e0, e1, e2, e3, e4, e5, d0, d1, d2, d3, d4, d5, (Below.refl _ _).drew⟩) (fun hSx => ?_)
              refine wpAnyH_take (i := 0) (v := ?_) rfl (by kernel_rfl) (by kernel_rfl) (by kernel_rfl) (fun _ _ _ h => h) (Or.inl ⟨by rfl, ?_⟩) (by assumption) ?_
              rotate_left
              · intro w _; go_simp; try with_reducible rfl
              try simp only [Act.put, List.getElem_toArray, List.getElem_cons_zero, List.getElem_cons_succ, List.setIfInBounds_toArray, List.set_cons_zero, List.set_cons_succ]
              refine wpAnyH_take (i := 1) (v := ?_) rfl (by kernel_rfl) (by kernel_rfl) (by kernel_rfl) (fun _ _ _ h => h) (Or.inl ⟨by rfl, ?_⟩) (by assumption) ?_
              rotate_left
              · intro w _; go_simp; try with_reducible rfl
              try simp only [Act.put, List.getElem_toArray, List.getElem_cons_zero, List.getElem_cons_succ, List.setIfInBounds_toArray, List.set_cons_zero, List.set_cons_succ]
              refine wpAnyH_take (i := 2) (v := ?_) rfl (by kernel_rfl) (by kernel_rfl) (by kernel_rfl) (fun _ _ _ h => h) (Or.inl ⟨by rfl, ?_⟩) (by assumption) ?_
              rotate_left
              · intro w _; go_simp; try with_reducible rfl
              try simp only [Act.put, List.getElem_toArray, List.getElem_cons_zero, List.getElem_cons_succ, List.setIfInBounds_toArray, List.set_cons_zero, List.set_cons_succ]
              refine wpAnyH_take (i := 3) (v := ?_) rfl (by kernel_rfl) (by kernel_rfl) (by kernel_rfl) (fun _ _ _ h => h) (Or.inl ⟨by rfl, ?_⟩) (by assumption) ?_
              rotate_left
              · intro w _; go_simp; try with_reducible rfl
              try simp only [Act.put, List.getElem_toArray, List.getElem_cons_zero, List.getElem_cons_succ, List.setIfInBounds_toArray, List.set_cons_zero, List.set_cons_succ]
              refine wpAnyH_take (i := 4) (v := ?_) rfl (by kernel_rfl) (by kernel_rfl) (by kernel_rfl) (fun _ _ _ h => h) (Or.inl ⟨by rfl, ?_⟩) (by assumption) ?_
              rotate_left
              · intro w hSw; (try dsimp only at hSw); go_simp; try with_reducible rfl
              try simp only [Act.put, List.getElem_toArray, List.getElem_cons_zero, List.getElem_cons_succ, List.setIfInBounds_toArray, List.set_cons_zero, List.set_cons_succ]
              refine wpAnyH_ready (rs := [5]) (by kernel_rfl) (by simp) ?_
              refine AllReadyH.cons rfl (fun K hK => ?_) AllReadyH.nil
              go_simp
              refine (spec_RequestOk_is lines e true hq1 _).mono ?_
              rintro e y1 ⟨rfl, hy1⟩
              refine hK.out _ _ (⟨(hy1.cell (p := ⟨b1, o1 + i * 6, none⟩) (Nat.lt_of_lt_of_le lt_b1 (hSx.2.2.2.2.2.2.2.2.2.2.2.2).size)).trans hSx.1, (hy1.cell (p := ⟨b1, o1 + i * 6 + 1, none⟩) (Nat.lt_of_lt_of_le lt_b1 (hSx.2.2.2.2.2.2.2.2.2.2.2.2).size)).trans hSx.2.1, (hy1.cell (p := ⟨b1, o1 + i * 6 + 2, none⟩) (Nat.lt_of_lt_of_le lt_b1 (hSx.2.2.2.2.2.2.2.2.2.2.2.2).size)).trans hSx.2.2.1, (hy1.cell (p := ⟨b1, o1 + i * 6 + 3, none⟩) (Nat.lt_of_lt_of_le lt_b1 (hSx.2.2.2.2.2.2.2.2.2.2.2.2).size)).trans hSx.2.2.2.1, (hy1.cell (p := ⟨b1, o1 + i * 6 + 4, none⟩) (Nat.lt_of_lt_of_le lt_b1 (hSx.2.2.2.2.2.2.2.2.2.2.2.2).size)).trans hSx.2.2.2.2.1, (hy1.cell (p := ⟨b1, o1 + i * 6 + 5, none⟩) (Nat.lt_of_lt_of_le lt_b1 (hSx.2.2.2.2.2.2.2.2.2.2.2.2).size)).trans hSx.2.2.2.2.2.1, (hy1.cell (p := ⟨b1, o1 + i' * 6, none⟩) (Nat.lt_of_lt_of_le lt_b1 (hSx.2.2.2.2.2.2.2.2.2.2.2.2).size)).trans hSx.2.2.2.2.2.2.1, (hy1.cell (p := ⟨b1, o1 + i' * 6 + 1, none⟩) (Nat.lt_of_lt_of_le lt_b1 (hSx.2.2.2.2.2.2.2.2.2.2.2.2).size)).trans hSx.2.2.2.2.2.2.2.1, (hy1.cell (p := ⟨b1, o1 + i' * 6 + 2, none⟩) (Nat.lt_of_lt_of_le lt_b1 (hSx.2.2.2.2.2.2.2.2.2.2.2.2).size)).trans hSx.2.2.2.2.2.2.2.2.1, (hy1.cell (p := ⟨b1, o1 + i' * 6 + 3, none⟩) (Nat.lt_of_lt_of_le lt_b1 (hSx.2.2.2.2.2.2.2.2.2.2.2.2).size)).trans hSx.2.2.2.2.2.2.2.2.2.1, (hy1.cell (p := ⟨b1, o1 + i' * 6 + 4, none⟩) (Nat.lt_of_lt_of_le lt_b1 (hSx.2.2.2.2.2.2.2.2.2.2.2.2).size)).trans hSx.2.2.2.2.2.2.2.2.2.2.1, (hy1.cell (p := ⟨b1, o1 + i' * 6 + 5, none⟩) (Nat.lt_of_lt_of_le lt_b1 (hSx.2.2.2.2.2.2.2.2.2.2.2.2).size)).trans hSx.2.2.2.2.2.2.2.2.2.2.2.1, bthen hSx.2.2.2.2.2.2.2.2.2.2.2.2 hy1 (hSx.2.2.2.2.2.2.2.2.2.2.2.2).size⟩) (fun hSy => ?_)
              clear hSx hK K
              have hSx := hSy; clear hSy
              try simp only [Act.put, List.getElem_toArray, List.getElem_cons_zero, List.getElem_cons_succ, List.setIfInBounds_toArray, List.set_cons_zero, List.set_cons_succ]
              refine wpAnyH_take (i := 6) (v := ?_) rfl (by kernel_rfl) (by kernel_rfl) (by kernel_rfl) (fun _ _ _ h => h) (Or.inl ⟨by rfl, ?_⟩) (by assumption) ?_
              rotate_left
              · intro w _; go_simp; try with_reducible rfl
              try simp only [Act.put, List.getElem_toArray, List.getElem_cons_zero, List.getElem_cons_succ, List.setIfInBounds_toArray, List.set_cons_zero, List.set_cons_succ]
              refine wpAnyH_take (i := 7) (v := ?_) rfl (by kernel_rfl) (by kernel_rfl) (by kernel_rfl) (fun _ _ _ h => h) (Or.inl ⟨by rfl, ?_⟩) (by assumption) ?_
              rotate_left
              · intro w _; go_simp; try with_reducible rfl
              try simp only [Act.put, List.getElem_toArray, List.getElem_cons_zero, List.getElem_cons_succ, List.setIfInBounds_toArray, List.set_cons_zero, List.set_cons_succ]
              refine wpAnyH_take (i := 8) (v := ?_) rfl (by kernel_rfl) (by kernel_rfl) (by kernel_rfl) (fun _ _ _ h => h) (Or.inl ⟨by rfl, ?_⟩) (by assumption) ?_
              rotate_left
              · intro w _; go_simp; try with_reducible rfl
              try simp only [Act.put, List.getElem_toArray, List.getElem_cons_zero, List.getElem_cons_succ, List.setIfInBounds_toArray, List.set_cons_zero, List.set_cons_succ]
              refine wpAnyH_take (i := 9) (v := ?_) rfl (by kernel_rfl) (by kernel_rfl) (by kernel_rfl) (fun _ _ _ h => h) (Or.inl ⟨by rfl, ?_⟩) (by assumption) ?_
              rotate_left
              · intro w _; go_simp; try with_reducible rfl
              try simp only [Act.put, List.getElem_toArray, List.getElem_cons_zero, List.getElem_cons_succ, List.setIfInBounds_toArray, List.set_cons_zero, List.set_cons_succ]
              refine wpAnyH_take (i := 10) (v := ?_) rfl (by kernel_rfl) (by kernel_rfl) (by kernel_rfl) (fun _ _ _ h => h) (Or.inl ⟨by rfl, ?_⟩) (by assumption) ?_
              rotate_left
              · intro w _; go_simp; try with_reducible rfl
              try simp only [Act.put, List.getElem_toArray, List.getElem_cons_zero, List.getElem_cons_succ, List.setIfInBounds_toArray, List.set_cons_zero, List.set_cons_succ]
              refine wpAnyH_take (i := 11) (v := ?_) rfl (by kernel_rfl) (by kernel_rfl) (by kernel_rfl) (fun _ _ _ h => h) (Or.inl ⟨by rfl, ?_⟩) (by assumption) ?_
              rotate_left
              · intro w _; go_simp; try with_reducible rfl
              try simp only [Act.put, List.getElem_toArray, List.getElem_cons_zero, List.getElem_cons_succ, List.setIfInBounds_toArray, List.set_cons_zero, List.set_cons_succ]
              refine wpAnyH_take (i := 12) (v := ?_) rfl (by kernel_rfl) (by kernel_rfl) (by kernel_rfl) (fun _ _ _ h => h) (Or.inl ⟨by rfl, ?_⟩) (by assumption) ?_
              rotate_left
              · intro w _; go_simp; try with_reducible rfl
              try simp only [Act.put, List.getElem_toArray, List.getElem_cons_zero, List.getElem_cons_succ, List.setIfInBounds_toArray, List.set_cons_zero, List.set_cons_succ]
              refine wpAnyH_take (i := 13) (v := ?_) rfl (by kernel_rfl) (by kernel_rfl) (by kernel_rfl) (fun _ _ _ h => h) (Or.inl ⟨by rfl, ?_⟩) (by assumption) ?_
              rotate_left
              · intro w _; go_simp; try with_reducible rfl
              try simp only [Act.put, List.getElem_toArray, List.getElem_cons_zero, List.getElem_cons_succ, List.setIfInBounds_toArray, List.set_cons_zero, List.set_cons_succ]
              refine wpAnyH_take (i := 14) (v := ?_) rfl (by kernel_rfl) (by kernel_rfl) (by kernel_rfl) (fun _ _ _ h => h) (Or.inl ⟨by rfl, ?_⟩) (by assumption) ?_
              rotate_left
              · intro w _; go_simp; try with_reducible rfl
              try simp only [Act.put, List.getElem_toArray, List.getElem_cons_zero, List.getElem_cons_succ, List.setIfInBounds_toArray, List.set_cons_zero, List.set_cons_succ]
              refine wpAnyH_take (i := 15) (v := ?_) rfl (by kernel_rfl) (by kernel_rfl) (by kernel_rfl) (fun _ _ _ h => h) (Or.inl ⟨by rfl, ?_⟩) (by assumption) ?_
              rotate_left
              · intro w hSw; (try dsimp only at hSw); go_simp; try with_reducible rfl
              try simp only [Act.put, List.getElem_toArray, List.getElem_cons_zero, List.getElem_cons_succ, List.setIfInBounds_toArray, List.set_cons_zero, List.set_cons_succ]
              refine wpAnyH_take (i := 16) (v := ?_) rfl (by kernel_rfl) (by kernel_rfl) (by kernel_rfl) (fun _ _ _ h => h) (Or.inl ⟨by rfl, ?_⟩) (by assumption) ?_
              rotate_left
              · intro w _; go_simp; try with_reducible rfl
              try simp only [Act.put, List.getElem_toArray, List.getElem_cons_zero, List.getElem_cons_succ, List.setIfInBounds_toArray, List.set_cons_zero, List.set_cons_succ]
              refine wpAnyH_take (i := 17) (v := ?_) rfl (by kernel_rfl) (by kernel_rfl) (by kernel_rfl) (fun _ _ _ h => h) (Or.inl ⟨by rfl, ?_⟩) (by assumption) ?_
              rotate_left
              · intro w _; go_simp; try with_reducible rfl
              try simp only [Act.put, List.getElem_toArray, List.getElem_cons_zero, List.getElem_cons_succ, List.setIfInBounds_toArray, List.set_cons_zero, List.set_cons_succ]
              refine wpAnyH_take (i := 18) (v := ?_) rfl (by kernel_rfl) (by kernel_rfl) (by kernel_rfl) (fun _ _ _ h => h) (Or.inl ⟨by rfl, ?_⟩) (by assumption) ?_
              rotate_left
              · intro w _; go_simp; try with_reducible rfl
              try simp only [Act.put, List.getElem_toArray, List.getElem_cons_zero, List.getElem_cons_succ, List.setIfInBounds_toArray, List.set_cons_zero, List.set_cons_succ]
              refine wpAnyH_take (i := 19) (v := ?_) rfl (by kernel_rfl) (by kernel_rfl) (by kernel_rfl) (fun _ _ _ h => h) (Or.inl ⟨by rfl, ?_⟩) (by assumption) ?_
              rotate_left
              · intro w hSw; (try dsimp only at hSw); go_simp; try with_reducible rfl
              try simp only [Act.put, List.getElem_toArray, List.getElem_cons_zero, List.getElem_cons_succ, List.setIfInBounds_toArray, List.set_cons_zero, List.set_cons_succ]
              refine wpAnyH_ready (rs := [20]) (by kernel_rfl) (by simp) ?_
              refine AllReadyH.cons rfl (fun K hK => ?_) AllReadyH.nil
              go_simp
              refine (spec_l19Before_is d e true hq2 _).mono ?_
              rintro e y2 ⟨rfl, hy2⟩
              refine hK.out _ _ (⟨(hy2.cell (p := ⟨b1, o1 + i * 6, none⟩) (Nat.lt_of_lt_of_le lt_b1 (hSx.2.2.2.2.2.2.2.2.2.2.2.2).size)).trans hSx.1, (hy2.cell (p := ⟨b1, o1 + i * 6 + 1, none⟩) (Nat.lt_of_lt_of_le lt_b1 (hSx.2.2.2.2.2.2.2.2.2.2.2.2).size)).trans hSx.2.1, (hy2.cell (p := ⟨b1, o1 + i * 6 + 2, none⟩) (Nat.lt_of_lt_of_le lt_b1 (hSx.2.2.2.2.2.2.2.2.2.2.2.2).size)).trans hSx.2.2.1, (hy2.cell (p := ⟨b1, o1 + i * 6 + 3, none⟩) (Nat.lt_of_lt_of_le lt_b1 (hSx.2.2.2.2.2.2.2.2.2.2.2.2).size)).trans hSx.2.2.2.1, (hy2.cell (p := ⟨b1, o1 + i * 6 + 4, none⟩) (Nat.lt_of_lt_of_le lt_b1 (hSx.2.2.2.2.2.2.2.2.2.2.2.2).size)).trans hSx.2.2.2.2.1, (hy2.cell (p := ⟨b1, o1 + i * 6 + 5, none⟩) (Nat.lt_of_lt_of_le lt_b1 (hSx.2.2.2.2.2.2.2.2.2.2.2.2).size)).trans hSx.2.2.2.2.2.1, (hy2.cell (p := ⟨b1, o1 + i' * 6, none⟩) (Nat.lt_of_lt_of_le lt_b1 (hSx.2.2.2.2.2.2.2.2.2.2.2.2).size)).trans hSx.2.2.2.2.2.2.1, (hy2.cell (p := ⟨b1, o1 + i' * 6 + 1, none⟩) (Nat.lt_of_lt_of_le lt_b1 (hSx.2.2.2.2.2.2.2.2.2.2.2.2).size)).trans hSx.2.2.2.2.2.2.2.1, (hy2.cell (p := ⟨b1, o1 + i' * 6 + 2, none⟩) (Nat.lt_of_lt_of_le lt_b1 (hSx.2.2.2.2.2.2.2.2.2.2.2.2).size)).trans hSx.2.2.2.2.2.2.2.2.1, (hy2.cell (p := ⟨b1, o1 + i' * 6 + 3, none⟩) (Nat.lt_of_lt_of_le lt_b1 (hSx.2.2.2.2.2.2.2.2.2.2.2.2).size)).trans hSx.2.2.2.2.2.2.2.2.2.1, (hy2.cell (p := ⟨b1, o1 + i' * 6 + 4, none⟩) (Nat.lt_of_lt_of_le lt_b1 (hSx.2.2.2.2.2.2.2.2.2.2.2.2).size)).trans hSx.2.2.2.2.2.2.2.2.2.2.1, (hy2.cell (p := ⟨b1, o1 + i' * 6 + 5, none⟩) (Nat.lt_of_lt_of_le lt_b1 (hSx.2.2.2.2.2.2.2.2.2.2.2.2).size)).trans hSx.2.2.2.2.2.2.2.2.2.2.2.1, bthen hSx.2.2.2.2.2.2.2.2.2.2.2.2 hy2 (hSx.2.2.2.2.2.2.2.2.2.2.2.2).size⟩) (fun hSy => ?_)
              clear hSx hK K
              have hSx := hSy; clear hSy
              try simp only [Act.put, List.getElem_toArray, List.getElem_cons_zero, List.getElem_cons_succ, List.setIfInBounds_toArray, List.set_cons_zero, List.set_cons_succ]
              refine wpAnyH_take (i := 21) (v := ?_) rfl (by kernel_rfl) (by kernel_rfl) (by kernel_rfl) (fun _ _ _ h => h) (Or.inl ⟨by rfl, ?_⟩) (by assumption) ?_
              rotate_left
              · intro w _; go_simp; try with_reducible rfl
              try simp only [Act.put, List.getElem_toArray, List.getElem_cons_zero, List.getElem_cons_succ, List.setIfInBounds_toArray, List.set_cons_zero, List.set_cons_succ]
              refine wpAnyH_take (i := 22) (v := ?_) rfl (by kernel_rfl) (by kernel_rfl) (by kernel_rfl) (fun _ _ _ h => h) (Or.inl ⟨by rfl, ?_⟩) (by assumption) ?_
              rotate_left
              · intro w _; go_simp; try with_reducible rfl
              try simp only [Act.put, List.getElem_toArray, List.getElem_cons_zero, List.getElem_cons_succ, List.setIfInBounds_toArray, List.set_cons_zero, List.set_cons_succ]
              refine wpAnyH_take (i := 23) (v := ?_) rfl (by kernel_rfl) (by kernel_rfl) (by kernel_rfl) (fun _ _ _ h => h) (Or.inl ⟨by rfl, ?_⟩) (by assumption) ?_
              rotate_left
              · intro w _; go_simp; try with_reducible rfl
              try simp only [Act.put, List.getElem_toArray, List.getElem_cons_zero, List.getElem_cons_succ, List.setIfInBounds_toArray, List.set_cons_zero, List.set_cons_succ]
              refine wpAnyH_take (i := 24) (v := ?_) rfl (by kernel_rfl) (by kernel_rfl) (by kernel_rfl) (fun _ _ _ h => h) (Or.inl ⟨by rfl, ?_⟩) (by assumption) ?_
              rotate_left
              · intro w _; go_simp; try with_reducible rfl
              try simp only [Act.put, List.getElem_toArray, List.getElem_cons_zero, List.getElem_cons_succ, List.setIfInBounds_toArray, List.set_cons_zero, List.set_cons_succ]
              refine wpAnyH_take (i := 25) (v := ?_) rfl (by kernel_rfl) (by kernel_rfl) (by kernel_rfl) (fun _ _ _ h => h) (Or.inl ⟨by rfl, ?_⟩) (by assumption) ?_
              rotate_left
              · intro w _; go_simp; try with_reducible rfl
              try simp only [Act.put, List.getElem_toArray, List.getElem_cons_zero, List.getElem_cons_succ, List.setIfInBounds_toArray, List.set_cons_zero, List.set_cons_succ]
              refine wpAnyH_take (i := 26) (v := ?_) rfl (by kernel_rfl) (by kernel_rfl) (by kernel_rfl) (fun _ _ _ h => h) (Or.inl ⟨by rfl, ?_⟩) (by assumption) ?_
              rotate_left
              · intro w _; go_simp; try with_reducible rfl
              try simp only [Act.put, List.getElem_toArray, List.getElem_cons_zero, List.getElem_cons_succ, List.setIfInBounds_toArray, List.set_cons_zero, List.set_cons_succ]
              refine wpAnyH_take (i := 27) (v := ?_) rfl (by kernel_rfl) (by kernel_rfl) (by kernel_rfl) (fun _ _ _ h => h) (Or.inl ⟨by rfl, ?_⟩) (by assumption) ?_
              rotate_left
              · intro w _; go_simp; try with_reducible rfl
              try simp only [Act.put, List.getElem_toArray, List.getElem_cons_zero, List.getElem_cons_succ, List.setIfInBounds_toArray, List.set_cons_zero, List.set_cons_succ]
              refine wpAnyH_take (i := 28) (v := ?_) rfl (by kernel_rfl) (by kernel_rfl) (by kernel_rfl) (fun _ _ _ h => h) (Or.inl ⟨by rfl, ?_⟩) (by assumption) ?_
              rotate_left
              · intro w _; go_simp; try with_reducible rfl
              try simp only [Act.put, List.getElem_toArray, List.getElem_cons_zero, List.getElem_cons_succ, List.setIfInBounds_toArray, List.set_cons_zero, List.set_cons_succ]
              refine wpAnyH_take (i := 29) (v := ?_) rfl (by kernel_rfl) (by kernel_rfl) (by kernel_rfl) (fun _ _ _ h => h) (Or.inl ⟨by rfl, ?_⟩) (by assumption) ?_
              rotate_left
              · intro w _; go_simp; try with_reducible rfl
              try simp only [Act.put, List.getElem_toArray, List.getElem_cons_zero, List.getElem_cons_succ, List.setIfInBounds_toArray, List.set_cons_zero, List.set_cons_succ]
              refine wpAnyH_take (i := 32) (v := ?_) rfl (by kernel_rfl) (by kernel_rfl) (by kernel_rfl) (fun _ _ _ h => h) (Or.inl ⟨by rfl, ?_⟩) (by assumption) ?_
              rotate_left
              · intro w _; go_simp; try with_reducible rfl
              try simp only [Act.put, List.getElem_toArray, List.getElem_cons_zero, List.getElem_cons_succ, List.setIfInBounds_toArray, List.set_cons_zero, List.set_cons_succ]
              refine wpAnyH_take (i := 30) (v := ?_) rfl (by kernel_rfl) (by kernel_rfl) (by kernel_rfl) (fun _ _ _ h => h) (Or.inl ⟨by rfl, ?_⟩) (by assumption) ?_
              rotate_left
              · intro w hSw; (try dsimp only at hSw); go_simp; try with_reducible rfl
              try simp only [Act.put, List.getElem_toArray, List.getElem_cons_zero, List.getElem_cons_succ, List.setIfInBounds_toArray, List.set_cons_zero, List.set_cons_succ]
              refine wpAnyH_ready (rs := [31]) (by kernel_rfl) (by simp) ?_
              refine AllReadyH.cons rfl (fun K hK => ?_) AllReadyH.nil
              go_simp
              refine (spec_l19At _ n c es e.id _ (HA.out.below (B := w.heap.size) (bthen hB hSx.2.2.2.2.2.2.2.2.2.2.2.2 (by omega)) (Nat.le_refl _)) hs).mono ?_
              rintro e y3 ⟨rfl, hy3⟩
              refine hK.out _ _ (⟨(hy3.cell (p := ⟨b1, o1 + i * 6, none⟩) (Nat.lt_of_lt_of_le lt_b1 (hSx.2.2.2.2.2.2.2.2.2.2.2.2).size)).trans hSx.1, (hy3.cell (p := ⟨b1, o1 + i * 6 + 1, none⟩) (Nat.lt_of_lt_of_le lt_b1 (hSx.2.2.2.2.2.2.2.2.2.2.2.2).size)).trans hSx.2.1, (hy3.cell (p := ⟨b1, o1 + i * 6 + 2, none⟩) (Nat.lt_of_lt_of_le lt_b1 (hSx.2.2.2.2.2.2.2.2.2.2.2.2).size)).trans hSx.2.2.1, (hy3.cell (p := ⟨b1, o1 + i * 6 + 3, none⟩) (Nat.lt_of_lt_of_le lt_b1 (hSx.2.2.2.2.2.2.2.2.2.2.2.2).size)).trans hSx.2.2.2.1, (hy3.cell (p := ⟨b1, o1 + i * 6 + 4, none⟩) (Nat.lt_of_lt_of_le lt_b1 (hSx.2.2.2.2.2.2.2.2.2.2.2.2).size)).trans hSx.2.2.2.2.1, (hy3.cell (p := ⟨b1, o1 + i * 6 + 5, none⟩) (Nat.lt_of_lt_of_le lt_b1 (hSx.2.2.2.2.2.2.2.2.2.2.2.2).size)).trans hSx.2.2.2.2.2.1, (hy3.cell (p := ⟨b1, o1 + i' * 6, none⟩) (Nat.lt_of_lt_of_le lt_b1 (hSx.2.2.2.2.2.2.2.2.2.2.2.2).size)).trans hSx.2.2.2.2.2.2.1, (hy3.cell (p := ⟨b1, o1 + i' * 6 + 1, none⟩) (Nat.lt_of_lt_of_le lt_b1 (hSx.2.2.2.2.2.2.2.2.2.2.2.2).size)).trans hSx.2.2.2.2.2.2.2.1, (hy3.cell (p := ⟨b1, o1 + i' * 6 + 2, none⟩) (Nat.lt_of_lt_of_le lt_b1 (hSx.2.2.2.2.2.2.2.2.2.2.2.2).size)).trans hSx.2.2.2.2.2.2.2.2.1, (hy3.cell (p := ⟨b1, o1 + i' * 6 + 3, none⟩) (Nat.lt_of_lt_of_le lt_b1 (hSx.2.2.2.2.2.2.2.2.2.2.2.2).size)).trans hSx.2.2.2.2.2.2.2.2.2.1, (hy3.cell (p := ⟨b1, o1 + i' * 6 + 4, none⟩) (Nat.lt_of_lt_of_le lt_b1 (hSx.2.2.2.2.2.2.2.2.2.2.2.2).size)).trans hSx.2.2.2.2.2.2.2.2.2.2.1, (hy3.cell (p := ⟨b1, o1 + i' * 6 + 5, none⟩) (Nat.lt_of_lt_of_le lt_b1 (hSx.2.2.2.2.2.2.2.2.2.2.2.2).size)).trans hSx.2.2.2.2.2.2.2.2.2.2.2.1, bthen hSx.2.2.2.2.2.2.2.2.2.2.2.2 hy3 (hSx.2.2.2.2.2.2.2.2.2.2.2.2).size⟩) (fun hSy => ?_)
              clear hSx hK K
              have hSx := hSy; clear hSy
              try simp only [Act.put, List.getElem_toArray, List.getElem_cons_zero, List.getElem_cons_succ, List.setIfInBounds_toArray, List.set_cons_zero, List.set_cons_succ]
              refine wpAnyH_take (i := 33) (v := ?_) rfl (by kernel_rfl) (by kernel_rfl) (by kernel_rfl) (fun _ _ _ h => h) (Or.inl ⟨by rfl, ?_⟩) (by assumption) ?_
              rotate_left
              · intro w _; go_simp; try with_reducible rfl
              try simp only [Act.put, List.getElem_toArray, List.getElem_cons_zero, List.getElem_cons_succ, List.setIfInBounds_toArray, List.set_cons_zero, List.set_cons_succ]
              refine wpAnyH_take (i := 34) (v := ?_) rfl (by kernel_rfl) (by kernel_rfl) (by kernel_rfl) (fun _ _ _ h => h) (Or.inl ⟨by rfl, ?_⟩) (by assumption) ?_
              rotate_left
              · intro w _; go_simp; try with_reducible rfl
              try simp only [Act.put, List.getElem_toArray, List.getElem_cons_zero, List.getElem_cons_succ, List.setIfInBounds_toArray, List.set_cons_zero, List.set_cons_succ]
              refine wpAnyH_done (by kernel_rfl) ?_ _
              have hBy := hide (bthen hB (hSx.2.2.2.2.2.2.2.2.2.2.2.2) (by omega))
              clear hSx hy1 hy2 hy3
              go_wp2_with fail
              · go_ret
                exact ⟨_, rfl, hBy.out⟩
              · have hBy' := hBy.out
                go_roundw
                case rel => exact ⟨i + 1, by omega, by go_num, hBy'⟩
                case measure => simp [intOf]; omega
      · go_wp2
        go_ret
        exact ⟨_, rfl, hB⟩
end Go.Proofs.Ytahfbhfmhccgoaa
