/- The gap between two commands of a trace without rows. -/
import Derived.Test.YtahfbhfmhccgoaaTrc3
import Derived.Deep.RegionHeld3
set_option linter.unusedSimpArgs false
set_option linter.unusedVariables false
namespace Go.Proofs.Ytahfbhfmhccgoaa
open Go.RowKit Go.ChangeShapes Go.WideShapes Go.ChangeAt Go.Joins Go.Deep
open Go.ChangeMaps (open_string shut_string)
/-- The gap that the reference wants between kinds a and b. -/
def GapIs (t : Tm) (a b v : Int) : Prop := (a = 6 ∧ b = 7 ∧ v = t.cke) ∨ (a = 8 ∧ b = 9 ∧ v = t.cke) ∨ (a = 6 ∧ b = 5 ∧ v = 0) ∨ (a = 8 ∧ b = 5 ∧ v = 0) ∨ (a = 7 ∧ b = 5 ∧ v = t.xp) ∨ (a = 9 ∧ b = 5 ∧ v = t.xs)
set_option maxRecDepth 100000 in
set_option maxHeartbeats 4000000 in
theorem spec_RankGap (t : Tm) (a b v : Int) (w : World) (hok : tmOk t = true) (h : GapIs t a b v) :
    Calls Try.prog 154 #[.agg (tmC t).toArray, .int .i64 a, .int .i64 b, .bool false] w fun e w' => e = .returned (.int .i64 v) ∧ Below w.heap.size w w' := by
  obtain ⟨tc0, tc1, tc2, tc3, tc4, tc5, tc6, tc7, tc8, tc9, tc10, tc11, tc12, tc13, tc14, tc15, tc16⟩ := tm_at t
  have hb0 : (w.alloc (.cells (tmC t).toArray 73)).heap[w.heap.size]? = some (.cells (tmC t).toArray 73 (0, 0)) := alloc_at _ _ _ rfl
  have HB := hide hb0
  clear hb0
  rcases h with ⟨rfl, rfl, rfl⟩ | ⟨rfl, rfl, rfl⟩ | ⟨rfl, rfl, rfl⟩ | ⟨rfl, rfl, rfl⟩ | ⟨rfl, rfl, rfl⟩ | ⟨rfl, rfl, rfl⟩
  all_goals
    go_enter Try.func154, Try.ntmps154
    go_wp2_with (refine wpList_load_row rfl 73 _ rfl w.heap.size rfl 73 (tmC t).toArray (0, 0) _ HB.out Try.underlying73 rfl (tmC_info t) ?_)
    refine (spec_TimingOk_is t true hok _).mono ?_
    rintro e w1 ⟨rfl, h1⟩
    have hB1 : Below w.heap.size w w1 := bthen (by go_grown) h1 (by simp)
    have hc := fun (o : Nat) => (bcell h1).1 w.heap.size o (by simp)
    have c14 : w1.cell? ⟨w.heap.size, 14, none⟩ = some (.int .i64 t.cke) := (hc 14).trans ((cell_blk HB.out 14).trans (by simp [tc14]))
    have c15 : w1.cell? ⟨w.heap.size, 15, none⟩ = some (.int .i64 t.xp) := (hc 15).trans ((cell_blk HB.out 15).trans (by simp [tc15]))
    have c16 : w1.cell? ⟨w.heap.size, 16, none⟩ = some (.int .i64 t.xs) := (hc 16).trans ((cell_blk HB.out 16).trans (by simp [tc16]))
    have H1 := hide hB1
    clear hc hB1 h1 tc0 tc1 tc2 tc3 tc4 tc5 tc6 tc7 tc8 tc9 tc10 tc11 tc12 tc13 tc14 tc15 tc16
    go_wp2_with (first | (go_at_call 78; refine (spec_l01In _ _ _ _).mono ?_; rintro e w1 ⟨rfl, rfl⟩))
    go_ret
    exact ⟨rfl, H1.out⟩
theorem bthenS2 {W v y : World} (h : Below W.heap.size W v) (k : Below v.heap.size v y) : Below W.heap.size W y := bthen h k h.size
theorem keep_gap {W v : World} {t : Tm} {p q r : Nat} {a b : Int} (kt : W.heap[p]? = some (.cells (tmC t).toArray 73 (0, 0))) (ka : W.cell? ⟨q, 0, none⟩ = some (.int .i64 a)) (kb : W.cell? ⟨r, 0, none⟩ = some (.int .i64 b)) (hq : q < W.heap.size) (hr : r < W.heap.size) (hb : Below W.heap.size W v) :
    v.heap[p]? = some (.cells (tmC t).toArray 73 (0, 0)) ∧ v.cell? ⟨q, 0, none⟩ = some (.int .i64 a) ∧ v.cell? ⟨r, 0, none⟩ = some (.int .i64 b) ∧ Below W.heap.size W v :=
  ⟨(hb.block p (lt_blk kt)).trans kt, ((bcell hb).1 q 0 hq).trans ka, ((bcell hb).1 r 0 hr).trans kb, hb⟩
set_option maxRecDepth 100000 in
set_option maxHeartbeats 4000000 in
theorem spec_l07Gap (g : Ge) (t : Tm) (a b v x1 x2 x3 z1 z2 z3 : Int) (w : World) (hok : tmOk t = true) (h : GapIs t a b v) :
    Calls Try.prog 141 #[.agg #[.int .i64 g.gr, .int .i64 g.bk, .int .i64 g.rw, .int .i64 g.cl], .agg (tmC t).toArray, .agg #[.int .i64 a, .int .i64 x1, .int .i64 x2, .int .i64 x3], .agg #[.int .i64 b, .int .i64 z1, .int .i64 z2, .int .i64 z3]] w fun e w' => e = .returned (.int .i64 (max v 1)) ∧ Below w.heap.size w w' := by
  have ha5 : ¬ a ≤ 5 := by unfold GapIs at h; omega
  have HG := hide h
  clear h
  go_enter Try.func141, Try.ntmps141
  go_upto_region 2 with fail
  have kt : ((((w.alloc (.cells #[.int .i64 g.gr, .int .i64 g.bk, .int .i64 g.rw, .int .i64 g.cl] 43)).alloc (.cells (tmC t).toArray 73)).alloc (.cells #[.int .i64 a, .int .i64 x1, .int .i64 x2, .int .i64 x3] 91)).alloc (.cells #[.int .i64 b, .int .i64 z1, .int .i64 z2, .int .i64 z3] 91)).heap[w.heap.size + 1]? = some (.cells (tmC t).toArray 73 (0, 0)) := by
    rw [alloc_lt _ _ _ (by simp only [World.size_alloc]; omega), alloc_lt _ _ _ (by simp only [World.size_alloc]; omega), alloc_at _ _ _ (by simp only [World.size_alloc])]
  have ka : ((((w.alloc (.cells #[.int .i64 g.gr, .int .i64 g.bk, .int .i64 g.rw, .int .i64 g.cl] 43)).alloc (.cells (tmC t).toArray 73)).alloc (.cells #[.int .i64 a, .int .i64 x1, .int .i64 x2, .int .i64 x3] 91)).alloc (.cells #[.int .i64 b, .int .i64 z1, .int .i64 z2, .int .i64 z3] 91)).cell? ⟨w.heap.size + 1 + 1, 0, none⟩ = some (.int .i64 a) := by simp [go_sem]
  have kb : ((((w.alloc (.cells #[.int .i64 g.gr, .int .i64 g.bk, .int .i64 g.rw, .int .i64 g.cl] 43)).alloc (.cells (tmC t).toArray 73)).alloc (.cells #[.int .i64 a, .int .i64 x1, .int .i64 x2, .int .i64 x3] 91)).alloc (.cells #[.int .i64 b, .int .i64 z1, .int .i64 z2, .int .i64 z3] 91)).cell? ⟨w.heap.size + 1 + 1 + 1, 0, none⟩ = some (.int .i64 b) := by simp [go_sem]
  have hB : Below w.heap.size w ((((w.alloc (.cells #[.int .i64 g.gr, .int .i64 g.bk, .int .i64 g.rw, .int .i64 g.cl] 43)).alloc (.cells (tmC t).toArray 73)).alloc (.cells #[.int .i64 a, .int .i64 x1, .int .i64 x2, .int .i64 x3] 91)).alloc (.cells #[.int .i64 b, .int .i64 z1, .int .i64 z2, .int .i64 z3] 91)) := by go_grown
  have sz : w.heap.size + 4 ≤ ((((w.alloc (.cells #[.int .i64 g.gr, .int .i64 g.bk, .int .i64 g.rw, .int .i64 g.cl] 43)).alloc (.cells (tmC t).toArray 73)).alloc (.cells #[.int .i64 a, .int .i64 x1, .int .i64 x2, .int .i64 x3] 91)).alloc (.cells #[.int .i64 b, .int .i64 z1, .int .i64 z2, .int .i64 z3] 91)).heap.size := by simp only [World.size_alloc]; omega
  generalize ((((w.alloc (.cells #[.int .i64 g.gr, .int .i64 g.bk, .int .i64 g.rw, .int .i64 g.cl] 43)).alloc (.cells (tmC t).toArray 73)).alloc (.cells #[.int .i64 a, .int .i64 x1, .int .i64 x2, .int .i64 x3] 91)).alloc (.cells #[.int .i64 b, .int .i64 z1, .int .i64 z2, .int .i64 z3] 91)) = W at *
  have HB := hide hB
  clear hB
  refine wp_region_held_drew (S := fun v => v.heap[w.heap.size + 1]? = some (.cells (tmC t).toArray 73 (0, 0)) ∧ v.cell? ⟨w.heap.size + 1 + 1, 0, none⟩ = some (.int .i64 a) ∧ v.cell? ⟨w.heap.size + 1 + 1 + 1, 0, none⟩ = some (.int .i64 b) ∧ Below W.heap.size W v) (by kernel_rfl) (keep_gap kt ka kb (by omega) (by omega) (Below.refl _ _).drew) (fun hSx => ?_)
  refine wpAnyH_take (i := 0) rfl (by kernel_rfl) (by kernel_rfl) (by kernel_rfl) (fun _ _ _ h => h) (yieldsIf_load_row (by rfl) 73 _ rfl (w.heap.size + 1) rfl 73 (tmA t) (0, 0) _ (fun _ h => h.1) Try.underlying73 (tmC_info t)) (by assumption) ?_
  try simp only [Act.put, List.getElem_toArray, List.getElem_cons_zero, List.getElem_cons_succ, List.setIfInBounds_toArray, List.set_cons_zero, List.set_cons_succ]
  refine wpAnyH_take (i := 1) (v := ?_) rfl (by kernel_rfl) (by kernel_rfl) (by kernel_rfl) (fun _ _ _ h => h) (Or.inl ⟨by rfl, ?_⟩) (by assumption) ?_
  rotate_left
  · intro w hSw; (try dsimp only at hSw); go_simp; try with_reducible rfl
  try simp only [Act.put, List.getElem_toArray, List.getElem_cons_zero, List.getElem_cons_succ, List.setIfInBounds_toArray, List.set_cons_zero, List.set_cons_succ]
  refine wpAnyH_take (i := 2) (v := ?_) rfl (by kernel_rfl) (by kernel_rfl) (by kernel_rfl) (fun _ _ _ h => h) (Or.inl ⟨by rfl, ?_⟩) (by assumption) ?_
  rotate_left
  · intro w hSw; (try dsimp only at hSw); go_simp; try with_reducible rfl
  try simp only [Act.put, List.getElem_toArray, List.getElem_cons_zero, List.getElem_cons_succ, List.setIfInBounds_toArray, List.set_cons_zero, List.set_cons_succ]
  refine wpAnyH_take (i := 3) (v := ?_) rfl (by kernel_rfl) (by kernel_rfl) (by kernel_rfl) (fun _ _ _ h => h) (Or.inl ⟨by rfl, ?_⟩) (by assumption) ?_
  rotate_left
  · intro w hSw; (try dsimp only at hSw); go_simp; try with_reducible rfl
  try simp only [Act.put, List.getElem_toArray, List.getElem_cons_zero, List.getElem_cons_succ, List.setIfInBounds_toArray, List.set_cons_zero, List.set_cons_succ]
  refine wpAnyH_take (i := 4) (v := ?_) rfl (by kernel_rfl) (by kernel_rfl) (by kernel_rfl) (fun _ _ _ h => h) (Or.inl ⟨by rfl, ?_⟩) (by assumption) ?_
  rotate_left
  · intro w hSw; (try dsimp only at hSw); go_simp; try with_reducible rfl
  try simp only [Act.put, List.getElem_toArray, List.getElem_cons_zero, List.getElem_cons_succ, List.setIfInBounds_toArray, List.set_cons_zero, List.set_cons_succ]
  refine wpAnyH_take (i := 5) (v := ?_) rfl (by kernel_rfl) (by kernel_rfl) (by kernel_rfl) (fun _ _ _ h => h) (Or.inl ⟨by rfl, ?_⟩) (by assumption) ?_
  rotate_left
  · intro w hSw; (try dsimp only at hSw); go_simp; try with_reducible rfl
  try simp only [Act.put, List.getElem_toArray, List.getElem_cons_zero, List.getElem_cons_succ, List.setIfInBounds_toArray, List.set_cons_zero, List.set_cons_succ]
  refine wpAnyH_take (i := 6) (v := ?_) rfl (by kernel_rfl) (by kernel_rfl) (by kernel_rfl) (fun _ _ _ h => h) (Or.inl ⟨by rfl, ?_⟩) (by assumption) ?_
  rotate_left
  · intro w hSw; (try dsimp only at hSw); go_simp; try with_reducible rfl
  try simp only [Act.put, List.getElem_toArray, List.getElem_cons_zero, List.getElem_cons_succ, List.setIfInBounds_toArray, List.set_cons_zero, List.set_cons_succ]
  refine wpAnyH_take (i := 7) (v := undef) rfl (by kernel_rfl) (by kernel_rfl) (by kernel_rfl) (fun _ _ _ h => h) (Or.inr ⟨by rfl, rfl⟩) (by assumption) ?_
  try simp only [Act.put, List.getElem_toArray, List.getElem_cons_zero, List.getElem_cons_succ, List.setIfInBounds_toArray, List.set_cons_zero, List.set_cons_succ]
  refine wpAnyH_take (i := 8) (v := undef) rfl (by kernel_rfl) (by kernel_rfl) (by kernel_rfl) (fun _ _ _ h => h) (Or.inr ⟨by rfl, rfl⟩) (by assumption) ?_
  try simp only [Act.put, List.getElem_toArray, List.getElem_cons_zero, List.getElem_cons_succ, List.setIfInBounds_toArray, List.set_cons_zero, List.set_cons_succ]
  refine wpAnyH_take (i := 9) (v := undef) rfl (by kernel_rfl) (by kernel_rfl) (by kernel_rfl) (fun _ _ _ h => h) (Or.inr ⟨by rfl, rfl⟩) (by assumption) ?_
  try simp only [Act.put, List.getElem_toArray, List.getElem_cons_zero, List.getElem_cons_succ, List.setIfInBounds_toArray, List.set_cons_zero, List.set_cons_succ]
  refine wpAnyH_take (i := 10) (v := undef) rfl (by kernel_rfl) (by kernel_rfl) (by kernel_rfl) (fun _ _ _ h => h) (Or.inr ⟨by rfl, rfl⟩) (by assumption) ?_
  try simp only [Act.put, List.getElem_toArray, List.getElem_cons_zero, List.getElem_cons_succ, List.setIfInBounds_toArray, List.set_cons_zero, List.set_cons_succ]
  refine wpAnyH_take (i := 11) (v := undef) rfl (by kernel_rfl) (by kernel_rfl) (by kernel_rfl) (fun _ _ _ h => h) (Or.inr ⟨by rfl, rfl⟩) (by assumption) ?_
  try simp only [Act.put, List.getElem_toArray, List.getElem_cons_zero, List.getElem_cons_succ, List.setIfInBounds_toArray, List.set_cons_zero, List.set_cons_succ]
  refine wpAnyH_take (i := 12) (v := undef) rfl (by kernel_rfl) (by kernel_rfl) (by kernel_rfl) (fun _ _ _ h => h) (Or.inr ⟨by rfl, rfl⟩) (by assumption) ?_
  try simp only [Act.put, List.getElem_toArray, List.getElem_cons_zero, List.getElem_cons_succ, List.setIfInBounds_toArray, List.set_cons_zero, List.set_cons_succ]
  refine wpAnyH_take (i := 13) (v := undef) rfl (by kernel_rfl) (by kernel_rfl) (by kernel_rfl) (fun _ _ _ h => h) (Or.inr ⟨by rfl, rfl⟩) (by assumption) ?_
  try simp only [Act.put, List.getElem_toArray, List.getElem_cons_zero, List.getElem_cons_succ, List.setIfInBounds_toArray, List.set_cons_zero, List.set_cons_succ]
  refine wpAnyH_take (i := 14) (v := undef) rfl (by kernel_rfl) (by kernel_rfl) (by kernel_rfl) (fun _ _ _ h => h) (Or.inr ⟨by rfl, rfl⟩) (by assumption) ?_
  try simp only [Act.put, List.getElem_toArray, List.getElem_cons_zero, List.getElem_cons_succ, List.setIfInBounds_toArray, List.set_cons_zero, List.set_cons_succ]
  refine wpAnyH_take (i := 15) (v := undef) rfl (by kernel_rfl) (by kernel_rfl) (by kernel_rfl) (fun _ _ _ h => h) (Or.inr ⟨by rfl, rfl⟩) (by assumption) ?_
  try simp only [Act.put, List.getElem_toArray, List.getElem_cons_zero, List.getElem_cons_succ, List.setIfInBounds_toArray, List.set_cons_zero, List.set_cons_succ]
  refine wpAnyH_take (i := 16) (v := undef) rfl (by kernel_rfl) (by kernel_rfl) (by kernel_rfl) (fun _ _ _ h => h) (Or.inr ⟨by rfl, rfl⟩) (by assumption) ?_
  try simp only [Act.put, List.getElem_toArray, List.getElem_cons_zero, List.getElem_cons_succ, List.setIfInBounds_toArray, List.set_cons_zero, List.set_cons_succ]
  refine wpAnyH_take (i := 17) (v := undef) rfl (by kernel_rfl) (by kernel_rfl) (by kernel_rfl) (fun _ _ _ h => h) (Or.inr ⟨by rfl, rfl⟩) (by assumption) ?_
  try simp only [Act.put, List.getElem_toArray, List.getElem_cons_zero, List.getElem_cons_succ, List.setIfInBounds_toArray, List.set_cons_zero, List.set_cons_succ]
  refine wpAnyH_take (i := 18) (v := ?_) rfl (by kernel_rfl) (by kernel_rfl) (by kernel_rfl) (fun _ _ _ h => h) (Or.inl ⟨by rfl, ?_⟩) (by assumption) ?_
  rotate_left
  · intro w hSw; (try dsimp only at hSw); go_simp; try with_reducible rfl
  try simp only [Act.put, List.getElem_toArray, List.getElem_cons_zero, List.getElem_cons_succ, List.setIfInBounds_toArray, List.set_cons_zero, List.set_cons_succ]
  refine wpAnyH_ready (rs := [19]) (by kernel_rfl) (by simp) ?_
  refine AllReadyH.cons rfl (fun K hK => ?_) AllReadyH.nil
  go_simp
  refine (spec_RankGap t a b v _ hok HG.out).mono ?_
  rintro e y1 ⟨rfl, hy1⟩
  refine hK.out _ _ (keep_gap kt ka kb (by omega) (by omega) (bthenS2 hSx.2.2.2 hy1)) (fun hSy => ?_)
  clear hSx hK K
  have hSx := hSy; clear hSy
  try simp only [Act.put, List.getElem_toArray, List.getElem_cons_zero, List.getElem_cons_succ, List.setIfInBounds_toArray, List.set_cons_zero, List.set_cons_succ]
  refine wpAnyH_take (i := 20) (v := ?_) rfl (by kernel_rfl) (by kernel_rfl) (by kernel_rfl) (fun _ _ _ h => h) (Or.inl ⟨by rfl, ?_⟩) (by assumption) ?_
  rotate_left
  · intro w hSw; (try dsimp only at hSw); go_simp; try with_reducible rfl
  try simp only [Act.put, List.getElem_toArray, List.getElem_cons_zero, List.getElem_cons_succ, List.setIfInBounds_toArray, List.set_cons_zero, List.set_cons_succ]
  refine wpAnyH_done (by kernel_rfl) ?_ _
  go_wp2_with fail
  all_goals
    go_ret
    exact ⟨ret_int (by first | rfl | omega), bthen HB.out hSx.2.2.2 (by omega)⟩
end Go.Proofs.Ytahfbhfmhccgoaa
