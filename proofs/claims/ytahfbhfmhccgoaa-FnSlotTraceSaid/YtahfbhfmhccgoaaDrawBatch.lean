/- A drawn batch: a valid geometry, a valid mapping, valid slots, and requests with different ids. -/
import Derived.Test.YtahfbhfmhccgoaaDrawSlots
set_option linter.unusedSimpArgs false
set_option linter.unusedVariables false
namespace Go.Proofs.Ytahfbhfmhccgoaa
open Go.RowKit Go.ChangeShapes Go.WideShapes Go.ChangeAt Go.Joins Go.Deep
open Go.ChangeMaps (open_string shut_string)
theorem spec_LineCount_2 (g1 g2 g3 g4 : Int) (v : Int) (h : lineCnt ⟨g1, g2, g3, g4⟩ = v) (w : World) :
    Calls Try.prog 83 #[.agg #[.int .i64 g1, .int .i64 g2, .int .i64 g3, .int .i64 g4]] w fun e w' => e = .returned (.int .i64 v) ∧ Below w.heap.size w w' ∧ Below w.heap.size w w' := by
  subst h; exact (spec_LineCount ⟨g1, g2, g3, g4⟩ w).mono fun e w' h => ⟨h.1, h.2, h.2⟩
def DrewBatch (w : World) (e : Ending) (w' : World) : Prop :=
  ∃ (g : Ge) (mo : Int) (mh : Bool) (a1 : Option Addr) (m1 c1 : Nat) (zs : List Int) (l : Int) (a2 : Option Addr) (m2 c2 : Nat) (es : List Rq), geoOk g = true ∧ g.rw ≤ 8 ∧ g.cl ≤ 4 ∧ 0 ≤ mo ∧ mo ≤ 2 ∧ 1 ≤ m1 ∧ m1 ≤ 6 ∧ 20 ≤ l ∧ l ≤ 29 ∧ m2 ≤ 13 ∧
    e = .returned (.tuple #[.agg #[.int .i64 g.gr, .int .i64 g.bk, .int .i64 g.rw, .int .i64 g.cl], .agg #[.int .i64 mo, .bool mh], .agg #[.slice a1 m1 c1, .int .i64 l], .slice a2 m2 c2]) ∧ IsInts .i64 w' a1 m1 c1 zs ∧ (∀ z ∈ zs, 0 ≤ z ∧ z ≤ 2) ∧ IsStructs rqF 6 w' a2 m2 c2 es ∧ BatchOk (lineCnt g) es ∧ Below w.heap.size w w'
theorem small2_wf {z : Int} (h : 0 ≤ z ∧ z ≤ 2) : (Lit.int .i64 z).wf = true := by
  show (decide (IntKind.min .i64 ≤ z) && decide (z ≤ IntKind.max .i64)) = true
  rw [show IntKind.min .i64 = -9223372036854775808 from rfl, show IntKind.max .i64 = 9223372036854775807 from rfl]
  simp; omega
set_option maxRecDepth 100000 in
set_option maxHeartbeats 4000000 in
theorem spec_DrawBatch (a : Option Addr) (n c : Nat) (bs : List Int) (w : World) (ha : IsInts .u8 w a n c bs) (hs : n ≤ 1048576) :
    Calls Try.prog 26 #[.slice a n c] w (DrewBatch w) := by
  have HA := hide ha
  clear ha
  go_enter Try.func26, Try.ntmps26
  go_wp2_with fail
  refine (new_cur a n c bs _ (w.heap.size + 3) (by simp only [World.size_alloc]; omega) (HA.out.below (B := w.heap.size) (by go_grown) (Nat.le_refl _)) hs).mono ?_
  rintro e w1 ⟨b, rfl, hC1, hwb, hlb, h1⟩
  replace h1 := only_of_below h1 (some b)
  have s1 := h1.size
  try simp only [World.size_alloc, World.size_setCell, World.size_drew, World.heap_drewN] at s1
  have B1_1 := h1
  have z1_0 : w.heap.size < w1.heap.size := by omega
  have q1_0 := fun o => only_cell B1_1 (b := w.heap.size) (o := o) (by go_size) (by omega)
  have f1_0 := fun o => only_free B1_1 (b := w.heap.size) (o := o) (by go_size) (by omega)
  have z1_1 : w.heap.size + 1 < w1.heap.size := by omega
  have q1_1 := fun o => only_cell B1_1 (b := w.heap.size + 1) (o := o) (by go_size) (by omega)
  have f1_1 := fun o => only_free B1_1 (b := w.heap.size + 1) (o := o) (by go_size) (by omega)
  have z1_2 : w.heap.size + 1 + 1 < w1.heap.size := by omega
  have q1_2 := fun o => only_cell B1_1 (b := w.heap.size + 1 + 1) (o := o) (by go_size) (by omega)
  have f1_2 := fun o => only_free B1_1 (b := w.heap.size + 1 + 1) (o := o) (by go_size) (by omega)
  have H1 : World.grownBy w w1 (some b) := only_next (by repeat (first | (with_reducible assumption) | (with_reducible exact only_refl _ _) | (with_reducible refine only_drawn ?_ _) | (with_reducible refine only_drew ?_) | (with_reducible refine only_alloc ?_ _) | (with_reducible refine only_setCell ?_ ?_ _) | omega)) h1
  have C1 := only_cells H1; have F1 := only_frees H1
  have HA0 := hide (cur_ints HA.out hC1 (by go_grown))
  go_wp2_with fail
  refine (spec_l03Geo _ a n c b bs _ HA0.out hs (by repeat (first | (with_reducible assumption) | (with_reducible refine Cur.alloc ?_ _) | (with_reducible refine Cur.drawn ?_ _) | (with_reducible refine Cur.drew ?_) | (with_reducible refine Cur.set ?_ ?_ _) | omega))).mono ?_
  rintro e w2 ⟨g1, g2, g3, g4, x1, x2, x3, x4, x5, x6, x7, x8, rfl, hC2, h2⟩
  have s2 := h2.size
  try simp only [World.size_alloc, World.size_setCell, World.size_drew, World.heap_drewN] at s2
  have B2_1 := only_next (by first | (with_reducible exact B1_1) | (repeat (first | (with_reducible assumption) | (with_reducible exact B1_1) | (with_reducible exact only_refl _ _) | (with_reducible refine only_drawn ?_ _) | (with_reducible refine only_drew ?_) | (with_reducible refine only_alloc ?_ _) | (with_reducible refine only_setCell ?_ ?_ _) | omega))) h2
  have z2_0 : w.heap.size < w2.heap.size := by omega
  have q2_0 := fun o => only_cell B2_1 (b := w.heap.size) (o := o) (by go_size) (by omega)
  have f2_0 := fun o => only_free B2_1 (b := w.heap.size) (o := o) (by go_size) (by omega)
  have z2_1 : w.heap.size + 1 < w2.heap.size := by omega
  have q2_1 := fun o => only_cell B2_1 (b := w.heap.size + 1) (o := o) (by go_size) (by omega)
  have f2_1 := fun o => only_free B2_1 (b := w.heap.size + 1) (o := o) (by go_size) (by omega)
  have z2_2 : w.heap.size + 1 + 1 < w2.heap.size := by omega
  have q2_2 := fun o => only_cell B2_1 (b := w.heap.size + 1 + 1) (o := o) (by go_size) (by omega)
  have f2_2 := fun o => only_free B2_1 (b := w.heap.size + 1 + 1) (o := o) (by go_size) (by omega)
  have H2 : World.grownBy w w2 (some b) := only_next (by repeat (first | (with_reducible assumption) | (with_reducible exact H1) | (with_reducible exact only_refl _ _) | (with_reducible refine only_drawn ?_ _) | (with_reducible refine only_drew ?_) | (with_reducible refine only_alloc ?_ _) | (with_reducible refine only_setCell ?_ ?_ _) | omega)) h2
  have C2 := only_cells H2; have F2 := only_frees H2
  have HGe := hide (geoOk_mk (g := ⟨g1, g2, g3, g4⟩) (by simp only; omega))
  obtain ⟨N, hN'⟩ : ∃ N, lineCnt ⟨g1, g2, g3, g4⟩ = N := ⟨_, rfl⟩
  have hN := hide hN'
  have hN1 : N ≤ 1000000 := (by rw [← hN']; have := (lineCnt_bd ⟨g1, g2, g3, g4⟩).2; omega)
  clear hN'
  go_wp2_with fail
  refine (spec_l23Slots _ a n c b bs _ HA0.out hs (by repeat (first | (with_reducible assumption) | (with_reducible refine Cur.alloc ?_ _) | (with_reducible refine Cur.drawn ?_ _) | (with_reducible refine Cur.drew ?_) | (with_reducible refine Cur.set ?_ ?_ _) | omega))).mono ?_
  rintro e w3 ⟨a1, m1, c1, zs, l, y1, y2, y3, y4, rfl, o3, hzl, hzb, hC3, h3⟩
  have s3 := h3.size
  try simp only [World.size_alloc, World.size_setCell, World.size_drew, World.heap_drewN] at s3
  have B3_1 := only_next (by first | (with_reducible exact B2_1) | (repeat (first | (with_reducible assumption) | (with_reducible exact B2_1) | (with_reducible exact only_refl _ _) | (with_reducible refine only_drawn ?_ _) | (with_reducible refine only_drew ?_) | (with_reducible refine only_alloc ?_ _) | (with_reducible refine only_setCell ?_ ?_ _) | omega))) h3
  have B3_3 := h3
  have z3_0 : w.heap.size < w3.heap.size := by omega
  have q3_0 := fun o => only_cell B3_1 (b := w.heap.size) (o := o) (by go_size) (by omega)
  have f3_0 := fun o => only_free B3_1 (b := w.heap.size) (o := o) (by go_size) (by omega)
  have z3_1 : w.heap.size + 1 < w3.heap.size := by omega
  have q3_1 := fun o => only_cell B3_1 (b := w.heap.size + 1) (o := o) (by go_size) (by omega)
  have f3_1 := fun o => only_free B3_1 (b := w.heap.size + 1) (o := o) (by go_size) (by omega)
  have z3_2 : w.heap.size + 1 + 1 < w3.heap.size := by omega
  have q3_2 := fun o => only_cell B3_1 (b := w.heap.size + 1 + 1) (o := o) (by go_size) (by omega)
  have f3_2 := fun o => only_free B3_1 (b := w.heap.size + 1 + 1) (o := o) (by go_size) (by omega)
  have z3_3 : w2.heap.size < w3.heap.size := by omega
  have q3_3 := fun o => only_cell B3_3 (b := w2.heap.size) (o := o) (by go_size) (by omega)
  have f3_3 := fun o => only_free B3_3 (b := w2.heap.size) (o := o) (by go_size) (by omega)
  have H3 : World.grownBy w w3 (some b) := only_next (by repeat (first | (with_reducible assumption) | (with_reducible exact H2) | (with_reducible exact only_refl _ _) | (with_reducible refine only_drawn ?_ _) | (with_reducible refine only_drew ?_) | (with_reducible refine only_alloc ?_ _) | (with_reducible refine only_setCell ?_ ?_ _) | omega)) h3
  have C3 := only_cells H3; have F3 := only_frees H3
  have HO := hide (own_base (base' := b + 1) o3 (by simp only [World.size_alloc]; omega)); have HZL := hide hzl; have HZB := hide hzb; clear o3 hzl hzb
  go_wp2_with fail
  refine (spec_l01Below _ a n c b bs _ 10 HA0.out hs (by omega) (by repeat (first | (with_reducible assumption) | (with_reducible refine Cur.alloc ?_ _) | (with_reducible refine Cur.drawn ?_ _) | (with_reducible refine Cur.drew ?_) | (with_reducible refine Cur.set ?_ ?_ _) | omega))).mono ?_
  rintro e w4 ⟨L, L0, L1, rfl, hC4, h4⟩
  have s4 := h4.size
  try simp only [World.size_alloc, World.size_setCell, World.size_drew, World.heap_drewN] at s4
  have B4_1 := only_next (by first | (with_reducible exact B3_1) | (repeat (first | (with_reducible assumption) | (with_reducible exact B3_1) | (with_reducible exact only_refl _ _) | (with_reducible refine only_drawn ?_ _) | (with_reducible refine only_drew ?_) | (with_reducible refine only_alloc ?_ _) | (with_reducible refine only_setCell ?_ ?_ _) | omega))) h4
  have B4_3 := only_next (by first | (with_reducible exact B3_3) | (repeat (first | (with_reducible assumption) | (with_reducible exact B3_3) | (with_reducible exact only_refl _ _) | (with_reducible refine only_drawn ?_ _) | (with_reducible refine only_drew ?_) | (with_reducible refine only_alloc ?_ _) | (with_reducible refine only_setCell ?_ ?_ _) | omega))) h4
  have B4_4 := h4
  have z4_0 : w.heap.size < w4.heap.size := by omega
  have q4_0 := fun o => only_cell B4_1 (b := w.heap.size) (o := o) (by go_size) (by omega)
  have f4_0 := fun o => only_free B4_1 (b := w.heap.size) (o := o) (by go_size) (by omega)
  have z4_1 : w.heap.size + 1 < w4.heap.size := by omega
  have q4_1 := fun o => only_cell B4_1 (b := w.heap.size + 1) (o := o) (by go_size) (by omega)
  have f4_1 := fun o => only_free B4_1 (b := w.heap.size + 1) (o := o) (by go_size) (by omega)
  have z4_2 : w.heap.size + 1 + 1 < w4.heap.size := by omega
  have q4_2 := fun o => only_cell B4_1 (b := w.heap.size + 1 + 1) (o := o) (by go_size) (by omega)
  have f4_2 := fun o => only_free B4_1 (b := w.heap.size + 1 + 1) (o := o) (by go_size) (by omega)
  have z4_3 : w2.heap.size < w4.heap.size := by omega
  have q4_3 := fun o => only_cell B4_3 (b := w2.heap.size) (o := o) (by go_size) (by omega)
  have f4_3 := fun o => only_free B4_3 (b := w2.heap.size) (o := o) (by go_size) (by omega)
  have z4_4 : w3.heap.size < w4.heap.size := by omega
  have q4_4 := fun o => only_cell B4_4 (b := w3.heap.size) (o := o) (by go_size) (by omega)
  have f4_4 := fun o => only_free B4_4 (b := w3.heap.size) (o := o) (by go_size) (by omega)
  have H4 : World.grownBy w w4 (some b) := only_next (by repeat (first | (with_reducible assumption) | (with_reducible exact H3) | (with_reducible exact only_refl _ _) | (with_reducible refine only_drawn ?_ _) | (with_reducible refine only_drew ?_) | (with_reducible refine only_alloc ?_ _) | (with_reducible refine only_setCell ?_ ?_ _) | omega)) h4
  have C4 := only_cells H4; have F4 := only_frees H4
  go_wp2_with fail
  have hb2 : b < w2.heap.size := by omega
  have hb3 : b < w3.heap.size := by omega
  have hGX := hide (only_setCell (g := w3.heap.size) (o := 1) H4 (.inr (by omega)) (.int .i64 (20 + L)))
  have HX0 := hide (show (w4.setCell ⟨w3.heap.size, 1, none⟩ (.int .i64 (20 + L))).heap[w2.heap.size]? = some (.cells #[.int .i64 g1, .int .i64 g2, .int .i64 g3, .int .i64 g4] 43 (0, 0)) by rw [heap_set_other _ _ _ _ _ (by omega), h4.block _ (by go_size) (by simp; omega), alloc_lt _ _ _ (by omega), h3.block _ (by go_size) (by simp; omega), alloc_at _ _ _ rfl])
  have HX1 := hide (show (w4.setCell ⟨w3.heap.size, 1, none⟩ (.int .i64 (20 + L))).heap[w3.heap.size]? = some (.cells #[.slice a1 m1 c1, .int .i64 (20 + L)] 48 (0, 0)) from set_lit ((h4.block _ (by go_size) (by simp; omega)).trans (alloc_at _ _ _ rfl)) rfl)
  have HX2 := hide (show (w4.setCell ⟨w3.heap.size, 1, none⟩ (.int .i64 (20 + L))).heap[w.heap.size]? = some (.cells #[.int .i64 0, .int .i64 0, .int .i64 0, .int .i64 0] 43 (0, 0)) by rw [heap_set_other _ _ _ _ _ (by omega), h4.block _ (by go_size) (by simp; omega), alloc_lt _ _ _ (by omega), h3.block _ (by go_size) (by simp; omega), alloc_lt _ _ _ (by omega), h2.block _ (by go_size) (by simp; omega), h1.block _ (by go_size) (by simp; omega), alloc_lt _ _ _ (by go_size), alloc_lt _ _ _ (by go_size), alloc_at _ _ _ rfl])
  have HX3 := hide (show (w4.setCell ⟨w3.heap.size, 1, none⟩ (.int .i64 (20 + L))).heap[w.heap.size + 1]? = some (.cells #[.int .i64 0, .bool false] 45 (0, 0)) by rw [heap_set_other _ _ _ _ _ (by omega), h4.block _ (by go_size) (by simp; omega), alloc_lt _ _ _ (by omega), h3.block _ (by go_size) (by simp; omega), alloc_lt _ _ _ (by omega), h2.block _ (by go_size) (by simp; omega), h1.block _ (by go_size) (by simp; omega), alloc_lt _ _ _ (by go_size), alloc_at _ _ _ (by go_size)])
  have HX4 := hide (show (w4.setCell ⟨w3.heap.size, 1, none⟩ (.int .i64 (20 + L))).heap[w.heap.size + 1 + 1]? = some (.cells #[.slice none 0 0, .int .i64 0] 48 (0, 0)) by rw [heap_set_other _ _ _ _ _ (by omega), h4.block _ (by go_size) (by simp; omega), alloc_lt _ _ _ (by omega), h3.block _ (by go_size) (by simp; omega), alloc_lt _ _ _ (by omega), h2.block _ (by go_size) (by simp; omega), h1.block _ (by go_size) (by simp; omega), alloc_at _ _ _ (by go_size)])
  have HXC := hide (hC4.set (g := w3.heap.size) (o := 1) (by omega) (.int .i64 (20 + L)))
  have HXO := hide (own_set_off (o := 1) (g := w3.heap.size) (w := w4) (((HO.out.alloc _).kept h4 (own_ne HO.out (by omega)))) (fun p hp => by have := (HO.out.lt p hp).2; omega) (.int .i64 (20 + L)))
  have hXs : w4.heap.size ≤ (w4.setCell ⟨w3.heap.size, 1, none⟩ (.int .i64 (20 + L))).heap.size := by simp
  generalize (w4.setCell ⟨w3.heap.size, 1, none⟩ (.int .i64 (20 + L))) = X at HX0 HX1 HX2 HX3 HX4 HXC HXO hGX hXs ⊢
  try clear q1_0
  try clear f1_0
  try clear q1_1
  try clear f1_1
  try clear q1_2
  try clear f1_2
  try clear q1_3
  try clear f1_3
  try clear q1_4
  try clear f1_4
  try clear C1
  try clear F1
  try clear H1
  try clear h1
  try clear B1_1
  try clear B1_2
  try clear B1_3
  try clear B1_4
  try clear q2_0
  try clear f2_0
  try clear q2_1
  try clear f2_1
  try clear q2_2
  try clear f2_2
  try clear q2_3
  try clear f2_3
  try clear q2_4
  try clear f2_4
  try clear C2
  try clear F2
  try clear H2
  try clear h2
  try clear B2_1
  try clear B2_2
  try clear B2_3
  try clear B2_4
  try clear q3_0
  try clear f3_0
  try clear q3_1
  try clear f3_1
  try clear q3_2
  try clear f3_2
  try clear q3_3
  try clear f3_3
  try clear q3_4
  try clear f3_4
  try clear C3
  try clear F3
  try clear H3
  try clear h3
  try clear B3_1
  try clear B3_2
  try clear B3_3
  try clear B3_4
  try clear q4_0
  try clear f4_0
  try clear q4_1
  try clear f4_1
  try clear q4_2
  try clear f4_2
  try clear q4_3
  try clear f4_3
  try clear q4_4
  try clear f4_4
  try clear C4
  try clear F4
  try clear H4
  try clear h4
  try clear B4_1
  try clear B4_2
  try clear B4_3
  try clear B4_4
  clear hC1 hC2 hC3 hC4
  have e0 := cell_blk HX0.out 0; have e1 := cell_blk HX0.out 1; have e2 := cell_blk HX0.out 2; have e3 := cell_blk HX0.out 3; have e4 := cell_blk HX1.out 0; have e5 := cell_blk HX1.out 1
  have r0 := cell_blk HX2.out 0; have r1 := cell_blk HX2.out 1; have r2 := cell_blk HX2.out 2; have r3 := cell_blk HX2.out 3; have r4 := cell_blk HX3.out 0; have r5 := cell_blk HX3.out 1; have r6 := cell_blk HX4.out 0; have r7 := cell_blk HX4.out 1
  have rf2 := fun o => free_blk HX2.out o; have rf3 := fun o => free_blk HX3.out o; have rf4 := fun o => free_blk HX4.out o
  have hbX : b < X.heap.size := by omega
  have hX2 : w2.heap.size < X.heap.size := by omega
  have hX3 : w3.heap.size < X.heap.size := by omega
  have n2 : ¬ w2.heap.size = b := by omega
  have n3 : ¬ w3.heap.size = b := by omega
  have gg2 : w.heap.size + 3 ≤ w2.heap.size := by omega
  have gg3 : w2.heap.size < w3.heap.size := by omega
  generalize hq3 : w3.heap.size = p3 at HX1 hX3 n3 e4 e5 gg3 ⊢
  generalize hq2 : w2.heap.size = p2 at HX0 hX2 n2 e0 e1 e2 e3 gg2 gg3 ⊢
  clear hq2 hq3
  go_wp2_with fail
  go_region_held3 (fun v => v.cell? ⟨p2, 0, none⟩ = some (.int .i64 g1) ∧ v.cell? ⟨p2, 1, none⟩ = some (.int .i64 g2) ∧ v.cell? ⟨p2, 2, none⟩ = some (.int .i64 g3) ∧ v.cell? ⟨p2, 3, none⟩ = some (.int .i64 g4) ∧ v.cell? ⟨p3, 0, none⟩ = some (.slice a1 m1 c1) ∧ v.cell? ⟨p3, 1, none⟩ = some (.int .i64 (20 + L))) (first | go_keep | simp [go_sem, *]) (first | (go_at_call 81; refine (spec_l04Map _ a n c b bs _ HA0.out hs HXC.out.drew).mono ?_; rintro e w1 ⟨mo, mh, mo0, mo1, rfl, hC1, h1⟩; have s1 := h1.size; (try simp only [World.size_alloc, World.size_setCell, World.size_drew, World.heap_drewN] at s1); have B1_1 := h1; have z1_0 : p2 < w1.heap.size := (by omega); have q1_0 := fun o => only_cell B1_1 (b := p2) (o := o) (by go_size) (by omega); have f1_0 := fun o => only_free B1_1 (b := p2) (o := o) (by go_size) (by omega); have z1_1 : p3 < w1.heap.size := (by omega); have q1_1 := fun o => only_cell B1_1 (b := p3) (o := o) (by go_size) (by omega); have f1_1 := fun o => only_free B1_1 (b := p3) (o := o) (by go_size) (by omega); have z1_2 : w.heap.size < w1.heap.size := (by omega); have q1_2 := fun o => only_cell B1_1 (b := w.heap.size) (o := o) (by go_size) (by omega); have f1_2 := fun o => only_free B1_1 (b := w.heap.size) (o := o) (by go_size) (by omega); have z1_3 : w.heap.size + 1 < w1.heap.size := (by omega); have q1_3 := fun o => only_cell B1_1 (b := w.heap.size + 1) (o := o) (by go_size) (by omega); have f1_3 := fun o => only_free B1_1 (b := w.heap.size + 1) (o := o) (by go_size) (by omega); have z1_4 : w.heap.size + 1 + 1 < w1.heap.size := (by omega); have q1_4 := fun o => only_cell B1_1 (b := w.heap.size + 1 + 1) (o := o) (by go_size) (by omega); have f1_4 := fun o => only_free B1_1 (b := w.heap.size + 1 + 1) (o := o) (by go_size) (by omega); have H1 : World.grownBy X w1 (some b) := only_next (by repeat (first | (with_reducible assumption) | (with_reducible exact only_refl _ _) | (with_reducible refine only_drawn ?_ _) | (with_reducible refine only_drew ?_) | (with_reducible refine only_alloc ?_ _) | (with_reducible refine only_setCell ?_ ?_ _) | omega)) h1; have C1 := only_cells H1; have F1 := only_frees H1) | (go_at_call 83; refine (spec_LineCount_2 g1 g2 g3 g4 N hN.out _).mono ?_; rintro e w2 ⟨rfl, h2, k2⟩; replace h2 := only_of_below h2 (some b); have s2 := h2.size; (try simp only [World.size_alloc, World.size_setCell, World.size_drew, World.heap_drewN] at s2); have B2_1 := only_next (by first | (with_reducible exact B1_1) | (repeat (first | (with_reducible assumption) | (with_reducible exact B1_1) | (with_reducible exact only_refl _ _) | (with_reducible refine only_drawn ?_ _) | (with_reducible refine only_drew ?_) | (with_reducible refine only_alloc ?_ _) | (with_reducible refine only_setCell ?_ ?_ _) | omega))) h2; have z2_0 : p2 < w2.heap.size := (by omega); have q2_0 := fun o => only_cell B2_1 (b := p2) (o := o) (by go_size) (by omega); have f2_0 := fun o => only_free B2_1 (b := p2) (o := o) (by go_size) (by omega); have z2_1 : p3 < w2.heap.size := (by omega); have q2_1 := fun o => only_cell B2_1 (b := p3) (o := o) (by go_size) (by omega); have f2_1 := fun o => only_free B2_1 (b := p3) (o := o) (by go_size) (by omega); have z2_2 : w.heap.size < w2.heap.size := (by omega); have q2_2 := fun o => only_cell B2_1 (b := w.heap.size) (o := o) (by go_size) (by omega); have f2_2 := fun o => only_free B2_1 (b := w.heap.size) (o := o) (by go_size) (by omega); have z2_3 : w.heap.size + 1 < w2.heap.size := (by omega); have q2_3 := fun o => only_cell B2_1 (b := w.heap.size + 1) (o := o) (by go_size) (by omega); have f2_3 := fun o => only_free B2_1 (b := w.heap.size + 1) (o := o) (by go_size) (by omega); have z2_4 : w.heap.size + 1 + 1 < w2.heap.size := (by omega); have q2_4 := fun o => only_cell B2_1 (b := w.heap.size + 1 + 1) (o := o) (by go_size) (by omega); have f2_4 := fun o => only_free B2_1 (b := w.heap.size + 1 + 1) (o := o) (by go_size) (by omega); have H2 : World.grownBy X w2 (some b) := only_next (by repeat (first | (with_reducible assumption) | (with_reducible exact H1) | (with_reducible exact only_refl _ _) | (with_reducible refine only_drawn ?_ _) | (with_reducible refine only_drew ?_) | (with_reducible refine only_alloc ?_ _) | (with_reducible refine only_setCell ?_ ?_ _) | omega)) h2; have C2 := only_cells H2; have F2 := only_frees H2; have hC2 := hC1.below k2) | (go_at_call 82; refine (spec_l23List _ a n c b bs _ N HA0.out hs hN1 (by repeat (first | (with_reducible assumption) | (with_reducible refine Cur.alloc ?_ _) | (with_reducible refine Cur.drawn ?_ _) | (with_reducible refine Cur.drew ?_) | (with_reducible refine Cur.set ?_ ?_ _) | omega))).mono ?_; rintro e w3 ⟨a2, m2, c2, es, hm2, rfl, o3, hel, hbk, hC3, h3⟩; have s3 := h3.size; (try simp only [World.size_alloc, World.size_setCell, World.size_drew, World.heap_drewN] at s3); have B3_1 := only_next (by first | (with_reducible exact B2_1) | (repeat (first | (with_reducible assumption) | (with_reducible exact B2_1) | (with_reducible exact only_refl _ _) | (with_reducible refine only_drawn ?_ _) | (with_reducible refine only_drew ?_) | (with_reducible refine only_alloc ?_ _) | (with_reducible refine only_setCell ?_ ?_ _) | omega))) h3; have z3_0 : p2 < w3.heap.size := (by omega); have q3_0 := fun o => only_cell B3_1 (b := p2) (o := o) (by go_size) (by omega); have f3_0 := fun o => only_free B3_1 (b := p2) (o := o) (by go_size) (by omega); have z3_1 : p3 < w3.heap.size := (by omega); have q3_1 := fun o => only_cell B3_1 (b := p3) (o := o) (by go_size) (by omega); have f3_1 := fun o => only_free B3_1 (b := p3) (o := o) (by go_size) (by omega); have z3_2 : w.heap.size < w3.heap.size := (by omega); have q3_2 := fun o => only_cell B3_1 (b := w.heap.size) (o := o) (by go_size) (by omega); have f3_2 := fun o => only_free B3_1 (b := w.heap.size) (o := o) (by go_size) (by omega); have z3_3 : w.heap.size + 1 < w3.heap.size := (by omega); have q3_3 := fun o => only_cell B3_1 (b := w.heap.size + 1) (o := o) (by go_size) (by omega); have f3_3 := fun o => only_free B3_1 (b := w.heap.size + 1) (o := o) (by go_size) (by omega); have z3_4 : w.heap.size + 1 + 1 < w3.heap.size := (by omega); have q3_4 := fun o => only_cell B3_1 (b := w.heap.size + 1 + 1) (o := o) (by go_size) (by omega); have f3_4 := fun o => only_free B3_1 (b := w.heap.size + 1 + 1) (o := o) (by go_size) (by omega); have H3 : World.grownBy X w3 (some b) := only_next (by repeat (first | (with_reducible assumption) | (with_reducible exact H2) | (with_reducible exact only_refl _ _) | (with_reducible refine only_drawn ?_ _) | (with_reducible refine only_drew ?_) | (with_reducible refine only_alloc ?_ _) | (with_reducible refine only_setCell ?_ ?_ _) | omega)) h3; have C3 := only_cells H3; have F3 := only_frees H3; have HO2 := hide (own_base (base' := b + 1) o3 (by omega)); have HEL := hide hel; have HBK := hide hbk; clear o3 hel hbk))
  have HO1 := hide (HXO.out.kept H3 (own_ne HXO.out (by omega)))
  have HB := hide (cur_below hC3 (w := w) (by go_grown) (by simp only [World.size_alloc]; omega))
  have hsB := HB.out.size
  clear C1 F1 C2 F2 C3 F3 H1 H2 H3 h1 h2 h3 hC1 hC2 hC3
  go_wp2_with fail
  refine bodyPost_ret (by simp [results, Try.results26, go_sem, *]; try rfl) rfl ?_
  refine ⟨⟨g1, g2, g3, g4⟩, mo, mh, a1, m1, c1, zs, 20 + L, a2, m2, c2, es, HGe.out, x6, x8, mo0, mo1, y1, y2, by omega, by omega, hm2, rfl, isInts_own (B := b + 1) (E := 3) ?_ (fun z hz => small2_wf (HZB.out z hz)), HZB.out, isStructs_own (B := b + 1) (E := 41) rqF_len (by omega) ?_, by rw [hN.out]; exact HBK.out, ?_⟩
  · exact own_set (own_set (own_set (own_set (own_set (own_set (own_set (own_set HO1.out (by omega) _) (by omega) _) (by omega) _) (by omega) _) (by omega) _) (by omega) _) (by omega) _) (by omega) _
  · exact own_set (own_set (own_set (own_set (own_set (own_set (own_set (own_set HO2.out (by omega) _) (by omega) _) (by omega) _) (by omega) _) (by omega) _) (by omega) _) (by omega) _) (by omega) _
  · have HB' := HB.out
    exact (by repeat' (first | (with_reducible exact Below.refl _ _) | (with_reducible assumption) | (with_reducible refine bdrawn ?_ _) | (with_reducible refine Below.alloc ?_ ?_ _) | (with_reducible refine Below.drew ?_) | (with_reducible refine Below.setCell ?_ ?_ _) | go_size))
end Go.Proofs.Ytahfbhfmhccgoaa
