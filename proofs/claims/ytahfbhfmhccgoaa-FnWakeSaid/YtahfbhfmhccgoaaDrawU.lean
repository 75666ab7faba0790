/- A drawn command: its geometry, and a bank that exists (or none: 0). -/
import Derived.Test.YtahfbhfmhccgoaaDrawT
import Derived.Test.YtahfbhfmhccgoaaTrc1
import Derived.Test.YtahfbhfmhccgoaaDrawSlots
set_option linter.unusedSimpArgs false
set_option linter.unusedVariables false
namespace Go.Proofs.Ytahfbhfmhccgoaa
open Go.RowKit Go.ChangeShapes Go.WideShapes Go.ChangeAt Go.Joins Go.Deep
open Go.ChangeMaps (open_string shut_string)
def DrewCmd (w0 : World) (a : Option Addr) (n c b : Nat) (g : Ge) (w : World) (e : Ending) (w' : World) : Prop :=
  ∃ k x y z : Int, (0 ≤ x ∧ x < bankCnt g) ∧ e = .returned (.agg #[.int .i64 k, .int .i64 x, .int .i64 y, .int .i64 z]) ∧ Cur w0 a n c b w' ∧ w.grownBy w' (some b)
set_option maxRecDepth 100000 in
set_option maxHeartbeats 800000 in
theorem spec_l06Cmd (w0 : World) (a : Option Addr) (n c b : Nat) (bs : List Int) (g : Ge) (w : World) (hg : geoOk g = true) (ha : IsInts .u8 w0 a n c bs) (hs : n ≤ 1048576) (hC0 : Cur w0 a n c b w) :
    Calls Try.prog 110 #[.pointer (some ⟨b, 0, none⟩), .agg #[.int .i64 g.gr, .int .i64 g.bk, .int .i64 g.rw, .int .i64 g.cl]] w (DrewCmd w0 a n c b g w) := by
  have HA := hide ha
  clear ha
  have hlb := hC0.lt
  have hbd : 1 ≤ bankCnt g := by unfold bankCnt; rw [if_pos hg]; exact (bank_bd hg).1
  have HBD := hide hbd
  clear hbd
  go_enter Try.func110, Try.ntmps110
  go_wp2_with fail
  refine (spec_l01Below w0 a n c b bs _ 9 HA.out hs (by omega) ((hC0.alloc _).alloc _)).mono ?_
  rintro e w1 ⟨x, hx0, hx1, rfl, hC1, h1⟩
  have hx8 : x ≤ 8 := by omega
  have wx : IntKind.i64.wrap (1 + x) = 1 + x := IntWalk.i64_in _ (by omega)
  have kg1 := (h1.block w.heap.size (by simp only [World.size_alloc]; omega) (by simp; omega)).trans ((alloc_lt _ (.cells #[.int .i64 0, .int .i64 0, .int .i64 0, .int .i64 0] 91) w.heap.size (by simp)).trans (alloc_at w (.cells #[.int .i64 g.gr, .int .i64 g.bk, .int .i64 g.rw, .int .i64 g.cl] 43) _ rfl))
  have kr1 := (h1.block (w.heap.size + 1) (by simp only [World.size_alloc]; omega) (by simp; omega)).trans (alloc_at (w.alloc (.cells #[.int .i64 g.gr, .int .i64 g.bk, .int .i64 g.rw, .int .i64 g.cl] 43)) (.cells #[.int .i64 0, .int .i64 0, .int .i64 0, .int .i64 0] 91) (w.heap.size + 1) (by simp))
  have e0 : w1.cell? ⟨w.heap.size, 0, none⟩ = some (.int .i64 g.gr) := cell_blk kg1 0
  have e1 : w1.cell? ⟨w.heap.size, 1, none⟩ = some (.int .i64 g.bk) := cell_blk kg1 1
  have e2 : w1.cell? ⟨w.heap.size, 2, none⟩ = some (.int .i64 g.rw) := cell_blk kg1 2
  have e3 : w1.cell? ⟨w.heap.size, 3, none⟩ = some (.int .i64 g.cl) := cell_blk kg1 3
  have l1 := lt_blk kr1
  have l0 : w.heap.size < w1.heap.size := by omega
  have n0 : ¬ w.heap.size = w1.heap.size := by omega
  have hGW1 : w.grownBy w1 (some b) := only_next (only_alloc (only_alloc (only_refl w (some b)) _) _) h1
  go_wp2_with fail
  refine (spec_l03Addr w0 a n c b bs g _ hg HA.out hs (hC1.alloc _)).mono ?_
  rintro e w2 ⟨ad, had, rfl, hC2, h2⟩
  have kx2 := (h2.block w1.heap.size (by simp) (by simp; omega)).trans (alloc_at w1 (.cells #[.int .i64 (1 + x), .int .i64 0, .int .i64 0, .int .i64 0] 91) _ rfl)
  have kr2 := (h2.block (w.heap.size + 1) (by simp; omega) (by simp; omega)).trans ((alloc_lt w1 (.cells #[.int .i64 (1 + x), .int .i64 0, .int .i64 0, .int .i64 0] 91) _ l1).trans kr1)
  have l2 := lt_blk kx2
  have l3 := lt_blk kr2
  have x0 : w2.cell? ⟨w1.heap.size, 0, none⟩ = some (.int .i64 (1 + x)) := cell_blk kx2 0
  have n2 : ¬ w1.heap.size = w2.heap.size := by omega
  have hGW2 : w.grownBy w2 (some b) := only_next (only_alloc hGW1 _) h2
  clear e0 e1 e2 e3 kg1 kr1 n0
  go_wp2_with fail
  obtain ⟨b1, hb1⟩ : ∃ b1, btw (1 + x) 1 5 = b1 := ⟨_, rfl⟩
  obtain ⟨b2, hb2⟩ : ∃ b2, ((1 + x) == 1) = b2 := ⟨_, rfl⟩
  obtain ⟨b3, hb3⟩ : ∃ b3, ((1 + x) == 2 || (1 + x) == 3) = b3 := ⟨_, rfl⟩
  refine (spec_l06Uses (1 + x) b1 b2 b3 _ hb1 hb2 hb3).mono ?_
  rintro e w' ⟨rfl, rfl⟩
  have kx3 := (alloc_lt w2 (.cells #[.int .i64 ad.b, .int .i64 ad.r, .int .i64 ad.c] 138) _ l2).trans kx2
  have kr3 := (alloc_lt w2 (.cells #[.int .i64 ad.b, .int .i64 ad.r, .int .i64 ad.c] 138) _ l3).trans kr2
  have ka3 := alloc_at w2 (.cells #[.int .i64 ad.b, .int .i64 ad.r, .int .i64 ad.c] 138) _ rfl
  have hC3 := hide (hC2.alloc (.cells #[.int .i64 ad.b, .int .i64 ad.r, .int .i64 ad.c] 138))
  have hG3 := hide (only_alloc hGW2 (.cells #[.int .i64 ad.b, .int .i64 ad.r, .int .i64 ad.c] 138))
  clear kx2 kr2 x0 hC2 h2 hC1 h1 hGW1 hGW2 hC0 wx
  have np : ¬ w1.heap.size = b := by omega
  have nr : ¬ w.heap.size + 1 = b := by omega
  have npr : ¬ w1.heap.size = w.heap.size + 1 := by omega
  have nqp : ¬ w2.heap.size = w1.heap.size := by omega
  have nrp : ¬ w.heap.size + 1 = w1.heap.size := by omega
  have nrq : ¬ w.heap.size + 1 = w2.heap.size := by omega
  have nqr : ¬ w2.heap.size = w.heap.size + 1 := by omega
  generalize (w2.alloc (.cells #[.int .i64 ad.b, .int .i64 ad.r, .int .i64 ad.c] 138)) = W at *
  have p0 : W.cell? ⟨w1.heap.size, 0, none⟩ = some (.int .i64 (1 + x)) := cell_blk kx3 0; have p1 : W.cell? ⟨w1.heap.size, 1, none⟩ = some (.int .i64 0) := cell_blk kx3 1; have p2 : W.cell? ⟨w1.heap.size, 2, none⟩ = some (.int .i64 0) := cell_blk kx3 2; have p3 : W.cell? ⟨w1.heap.size, 3, none⟩ = some (.int .i64 0) := cell_blk kx3 3; have pf := fun o => free_blk kx3 o
  have r0 : W.cell? ⟨w.heap.size + 1, 0, none⟩ = some (.int .i64 0) := cell_blk kr3 0; have r1 : W.cell? ⟨w.heap.size + 1, 1, none⟩ = some (.int .i64 0) := cell_blk kr3 1; have r2 : W.cell? ⟨w.heap.size + 1, 2, none⟩ = some (.int .i64 0) := cell_blk kr3 2; have r3 : W.cell? ⟨w.heap.size + 1, 3, none⟩ = some (.int .i64 0) := cell_blk kr3 3; have rf := fun o => free_blk kr3 o
  have a0 : W.cell? ⟨w2.heap.size, 0, none⟩ = some (.int .i64 ad.b) := cell_blk ka3 0; have a1 : W.cell? ⟨w2.heap.size, 1, none⟩ = some (.int .i64 ad.r) := cell_blk ka3 1; have a2 : W.cell? ⟨w2.heap.size, 2, none⟩ = some (.int .i64 ad.c) := cell_blk ka3 2
  clear kx3 kr3 ka3
  have HPW := hide l0
  generalize w1.heap.size = p at *
  generalize w2.heap.size = q at *
  have HAD := hide had
  clear l0 l1 l2 l3 n2 had
  have fin : ∀ (k x y z : Int) (w' : World), (0 ≤ x ∧ x < bankCnt g) → Cur w0 a n c b w' → w.grownBy w' (some b) → DrewCmd w0 a n c b g w (.returned (.agg #[.int .i64 k, .int .i64 x, .int .i64 y, .int .i64 z])) w' := fun k x y z w' h1 h2 h3 => ⟨k, x, y, z, h1, rfl, h2, h3⟩
  have hab : 0 ≤ ad.b ∧ ad.b < bankCnt g := by
    have := HAD.out
    simp only [adOk, Bool.and_eq_true, btw_true] at this; omega
  have FIN := hide fin; have HAB := hide hab; have HX := hide (And.intro hx0 hx8)
  clear fin hab
  have hcase : (b1 = true ∧ b2 = true ∧ b3 = false) ∨ (b1 = true ∧ b2 = false ∧ b3 = true) ∨ (b1 = true ∧ b2 = false ∧ b3 = false) ∨ (b1 = false ∧ b2 = false ∧ b3 = false) := by
    subst hb1 hb2 hb3
    simp only [btw, beq_iff_eq, Bool.or_eq_true, Bool.or_eq_false_iff, beq_eq_false_iff_ne, Bool.and_eq_true, decide_eq_true_eq, Bool.and_eq_false_iff, decide_eq_false_iff_not]
    omega
  clear hb1 hb2 hb3 hx0 hx1 hx8
  rcases hcase with ⟨rfl, rfl, rfl⟩ | ⟨rfl, rfl, rfl⟩ | ⟨rfl, rfl, rfl⟩ | ⟨rfl, rfl, rfl⟩
  all_goals
    go_wp2_with fail
    refine bodyPost_ret (by simp [results, Try.results110, go_sem, *]; try rfl) rfl ?_
    refine FIN.out _ _ _ _ _ (by have := HAB.out; have := HBD.out; omega) ?_ ?_
    · have hpw := HPW.out
      repeat' (first | (with_reducible exact hC3.out) | (with_reducible refine Cur.set ?_ ?_ _) | omega)
    · have hpw := HPW.out
      repeat' (first | (with_reducible exact hG3.out) | (with_reducible refine only_setCell ?_ ?_ _) | omega)

def DrewCom (w : World) (e : Ending) (w' : World) : Prop :=
  ∃ (g : Ge) (k x y z : Int), geoOk g = true ∧ (0 ≤ x ∧ x < bankCnt g) ∧ e = .returned (.tuple #[.agg #[.int .i64 g.gr, .int .i64 g.bk, .int .i64 g.rw, .int .i64 g.cl], .agg #[.int .i64 k, .int .i64 x, .int .i64 y, .int .i64 z]]) ∧ Below w.heap.size w w'
set_option maxRecDepth 100000 in
set_option maxHeartbeats 4000000 in
theorem spec_DrawCommand (a : Option Addr) (n c : Nat) (bs : List Int) (w : World) (ha : IsInts .u8 w a n c bs) (hs : n ≤ 1048576) :
    Calls Try.prog 59 #[.slice a n c] w (DrewCom w) := by
  have HA := hide ha
  clear ha
  go_enter Try.func59, Try.ntmps59
  go_wp2_with fail
  refine (new_cur a n c bs _ (w.heap.size + 2) (by simp only [World.size_alloc]; omega) (HA.out.below (B := w.heap.size) (by go_grown) (Nat.le_refl _)) hs).mono ?_
  rintro e w1 ⟨b, rfl, hC1, hwb, hlb, h1⟩
  replace h1 := only_of_below h1 (some b)
  have s1 := h1.size
  try simp only [World.size_alloc, World.size_setCell, World.size_drew, World.heap_drewN] at s1
  have B1_1 := h1
  have z1_0 : w.heap.size < w1.heap.size := by omega
  have q1_0 := fun o => only_cell B1_1 (b := w.heap.size) (o := o) (by go_size) (by omega)
  have f1_0 := fun o => only_free B1_1 (b := w.heap.size) (o := o) (by go_size) (by omega)
  have z1_1 : w.heap.size + 1 < w1.heap.size := by omega
  have q1_1 := fun o => only_cell B1_1 (b := w.heap.size + 1) (o := o) (by go_size) (by omega)
  have f1_1 := fun o => only_free B1_1 (b := w.heap.size + 1) (o := o) (by go_size) (by omega)
  have H1 : World.grownBy w w1 (some b) := only_next (by repeat (first | (with_reducible assumption) | (with_reducible exact only_refl _ _) | (with_reducible refine only_drawn ?_ _) | (with_reducible refine only_drew ?_) | (with_reducible refine only_alloc ?_ _) | (with_reducible refine only_setCell ?_ ?_ _) | omega)) h1
  have C1 := only_cells H1; have F1 := only_frees H1
  have HA0 := hide (cur_ints HA.out hC1 (by go_grown))
  go_wp2_with fail
  refine (spec_l03Geo _ a n c b bs _ HA0.out hs (by repeat (first | (with_reducible assumption) | (with_reducible refine Cur.alloc ?_ _) | (with_reducible refine Cur.drawn ?_ _) | (with_reducible refine Cur.drew ?_) | (with_reducible refine Cur.set ?_ ?_ _) | omega))).mono ?_
  rintro e w2 ⟨g1, g2, g3, g4, x1, x2, x3, x4, x5, x6, x7, x8, rfl, hC2, h2⟩
  have s2 := h2.size
  try simp only [World.size_alloc, World.size_setCell, World.size_drew, World.heap_drewN] at s2
  have B2_1 := only_next (by first | (with_reducible exact B1_1) | (repeat (first | (with_reducible assumption) | (with_reducible exact B1_1) | (with_reducible exact only_refl _ _) | (with_reducible refine only_drawn ?_ _) | (with_reducible refine only_drew ?_) | (with_reducible refine only_alloc ?_ _) | (with_reducible refine only_setCell ?_ ?_ _) | omega))) h2
  have z2_0 : w.heap.size < w2.heap.size := by omega
  have q2_0 := fun o => only_cell B2_1 (b := w.heap.size) (o := o) (by go_size) (by omega)
  have f2_0 := fun o => only_free B2_1 (b := w.heap.size) (o := o) (by go_size) (by omega)
  have z2_1 : w.heap.size + 1 < w2.heap.size := by omega
  have q2_1 := fun o => only_cell B2_1 (b := w.heap.size + 1) (o := o) (by go_size) (by omega)
  have f2_1 := fun o => only_free B2_1 (b := w.heap.size + 1) (o := o) (by go_size) (by omega)
  have H2 : World.grownBy w w2 (some b) := only_next (by repeat (first | (with_reducible assumption) | (with_reducible exact H1) | (with_reducible exact only_refl _ _) | (with_reducible refine only_drawn ?_ _) | (with_reducible refine only_drew ?_) | (with_reducible refine only_alloc ?_ _) | (with_reducible refine only_setCell ?_ ?_ _) | omega)) h2
  have C2 := only_cells H2; have F2 := only_frees H2
  have HGe := hide (geoOk_mk (g := ⟨g1, g2, g3, g4⟩) (by simp only; omega))
  go_wp2_with fail
  go_region_held3 (fun v => v.cell? ⟨w2.heap.size, 0, none⟩ = some (.int .i64 g1) ∧ v.cell? ⟨w2.heap.size, 1, none⟩ = some (.int .i64 g2) ∧ v.cell? ⟨w2.heap.size, 2, none⟩ = some (.int .i64 g3) ∧ v.cell? ⟨w2.heap.size, 3, none⟩ = some (.int .i64 g4)) (first | go_keep | simp [go_sem, *]) (first | (go_at_call 110; refine (spec_l06Cmd _ a n c b bs ⟨g1, g2, g3, g4⟩ _ HGe.out HA0.out hs (by repeat (first | (with_reducible assumption) | (with_reducible refine Cur.alloc ?_ _) | (with_reducible refine Cur.drawn ?_ _) | (with_reducible refine Cur.drew ?_) | (with_reducible refine Cur.set ?_ ?_ _) | omega))).mono ?_; rintro e w3 ⟨k, x, y, z, hx, rfl, hC3, h3⟩; have s3 := h3.size; (try simp only [World.size_alloc, World.size_setCell, World.size_drew, World.heap_drewN] at s3); have B3_1 := only_next (by first | (with_reducible exact B2_1) | (repeat (first | (with_reducible assumption) | (with_reducible exact B2_1) | (with_reducible exact only_refl _ _) | (with_reducible refine only_drawn ?_ _) | (with_reducible refine only_drew ?_) | (with_reducible refine only_alloc ?_ _) | (with_reducible refine only_setCell ?_ ?_ _) | omega))) h3; have B3_3 := h3; have z3_0 : w.heap.size < w3.heap.size := (by omega); have q3_0 := fun o => only_cell B3_1 (b := w.heap.size) (o := o) (by go_size) (by omega); have f3_0 := fun o => only_free B3_1 (b := w.heap.size) (o := o) (by go_size) (by omega); have z3_1 : w.heap.size + 1 < w3.heap.size := (by omega); have q3_1 := fun o => only_cell B3_1 (b := w.heap.size + 1) (o := o) (by go_size) (by omega); have f3_1 := fun o => only_free B3_1 (b := w.heap.size + 1) (o := o) (by go_size) (by omega); have z3_2 : w2.heap.size < w3.heap.size := (by omega); have q3_2 := fun o => only_cell B3_3 (b := w2.heap.size) (o := o) (by go_size) (by omega); have f3_2 := fun o => only_free B3_3 (b := w2.heap.size) (o := o) (by go_size) (by omega); have H3 : World.grownBy w w3 (some b) := only_next (by repeat (first | (with_reducible assumption) | (with_reducible exact H2) | (with_reducible exact only_refl _ _) | (with_reducible refine only_drawn ?_ _) | (with_reducible refine only_drew ?_) | (with_reducible refine only_alloc ?_ _) | (with_reducible refine only_setCell ?_ ?_ _) | omega)) h3; have C3 := only_cells H3; have F3 := only_frees H3; have HXB := hide hx; clear hx))
  have HB := hide (cur_below hC3 (w := w) (by go_grown) (by simp only [World.size_alloc]; omega))
  go_wp2_with fail
  refine bodyPost_ret (by simp [results, Try.results59, go_sem, *]; try rfl) rfl ?_
  refine ⟨⟨g1, g2, g3, g4⟩, k, x, y, z, HGe.out, HXB.out, rfl, ?_⟩
  have HB' := HB.out
  exact (by repeat' (first | (with_reducible exact Below.refl _ _) | (with_reducible assumption) | (with_reducible refine bdrawn ?_ _) | (with_reducible refine Below.alloc ?_ ?_ _) | (with_reducible refine Below.drew ?_) | (with_reducible refine Below.setCell ?_ ?_ _) | go_size))
end Go.Proofs.Ytahfbhfmhccgoaa
