/- The drawn power rule and power state. -/
import Derived.Test.YtlaoeaecbdmebaaDrawDrain
set_option linter.unusedSimpArgs false
set_option linter.unusedVariables false
namespace Go.Proofs.Ytlaoeaecbdmebaa
open Go.RowKit Go.ChangeShapes Go.WideShapes Go.ChangeAt Go.Joins Go.Deep
open Go.ChangeMaps (open_string shut_string)

def DrewRule (w0 : World) (a : Option Addr) (n c b : Nat) (w : World) (e : Ending) (w' : World) : Prop :=
  ∃ (d s : Int), e = .returned (.agg #[.int .i64 d, .int .i64 s]) ∧ Cur w0 a n c b w' ∧ w.grownBy w' (some b)
def DrewPower (w0 : World) (a : Option Addr) (n c b : Nat) (w : World) (e : Ending) (w' : World) : Prop :=
  ∃ (s t i : Int), e = .returned (.agg #[.int .i64 s, .int .i64 t, .int .i64 i]) ∧ Cur w0 a n c b w' ∧ w.grownBy w' (some b)

set_option maxHeartbeats 800000 in
theorem spec_l24Rule (w0 : World) (a : Option Addr) (n c b : Nat) (bs : List Int) (w : World) (ha : IsInts .u8 w0 a n c bs) (hs : n ≤ 1048576) (hC0 : Cur w0 a n c b w) :
    Calls Try.prog 76 #[.pointer (some ⟨b, 0, none⟩)] w (DrewRule w0 a n c b w) := by
  have HA := hide ha
  clear ha
  have hlb := hC0.lt
  have hwb : w0.heap.size ≤ b := by obtain ⟨_, _, _, _, _, h⟩ := hC0; exact h
  go_enter Try.func76, Try.ntmps76
  go_wp2_with fail
  refine (spec_l01Below w0 a n c b bs _ (20) HA.out hs (by omega) (by repeat (first | (with_reducible assumption) | (with_reducible refine Cur.alloc ?_ _) | (with_reducible refine Cur.drawn ?_ _) | (with_reducible refine Cur.drew ?_) | (with_reducible refine Cur.set ?_ ?_ _) | omega)) ).mono ?_
  rintro e w1 ⟨d, d_lo, d_hi, rfl, hC1, h1⟩
  have s1 := h1.size
  try simp only [World.size_alloc, World.size_setCell, World.size_drew, World.heap_drewN] at s1
  have B1_1 := h1
  have z1_0 : w.heap.size < w1.heap.size := by omega
  have q1_0 := fun o => only_cell B1_1 (b := w.heap.size) (o := o) (by go_size) (by omega)
  have f1_0 := fun o => only_free B1_1 (b := w.heap.size) (o := o) (by go_size) (by omega)
  have H1 : World.grownBy w w1 (some b) := only_next (by repeat (first | (with_reducible assumption) | (with_reducible exact only_refl _ _) | (with_reducible refine only_drawn ?_ _) | (with_reducible refine only_drew ?_) | (with_reducible refine only_alloc ?_ _) | (with_reducible refine only_setCell ?_ ?_ _) | omega)) h1
  have C1 := only_cells H1; have F1 := only_frees H1
  go_wp2_with fail
  go_region_held3 (fun v => v.cell? ⟨w1.heap.size, 0, none⟩ = some (.int .i64 (1 + d))) (first | go_keep | simp [go_sem, *]) (first | (go_at_call 75; refine (spec_l01Below w0 a n c b bs _ (30) HA.out hs (by omega) (by repeat (first | (with_reducible assumption) | (with_reducible refine Cur.alloc ?_ _) | (with_reducible refine Cur.drawn ?_ _) | (with_reducible refine Cur.drew ?_) | (with_reducible refine Cur.set ?_ ?_ _) | omega)) ).mono ?_; rintro e w2 ⟨x, x_lo, x_hi, rfl, hC2, h2⟩; have s2 := h2.size; (try simp only [World.size_alloc, World.size_setCell, World.size_drew, World.heap_drewN] at s2); have B2_1 := only_next (by first | (with_reducible exact B1_1) | (repeat (first | (with_reducible assumption) | (with_reducible exact B1_1) | (with_reducible exact only_refl _ _) | (with_reducible refine only_drawn ?_ _) | (with_reducible refine only_drew ?_) | (with_reducible refine only_alloc ?_ _) | (with_reducible refine only_setCell ?_ ?_ _) | omega))) h2; have B2_2 := h2; have z2_0 : w.heap.size < w2.heap.size := (by omega); have q2_0 := fun o => only_cell B2_1 (b := w.heap.size) (o := o) (by go_size) (by omega); have f2_0 := fun o => only_free B2_1 (b := w.heap.size) (o := o) (by go_size) (by omega); have z2_1 : w1.heap.size < w2.heap.size := (by omega); have q2_1 := fun o => only_cell B2_2 (b := w1.heap.size) (o := o) (by go_size) (by omega); have f2_1 := fun o => only_free B2_2 (b := w1.heap.size) (o := o) (by go_size) (by omega); have H2 : World.grownBy w w2 (some b) := only_next (by repeat (first | (with_reducible assumption) | (with_reducible exact H1) | (with_reducible exact only_refl _ _) | (with_reducible refine only_drawn ?_ _) | (with_reducible refine only_drew ?_) | (with_reducible refine only_alloc ?_ _) | (with_reducible refine only_setCell ?_ ?_ _) | omega)) h2; have C2 := only_cells H2; have F2 := only_frees H2))
  go_wp2_with fail
  refine (spec_l01Once w0 a n c b bs _ (10) HA.out hs (by omega) (by repeat (first | (with_reducible assumption) | (with_reducible refine Cur.alloc ?_ _) | (with_reducible refine Cur.drawn ?_ _) | (with_reducible refine Cur.drew ?_) | (with_reducible refine Cur.set ?_ ?_ _) | omega)) ).mono ?_
  rintro e w3 ⟨u, rfl, hC3, h3⟩
  have s3 := h3.size
  try simp only [World.size_alloc, World.size_setCell, World.size_drew, World.heap_drewN] at s3
  have B3_1 := only_next (by first | (with_reducible exact B2_1) | (repeat (first | (with_reducible assumption) | (with_reducible exact B2_1) | (with_reducible exact only_refl _ _) | (with_reducible refine only_drawn ?_ _) | (with_reducible refine only_drew ?_) | (with_reducible refine only_alloc ?_ _) | (with_reducible refine only_setCell ?_ ?_ _) | omega))) h3
  have B3_2 := only_next (by first | (with_reducible exact B2_2) | (repeat (first | (with_reducible assumption) | (with_reducible exact B2_2) | (with_reducible exact only_refl _ _) | (with_reducible refine only_drawn ?_ _) | (with_reducible refine only_drew ?_) | (with_reducible refine only_alloc ?_ _) | (with_reducible refine only_setCell ?_ ?_ _) | omega))) h3
  have z3_0 : w.heap.size < w3.heap.size := by omega
  have q3_0 := fun o => only_cell B3_1 (b := w.heap.size) (o := o) (by go_size) (by omega)
  have f3_0 := fun o => only_free B3_1 (b := w.heap.size) (o := o) (by go_size) (by omega)
  have z3_1 : w1.heap.size < w3.heap.size := by omega
  have q3_1 := fun o => only_cell B3_2 (b := w1.heap.size) (o := o) (by go_size) (by omega)
  have f3_1 := fun o => only_free B3_2 (b := w1.heap.size) (o := o) (by go_size) (by omega)
  have H3 : World.grownBy w w3 (some b) := only_next (by repeat (first | (with_reducible assumption) | (with_reducible exact H2) | (with_reducible exact only_refl _ _) | (with_reducible refine only_drawn ?_ _) | (with_reducible refine only_drew ?_) | (with_reducible refine only_alloc ?_ _) | (with_reducible refine only_setCell ?_ ?_ _) | omega)) h3
  have C3 := only_cells H3; have F3 := only_frees H3
  by_cases hif7 : u = true
  · subst hif7
    go_wp2_with fail
    refine (spec_l01PickInt w0 a n c b bs (w3.alloc (.cells #[.int .i64 (1 + d), .int .i64 (0), .int .i64 (20000), .int .i64 (20001), .int .i64 (-1)] 3)) (some ⟨w3.heap.size, 0, none⟩) 5 5 [1 + d, 0, 20000, 20001, -1] HA.out hs (by repeat (first | (with_reducible assumption) | (with_reducible refine Cur.alloc ?_ _) | (with_reducible refine Cur.drawn ?_ _) | (with_reducible refine Cur.drew ?_) | (with_reducible refine Cur.set ?_ ?_ _) | omega)) (ints_lit _ _ _ 5 _ rfl rfl (by omega) (by simp; try omega)) (by omega) (by intro g o hg; injection hg with hg; injection hg with hg; omega) ).mono ?_
    rintro e w4 ⟨z, z_mem, rfl, hC4, h4⟩
    have s4 := h4.size
    try simp only [World.size_alloc, World.size_setCell, World.size_drew, World.heap_drewN] at s4
    have B4_1 := only_next (by first | (with_reducible exact B3_1) | (repeat (first | (with_reducible assumption) | (with_reducible exact B3_1) | (with_reducible exact only_refl _ _) | (with_reducible refine only_drawn ?_ _) | (with_reducible refine only_drew ?_) | (with_reducible refine only_alloc ?_ _) | (with_reducible refine only_setCell ?_ ?_ _) | omega))) h4
    have B4_2 := only_next (by first | (with_reducible exact B3_2) | (repeat (first | (with_reducible assumption) | (with_reducible exact B3_2) | (with_reducible exact only_refl _ _) | (with_reducible refine only_drawn ?_ _) | (with_reducible refine only_drew ?_) | (with_reducible refine only_alloc ?_ _) | (with_reducible refine only_setCell ?_ ?_ _) | omega))) h4
    have B4_4 := h4
    have z4_0 : w.heap.size < w4.heap.size := by omega
    have q4_0 := fun o => only_cell B4_1 (b := w.heap.size) (o := o) (by go_size) (by omega)
    have f4_0 := fun o => only_free B4_1 (b := w.heap.size) (o := o) (by go_size) (by omega)
    have z4_1 : w1.heap.size < w4.heap.size := by omega
    have q4_1 := fun o => only_cell B4_2 (b := w1.heap.size) (o := o) (by go_size) (by omega)
    have f4_1 := fun o => only_free B4_2 (b := w1.heap.size) (o := o) (by go_size) (by omega)
    have z4_2 : w3.heap.size < w4.heap.size := by omega
    have q4_2 := fun o => only_cell B4_4 (b := w3.heap.size) (o := o) (by go_size) (by omega)
    have f4_2 := fun o => only_free B4_4 (b := w3.heap.size) (o := o) (by go_size) (by omega)
    have H4 : World.grownBy w w4 (some b) := only_next (by repeat (first | (with_reducible assumption) | (with_reducible exact H3) | (with_reducible exact only_refl _ _) | (with_reducible refine only_drawn ?_ _) | (with_reducible refine only_drew ?_) | (with_reducible refine only_alloc ?_ _) | (with_reducible refine only_setCell ?_ ?_ _) | omega)) h4
    have C4 := only_cells H4; have F4 := only_frees H4
    go_wp2_with fail
    refine bodyPost_ret (by simp [results, Try.results76, go_sem, *]; try rfl) rfl ?_
    exact ⟨_, _, rfl, (by repeat (first | (with_reducible assumption) | (with_reducible refine Cur.alloc ?_ _) | (with_reducible refine Cur.drawn ?_ _) | (with_reducible refine Cur.drew ?_) | (with_reducible refine Cur.set ?_ ?_ _) | omega)), (by repeat (first | (with_reducible assumption) | (with_reducible exact only_refl _ _) | (with_reducible refine only_drawn ?_ _) | (with_reducible refine only_drew ?_) | (with_reducible refine only_alloc ?_ _) | (with_reducible refine only_setCell ?_ ?_ _) | omega))⟩
  · skip
    obtain rfl : u = false := by simpa using (by assumption : ¬ u = true)
    go_wp2_with fail
    refine bodyPost_ret (by simp [results, Try.results76, go_sem, *]; try rfl) rfl ?_
    exact ⟨_, _, rfl, (by repeat (first | (with_reducible assumption) | (with_reducible refine Cur.alloc ?_ _) | (with_reducible refine Cur.drawn ?_ _) | (with_reducible refine Cur.drew ?_) | (with_reducible refine Cur.set ?_ ?_ _) | omega)), (by repeat (first | (with_reducible assumption) | (with_reducible exact only_refl _ _) | (with_reducible refine only_drawn ?_ _) | (with_reducible refine only_drew ?_) | (with_reducible refine only_alloc ?_ _) | (with_reducible refine only_setCell ?_ ?_ _) | omega))⟩

set_option maxHeartbeats 800000 in
theorem spec_l24Power (w0 : World) (a : Option Addr) (n c b : Nat) (bs : List Int) (w : World) (ha : IsInts .u8 w0 a n c bs) (hs : n ≤ 1048576) (hC0 : Cur w0 a n c b w) :
    Calls Try.prog 77 #[.pointer (some ⟨b, 0, none⟩)] w (DrewPower w0 a n c b w) := by
  have HA := hide ha
  clear ha
  have hlb := hC0.lt
  have hwb : w0.heap.size ≤ b := by obtain ⟨_, _, _, _, _, h⟩ := hC0; exact h
  go_enter Try.func77, Try.ntmps77
  go_wp2_with fail
  refine (spec_l01Below w0 a n c b bs _ (3) HA.out hs (by omega) (by repeat (first | (with_reducible assumption) | (with_reducible refine Cur.alloc ?_ _) | (with_reducible refine Cur.drawn ?_ _) | (with_reducible refine Cur.drew ?_) | (with_reducible refine Cur.set ?_ ?_ _) | omega)) ).mono ?_
  rintro e w1 ⟨s, s_lo, s_hi, rfl, hC1, h1⟩
  have s1 := h1.size
  try simp only [World.size_alloc, World.size_setCell, World.size_drew, World.heap_drewN] at s1
  have B1_1 := h1
  have z1_0 : w.heap.size < w1.heap.size := by omega
  have q1_0 := fun o => only_cell B1_1 (b := w.heap.size) (o := o) (by go_size) (by omega)
  have f1_0 := fun o => only_free B1_1 (b := w.heap.size) (o := o) (by go_size) (by omega)
  have H1 : World.grownBy w w1 (some b) := only_next (by repeat (first | (with_reducible assumption) | (with_reducible exact only_refl _ _) | (with_reducible refine only_drawn ?_ _) | (with_reducible refine only_drew ?_) | (with_reducible refine only_alloc ?_ _) | (with_reducible refine only_setCell ?_ ?_ _) | omega)) h1
  have C1 := only_cells H1; have F1 := only_frees H1
  go_wp2_with fail
  refine (spec_l01Below w0 a n c b bs _ (60) HA.out hs (by omega) (by repeat (first | (with_reducible assumption) | (with_reducible refine Cur.alloc ?_ _) | (with_reducible refine Cur.drawn ?_ _) | (with_reducible refine Cur.drew ?_) | (with_reducible refine Cur.set ?_ ?_ _) | omega)) ).mono ?_
  rintro e w2 ⟨t, t_lo, t_hi, rfl, hC2, h2⟩
  have s2 := h2.size
  try simp only [World.size_alloc, World.size_setCell, World.size_drew, World.heap_drewN] at s2
  have B2_1 := only_next (by first | (with_reducible exact B1_1) | (repeat (first | (with_reducible assumption) | (with_reducible exact B1_1) | (with_reducible exact only_refl _ _) | (with_reducible refine only_drawn ?_ _) | (with_reducible refine only_drew ?_) | (with_reducible refine only_alloc ?_ _) | (with_reducible refine only_setCell ?_ ?_ _) | omega))) h2
  have z2_0 : w.heap.size < w2.heap.size := by omega
  have q2_0 := fun o => only_cell B2_1 (b := w.heap.size) (o := o) (by go_size) (by omega)
  have f2_0 := fun o => only_free B2_1 (b := w.heap.size) (o := o) (by go_size) (by omega)
  have H2 : World.grownBy w w2 (some b) := only_next (by repeat (first | (with_reducible assumption) | (with_reducible exact H1) | (with_reducible exact only_refl _ _) | (with_reducible refine only_drawn ?_ _) | (with_reducible refine only_drew ?_) | (with_reducible refine only_alloc ?_ _) | (with_reducible refine only_setCell ?_ ?_ _) | omega)) h2
  have C2 := only_cells H2; have F2 := only_frees H2
  go_wp2_with fail
  refine (spec_l01Below w0 a n c b bs _ (50) HA.out hs (by omega) (by repeat (first | (with_reducible assumption) | (with_reducible refine Cur.alloc ?_ _) | (with_reducible refine Cur.drawn ?_ _) | (with_reducible refine Cur.drew ?_) | (with_reducible refine Cur.set ?_ ?_ _) | omega)) ).mono ?_
  rintro e w3 ⟨i, i_lo, i_hi, rfl, hC3, h3⟩
  have s3 := h3.size
  try simp only [World.size_alloc, World.size_setCell, World.size_drew, World.heap_drewN] at s3
  have B3_1 := only_next (by first | (with_reducible exact B2_1) | (repeat (first | (with_reducible assumption) | (with_reducible exact B2_1) | (with_reducible exact only_refl _ _) | (with_reducible refine only_drawn ?_ _) | (with_reducible refine only_drew ?_) | (with_reducible refine only_alloc ?_ _) | (with_reducible refine only_setCell ?_ ?_ _) | omega))) h3
  have z3_0 : w.heap.size < w3.heap.size := by omega
  have q3_0 := fun o => only_cell B3_1 (b := w.heap.size) (o := o) (by go_size) (by omega)
  have f3_0 := fun o => only_free B3_1 (b := w.heap.size) (o := o) (by go_size) (by omega)
  have H3 : World.grownBy w w3 (some b) := only_next (by repeat (first | (with_reducible assumption) | (with_reducible exact H2) | (with_reducible exact only_refl _ _) | (with_reducible refine only_drawn ?_ _) | (with_reducible refine only_drew ?_) | (with_reducible refine only_alloc ?_ _) | (with_reducible refine only_setCell ?_ ?_ _) | omega)) h3
  have C3 := only_cells H3; have F3 := only_frees H3
  go_wp2_with fail
  refine (spec_l01Below w0 a n c b bs _ (14) HA.out hs (by omega) (by repeat (first | (with_reducible assumption) | (with_reducible refine Cur.alloc ?_ _) | (with_reducible refine Cur.drawn ?_ _) | (with_reducible refine Cur.drew ?_) | (with_reducible refine Cur.set ?_ ?_ _) | omega)) ).mono ?_
  rintro e w4 ⟨y, y_lo, y_hi, rfl, hC4, h4⟩
  have s4 := h4.size
  try simp only [World.size_alloc, World.size_setCell, World.size_drew, World.heap_drewN] at s4
  have B4_1 := only_next (by first | (with_reducible exact B3_1) | (repeat (first | (with_reducible assumption) | (with_reducible exact B3_1) | (with_reducible exact only_refl _ _) | (with_reducible refine only_drawn ?_ _) | (with_reducible refine only_drew ?_) | (with_reducible refine only_alloc ?_ _) | (with_reducible refine only_setCell ?_ ?_ _) | omega))) h4
  have B4_4 := h4
  have z4_0 : w.heap.size < w4.heap.size := by omega
  have q4_0 := fun o => only_cell B4_1 (b := w.heap.size) (o := o) (by go_size) (by omega)
  have f4_0 := fun o => only_free B4_1 (b := w.heap.size) (o := o) (by go_size) (by omega)
  have z4_1 : w3.heap.size < w4.heap.size := by omega
  have q4_1 := fun o => only_cell B4_4 (b := w3.heap.size) (o := o) (by go_size) (by omega)
  have f4_1 := fun o => only_free B4_4 (b := w3.heap.size) (o := o) (by go_size) (by omega)
  have H4 : World.grownBy w w4 (some b) := only_next (by repeat (first | (with_reducible assumption) | (with_reducible exact H3) | (with_reducible exact only_refl _ _) | (with_reducible refine only_drawn ?_ _) | (with_reducible refine only_drew ?_) | (with_reducible refine only_alloc ?_ _) | (with_reducible refine only_setCell ?_ ?_ _) | omega)) h4
  have C4 := only_cells H4; have F4 := only_frees H4
  by_cases hif8 : y = 0
  · subst hif8
    go_wp2_with fail
    refine (spec_l01PickInt w0 a n c b bs (w4.alloc (.cells #[.int .i64 (-1), .int .i64 (3)] 3)) (some ⟨w4.heap.size, 0, none⟩) 2 2 [-1, 3] HA.out hs (by repeat (first | (with_reducible assumption) | (with_reducible refine Cur.alloc ?_ _) | (with_reducible refine Cur.drawn ?_ _) | (with_reducible refine Cur.drew ?_) | (with_reducible refine Cur.set ?_ ?_ _) | omega)) (ints_lit _ _ _ 2 _ rfl rfl (by omega) (by simp; try omega)) (by omega) (by intro g o hg; injection hg with hg; injection hg with hg; omega) ).mono ?_
    rintro e w5 ⟨z, z_mem, rfl, hC5, h5⟩
    have s5 := h5.size
    try simp only [World.size_alloc, World.size_setCell, World.size_drew, World.heap_drewN] at s5
    have B5_1 := only_next (by first | (with_reducible exact B4_1) | (repeat (first | (with_reducible assumption) | (with_reducible exact B4_1) | (with_reducible exact only_refl _ _) | (with_reducible refine only_drawn ?_ _) | (with_reducible refine only_drew ?_) | (with_reducible refine only_alloc ?_ _) | (with_reducible refine only_setCell ?_ ?_ _) | omega))) h5
    have B5_4 := only_next (by first | (with_reducible exact B4_4) | (repeat (first | (with_reducible assumption) | (with_reducible exact B4_4) | (with_reducible exact only_refl _ _) | (with_reducible refine only_drawn ?_ _) | (with_reducible refine only_drew ?_) | (with_reducible refine only_alloc ?_ _) | (with_reducible refine only_setCell ?_ ?_ _) | omega))) h5
    have B5_5 := h5
    have z5_0 : w.heap.size < w5.heap.size := by omega
    have q5_0 := fun o => only_cell B5_1 (b := w.heap.size) (o := o) (by go_size) (by omega)
    have f5_0 := fun o => only_free B5_1 (b := w.heap.size) (o := o) (by go_size) (by omega)
    have z5_1 : w3.heap.size < w5.heap.size := by omega
    have q5_1 := fun o => only_cell B5_4 (b := w3.heap.size) (o := o) (by go_size) (by omega)
    have f5_1 := fun o => only_free B5_4 (b := w3.heap.size) (o := o) (by go_size) (by omega)
    have z5_2 : w4.heap.size < w5.heap.size := by omega
    have q5_2 := fun o => only_cell B5_5 (b := w4.heap.size) (o := o) (by go_size) (by omega)
    have f5_2 := fun o => only_free B5_5 (b := w4.heap.size) (o := o) (by go_size) (by omega)
    have H5 : World.grownBy w w5 (some b) := only_next (by repeat (first | (with_reducible assumption) | (with_reducible exact H4) | (with_reducible exact only_refl _ _) | (with_reducible refine only_drawn ?_ _) | (with_reducible refine only_drew ?_) | (with_reducible refine only_alloc ?_ _) | (with_reducible refine only_setCell ?_ ?_ _) | omega)) h5
    have C5 := only_cells H5; have F5 := only_frees H5
    go_wp2_with fail
    refine bodyPost_ret (by simp [results, Try.results77, go_sem, *]; try rfl) rfl ?_
    exact ⟨_, _, _, rfl, (by repeat (first | (with_reducible assumption) | (with_reducible refine Cur.alloc ?_ _) | (with_reducible refine Cur.drawn ?_ _) | (with_reducible refine Cur.drew ?_) | (with_reducible refine Cur.set ?_ ?_ _) | omega)), (by repeat (first | (with_reducible assumption) | (with_reducible exact only_refl _ _) | (with_reducible refine only_drawn ?_ _) | (with_reducible refine only_drew ?_) | (with_reducible refine only_alloc ?_ _) | (with_reducible refine only_setCell ?_ ?_ _) | omega))⟩
  · skip
    by_cases hif14 : y = 1
    · subst hif14
      go_wp2_with fail
      refine (spec_l01PickInt w0 a n c b bs (w4.alloc (.cells #[.int .i64 (-1), .int .i64 (1000000), .int .i64 (1000001)] 3)) (some ⟨w4.heap.size, 0, none⟩) 3 3 [-1, 1000000, 1000001] HA.out hs (by repeat (first | (with_reducible assumption) | (with_reducible refine Cur.alloc ?_ _) | (with_reducible refine Cur.drawn ?_ _) | (with_reducible refine Cur.drew ?_) | (with_reducible refine Cur.set ?_ ?_ _) | omega)) (ints_lit _ _ _ 3 _ rfl rfl (by omega) (by simp; try omega)) (by omega) (by intro g o hg; injection hg with hg; injection hg with hg; omega) ).mono ?_
      rintro e w6 ⟨z, z_mem, rfl, hC6, h6⟩
      have s6 := h6.size
      try simp only [World.size_alloc, World.size_setCell, World.size_drew, World.heap_drewN] at s6
      have B6_1 := only_next (by first | (with_reducible exact B4_1) | (repeat (first | (with_reducible assumption) | (with_reducible exact B4_1) | (with_reducible exact only_refl _ _) | (with_reducible refine only_drawn ?_ _) | (with_reducible refine only_drew ?_) | (with_reducible refine only_alloc ?_ _) | (with_reducible refine only_setCell ?_ ?_ _) | omega))) h6
      have B6_4 := only_next (by first | (with_reducible exact B4_4) | (repeat (first | (with_reducible assumption) | (with_reducible exact B4_4) | (with_reducible exact only_refl _ _) | (with_reducible refine only_drawn ?_ _) | (with_reducible refine only_drew ?_) | (with_reducible refine only_alloc ?_ _) | (with_reducible refine only_setCell ?_ ?_ _) | omega))) h6
      have B6_6 := h6
      have z6_0 : w.heap.size < w6.heap.size := by omega
      have q6_0 := fun o => only_cell B6_1 (b := w.heap.size) (o := o) (by go_size) (by omega)
      have f6_0 := fun o => only_free B6_1 (b := w.heap.size) (o := o) (by go_size) (by omega)
      have z6_1 : w3.heap.size < w6.heap.size := by omega
      have q6_1 := fun o => only_cell B6_4 (b := w3.heap.size) (o := o) (by go_size) (by omega)
      have f6_1 := fun o => only_free B6_4 (b := w3.heap.size) (o := o) (by go_size) (by omega)
      have z6_2 : w4.heap.size < w6.heap.size := by omega
      have q6_2 := fun o => only_cell B6_6 (b := w4.heap.size) (o := o) (by go_size) (by omega)
      have f6_2 := fun o => only_free B6_6 (b := w4.heap.size) (o := o) (by go_size) (by omega)
      have H6 : World.grownBy w w6 (some b) := only_next (by repeat (first | (with_reducible assumption) | (with_reducible exact H4) | (with_reducible exact only_refl _ _) | (with_reducible refine only_drawn ?_ _) | (with_reducible refine only_drew ?_) | (with_reducible refine only_alloc ?_ _) | (with_reducible refine only_setCell ?_ ?_ _) | omega)) h6
      have C6 := only_cells H6; have F6 := only_frees H6
      go_wp2_with fail
      refine bodyPost_ret (by simp [results, Try.results77, go_sem, *]; try rfl) rfl ?_
      exact ⟨_, _, _, rfl, (by repeat (first | (with_reducible assumption) | (with_reducible refine Cur.alloc ?_ _) | (with_reducible refine Cur.drawn ?_ _) | (with_reducible refine Cur.drew ?_) | (with_reducible refine Cur.set ?_ ?_ _) | omega)), (by repeat (first | (with_reducible assumption) | (with_reducible exact only_refl _ _) | (with_reducible refine only_drawn ?_ _) | (with_reducible refine only_drew ?_) | (with_reducible refine only_alloc ?_ _) | (with_reducible refine only_setCell ?_ ?_ _) | omega))⟩
    · skip
      by_cases hif20 : y = 2
      · subst hif20
        go_wp2_with fail
        refine (spec_l01PickInt w0 a n c b bs (w4.alloc (.cells #[.int .i64 (-1), .int .i64 (1000000), .int .i64 (1000001)] 3)) (some ⟨w4.heap.size, 0, none⟩) 3 3 [-1, 1000000, 1000001] HA.out hs (by repeat (first | (with_reducible assumption) | (with_reducible refine Cur.alloc ?_ _) | (with_reducible refine Cur.drawn ?_ _) | (with_reducible refine Cur.drew ?_) | (with_reducible refine Cur.set ?_ ?_ _) | omega)) (ints_lit _ _ _ 3 _ rfl rfl (by omega) (by simp; try omega)) (by omega) (by intro g o hg; injection hg with hg; injection hg with hg; omega) ).mono ?_
        rintro e w7 ⟨z, z_mem, rfl, hC7, h7⟩
        have s7 := h7.size
        try simp only [World.size_alloc, World.size_setCell, World.size_drew, World.heap_drewN] at s7
        have B7_1 := only_next (by first | (with_reducible exact B4_1) | (repeat (first | (with_reducible assumption) | (with_reducible exact B4_1) | (with_reducible exact only_refl _ _) | (with_reducible refine only_drawn ?_ _) | (with_reducible refine only_drew ?_) | (with_reducible refine only_alloc ?_ _) | (with_reducible refine only_setCell ?_ ?_ _) | omega))) h7
        have B7_4 := only_next (by first | (with_reducible exact B4_4) | (repeat (first | (with_reducible assumption) | (with_reducible exact B4_4) | (with_reducible exact only_refl _ _) | (with_reducible refine only_drawn ?_ _) | (with_reducible refine only_drew ?_) | (with_reducible refine only_alloc ?_ _) | (with_reducible refine only_setCell ?_ ?_ _) | omega))) h7
        have B7_7 := h7
        have z7_0 : w.heap.size < w7.heap.size := by omega
        have q7_0 := fun o => only_cell B7_1 (b := w.heap.size) (o := o) (by go_size) (by omega)
        have f7_0 := fun o => only_free B7_1 (b := w.heap.size) (o := o) (by go_size) (by omega)
        have z7_1 : w3.heap.size < w7.heap.size := by omega
        have q7_1 := fun o => only_cell B7_4 (b := w3.heap.size) (o := o) (by go_size) (by omega)
        have f7_1 := fun o => only_free B7_4 (b := w3.heap.size) (o := o) (by go_size) (by omega)
        have z7_2 : w4.heap.size < w7.heap.size := by omega
        have q7_2 := fun o => only_cell B7_7 (b := w4.heap.size) (o := o) (by go_size) (by omega)
        have f7_2 := fun o => only_free B7_7 (b := w4.heap.size) (o := o) (by go_size) (by omega)
        have H7 : World.grownBy w w7 (some b) := only_next (by repeat (first | (with_reducible assumption) | (with_reducible exact H4) | (with_reducible exact only_refl _ _) | (with_reducible refine only_drawn ?_ _) | (with_reducible refine only_drew ?_) | (with_reducible refine only_alloc ?_ _) | (with_reducible refine only_setCell ?_ ?_ _) | omega)) h7
        have C7 := only_cells H7; have F7 := only_frees H7
        go_wp2_with fail
        refine bodyPost_ret (by simp [results, Try.results77, go_sem, *]; try rfl) rfl ?_
        exact ⟨_, _, _, rfl, (by repeat (first | (with_reducible assumption) | (with_reducible refine Cur.alloc ?_ _) | (with_reducible refine Cur.drawn ?_ _) | (with_reducible refine Cur.drew ?_) | (with_reducible refine Cur.set ?_ ?_ _) | omega)), (by repeat (first | (with_reducible assumption) | (with_reducible exact only_refl _ _) | (with_reducible refine only_drawn ?_ _) | (with_reducible refine only_drew ?_) | (with_reducible refine only_alloc ?_ _) | (with_reducible refine only_setCell ?_ ?_ _) | omega))⟩
      · skip
        go_wp2_with fail
        refine bodyPost_ret (by simp [results, Try.results77, go_sem, *]; try rfl) rfl ?_
        exact ⟨_, _, _, rfl, (by repeat (first | (with_reducible assumption) | (with_reducible refine Cur.alloc ?_ _) | (with_reducible refine Cur.drawn ?_ _) | (with_reducible refine Cur.drew ?_) | (with_reducible refine Cur.set ?_ ?_ _) | omega)), (by repeat (first | (with_reducible assumption) | (with_reducible exact only_refl _ _) | (with_reducible refine only_drawn ?_ _) | (with_reducible refine only_drew ?_) | (with_reducible refine only_alloc ?_ _) | (with_reducible refine only_setCell ?_ ?_ _) | omega))⟩
end Go.Proofs.Ytlaoeaecbdmebaa
