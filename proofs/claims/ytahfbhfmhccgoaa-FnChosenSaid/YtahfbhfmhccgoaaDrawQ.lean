/- The drawn requests with odd fields. -/
import Derived.Test.YtahfbhfmhccgoaaDrawGeo
set_option linter.unusedSimpArgs false
set_option linter.unusedVariables false
namespace Go.Proofs.Ytahfbhfmhccgoaa
open Go.RowKit Go.ChangeShapes Go.WideShapes Go.ChangeAt Go.Joins Go.Deep
open Go.ChangeMaps (open_string shut_string)
set_option maxRecDepth 100000 in
set_option maxHeartbeats 1000000 in
theorem spec_l02Any (w0 : World) (a : Option Addr) (n c b : Nat) (bs : List Int) (w : World) (ha : IsInts .u8 w0 a n c bs) (hs : n ≤ 1048576) (hC0 : Cur w0 a n c b w) :
    Calls Try.prog 143 #[.pointer (some ⟨b, 0, none⟩)] w (Drew w0 a n c b w (-9223372036854775808) 9223372036854775807) := by
  have HA := hide ha
  clear ha
  have hlb := hC0.lt
  have hwb : w0.heap.size ≤ b := by obtain ⟨_, _, _, _, _, h⟩ := hC0; exact h
  go_enter Try.func143, Try.ntmps143
  go_wp2_with fail
  refine (spec_l01Once w0 a n c b bs _ (8) HA.out hs (by omega) (by repeat (first | (with_reducible assumption) | (with_reducible refine Cur.alloc ?_ _) | (with_reducible refine Cur.drawn ?_ _) | (with_reducible refine Cur.drew ?_) | (with_reducible refine Cur.set ?_ ?_ _) | omega)) ).mono ?_
  rintro e w1 ⟨y, rfl, hC1, h1⟩
  have s1 := h1.size
  try simp only [World.size_alloc, World.size_setCell, World.size_drew, World.heap_drewN] at s1
  have H1 : World.grownBy w w1 (some b) := only_next (by repeat (first | (with_reducible assumption) | (with_reducible exact only_refl _ _) | (with_reducible refine only_drawn ?_ _) | (with_reducible refine only_drew ?_) | (with_reducible refine only_alloc ?_ _) | (with_reducible refine only_setCell ?_ ?_ _) | omega)) h1
  have C1 := only_cells H1; have F1 := only_frees H1
  by_cases hif3 : y = true
  · subst hif3
    go_wp2_with fail
    refine (spec_l01PickInt w0 a n c b bs (w1.alloc (.cells #[.int .i64 (-1), .int .i64 (4294967296), .int .i64 (9223372036854775807), .int .i64 (-9223372036854775808)] 3)) (some ⟨w1.heap.size, 0, none⟩) 4 4 [-1, 4294967296, 9223372036854775807, -9223372036854775808] HA.out hs (by repeat (first | (with_reducible assumption) | (with_reducible refine Cur.alloc ?_ _) | (with_reducible refine Cur.drawn ?_ _) | (with_reducible refine Cur.drew ?_) | (with_reducible refine Cur.set ?_ ?_ _) | omega)) (ints_lit _ _ _ 4 _ rfl rfl (by omega) (by simp; try omega)) (by omega) (by intro g o hg; injection hg with hg; injection hg with hg; omega) ).mono ?_
    rintro e w2 ⟨z, z_mem, rfl, hC2, h2⟩
    have s2 := h2.size
    try simp only [World.size_alloc, World.size_setCell, World.size_drew, World.heap_drewN] at s2
    have B2_2 := h2
    have z2_0 : w1.heap.size < w2.heap.size := by omega
    have q2_0 := fun o => only_cell B2_2 (b := w1.heap.size) (o := o) (by go_size) (by omega)
    have f2_0 := fun o => only_free B2_2 (b := w1.heap.size) (o := o) (by go_size) (by omega)
    have H2 : World.grownBy w w2 (some b) := only_next (by repeat (first | (with_reducible assumption) | (with_reducible exact H1) | (with_reducible exact only_refl _ _) | (with_reducible refine only_drawn ?_ _) | (with_reducible refine only_drew ?_) | (with_reducible refine only_alloc ?_ _) | (with_reducible refine only_setCell ?_ ?_ _) | omega)) h2
    have C2 := only_cells H2; have F2 := only_frees H2
    go_wp2_with fail
    go_ret
    exact ⟨z, by simp at z_mem; omega, by simp at z_mem; omega, rfl, (by repeat (first | (with_reducible assumption) | (with_reducible refine Cur.alloc ?_ _) | (with_reducible refine Cur.drawn ?_ _) | (with_reducible refine Cur.drew ?_) | (with_reducible refine Cur.set ?_ ?_ _) | omega)), (by repeat (first | (with_reducible assumption) | (with_reducible exact only_refl _ _) | (with_reducible refine only_drawn ?_ _) | (with_reducible refine only_drew ?_) | (with_reducible refine only_alloc ?_ _) | (with_reducible refine only_setCell ?_ ?_ _) | omega))⟩
  · skip
    obtain rfl : y = false := by simpa using (by assumption : ¬ y = true)
    go_wp2_with fail
    refine (spec_l02Word w0 a n c b bs _ HA.out hs (by repeat (first | (with_reducible assumption) | (with_reducible refine Cur.alloc ?_ _) | (with_reducible refine Cur.drawn ?_ _) | (with_reducible refine Cur.drew ?_) | (with_reducible refine Cur.set ?_ ?_ _) | omega))).mono ?_
    rintro e w3 ⟨d, d0, d1, rfl, hC3, h3⟩
    have s3 := h3.size
    try simp only [World.size_alloc, World.size_setCell, World.size_drew, World.heap_drewN] at s3
    have H3 : World.grownBy w w3 (some b) := only_next (by repeat (first | (with_reducible assumption) | (with_reducible exact H1) | (with_reducible exact only_refl _ _) | (with_reducible refine only_drawn ?_ _) | (with_reducible refine only_drew ?_) | (with_reducible refine only_alloc ?_ _) | (with_reducible refine only_setCell ?_ ?_ _) | omega)) h3
    have C3 := only_cells H3; have F3 := only_frees H3
    go_wp2_with fail
    go_ret
    exact ⟨d, by omega, by omega, rfl, (by repeat (first | (with_reducible assumption) | (with_reducible refine Cur.alloc ?_ _) | (with_reducible refine Cur.drawn ?_ _) | (with_reducible refine Cur.drew ?_) | (with_reducible refine Cur.set ?_ ?_ _) | omega)), (by repeat (first | (with_reducible assumption) | (with_reducible exact only_refl _ _) | (with_reducible refine only_drawn ?_ _) | (with_reducible refine only_drew ?_) | (with_reducible refine only_alloc ?_ _) | (with_reducible refine only_setCell ?_ ?_ _) | omega))⟩
def DrewAnyRq (w0 : World) (a : Option Addr) (n c b : Nat) (w : World) (e : Ending) (w' : World) : Prop :=
  ∃ (i t l : Int) (wr : Bool) (d q : Int), e = .returned (.agg #[.int .i64 i, .int .i64 t, .int .i64 l, .bool wr, .int .i64 d, .int .i64 q]) ∧ Cur w0 a n c b w' ∧ w.grownBy w' (some b)
set_option maxRecDepth 100000 in
set_option maxHeartbeats 1000000 in
theorem spec_l19AnyReq (w0 : World) (a : Option Addr) (n c b : Nat) (bs : List Int) (w : World) (lines : Int) (ha : IsInts .u8 w0 a n c bs) (hs : n ≤ 1048576) (hl0 : 0 ≤ lines) (hl : lines ≤ 1000000) (hC0 : Cur w0 a n c b w) :
    Calls Try.prog 120 #[.pointer (some ⟨b, 0, none⟩), .int .i64 lines] w (DrewAnyRq w0 a n c b w) := by
  have HA := hide ha
  clear ha
  have hlb := hC0.lt
  have hwb : w0.heap.size ≤ b := by obtain ⟨_, _, _, _, _, h⟩ := hC0; exact h
  go_enter Try.func120, Try.ntmps120
  go_wp2_with fail
  refine (spec_l19Req w0 a n c b bs _ lines HA.out hs hl (by repeat (first | (with_reducible assumption) | (with_reducible refine Cur.alloc ?_ _) | (with_reducible refine Cur.drawn ?_ _) | (with_reducible refine Cur.drew ?_) | (with_reducible refine Cur.set ?_ ?_ _) | omega))).mono ?_
  rintro e w1 ⟨ri, rt, rl, rw, rd, rq, _, _, _, _, _, _, _, _, _, _, rfl, hC1, h1⟩
  have s1 := h1.size
  try simp only [World.size_alloc, World.size_setCell, World.size_drew, World.heap_drewN] at s1
  have B1_1 := h1
  have z1_0 : w.heap.size < w1.heap.size := by omega
  have q1_0 := fun o => only_cell B1_1 (b := w.heap.size) (o := o) (by go_size) (by omega)
  have f1_0 := fun o => only_free B1_1 (b := w.heap.size) (o := o) (by go_size) (by omega)
  have H1 : World.grownBy w w1 (some b) := only_next (by repeat (first | (with_reducible assumption) | (with_reducible exact only_refl _ _) | (with_reducible refine only_drawn ?_ _) | (with_reducible refine only_drew ?_) | (with_reducible refine only_alloc ?_ _) | (with_reducible refine only_setCell ?_ ?_ _) | omega)) h1
  have C1 := only_cells H1; have F1 := only_frees H1
  go_wp2_with fail
  refine (spec_l01Below w0 a n c b bs _ (16) HA.out hs (by omega) (by repeat (first | (with_reducible assumption) | (with_reducible refine Cur.alloc ?_ _) | (with_reducible refine Cur.drawn ?_ _) | (with_reducible refine Cur.drew ?_) | (with_reducible refine Cur.set ?_ ?_ _) | omega)) ).mono ?_
  rintro e w2 ⟨y, y_lo, y_hi, rfl, hC2, h2⟩
  have s2 := h2.size
  try simp only [World.size_alloc, World.size_setCell, World.size_drew, World.heap_drewN] at s2
  have B2_1 := only_next (by first | (with_reducible exact B1_1) | (repeat (first | (with_reducible assumption) | (with_reducible exact B1_1) | (with_reducible exact only_refl _ _) | (with_reducible refine only_drawn ?_ _) | (with_reducible refine only_drew ?_) | (with_reducible refine only_alloc ?_ _) | (with_reducible refine only_setCell ?_ ?_ _) | omega))) h2
  have B2_2 := h2
  have z2_0 : w.heap.size < w2.heap.size := by omega
  have q2_0 := fun o => only_cell B2_1 (b := w.heap.size) (o := o) (by go_size) (by omega)
  have f2_0 := fun o => only_free B2_1 (b := w.heap.size) (o := o) (by go_size) (by omega)
  have z2_1 : w1.heap.size < w2.heap.size := by omega
  have q2_1 := fun o => only_cell B2_2 (b := w1.heap.size) (o := o) (by go_size) (by omega)
  have f2_1 := fun o => only_free B2_2 (b := w1.heap.size) (o := o) (by go_size) (by omega)
  have H2 : World.grownBy w w2 (some b) := only_next (by repeat (first | (with_reducible assumption) | (with_reducible exact H1) | (with_reducible exact only_refl _ _) | (with_reducible refine only_drawn ?_ _) | (with_reducible refine only_drew ?_) | (with_reducible refine only_alloc ?_ _) | (with_reducible refine only_setCell ?_ ?_ _) | omega)) h2
  have C2 := only_cells H2; have F2 := only_frees H2
  by_cases hif6 : y = 0
  · subst hif6
    go_wp2_with fail
    refine (spec_l01PickInt w0 a n c b bs (w2.alloc (.cells #[.int .i64 (0), .int .i64 (-1), .int .i64 (100000), .int .i64 (100001)] 3)) (some ⟨w2.heap.size, 0, none⟩) 4 4 [0, -1, 100000, 100001] HA.out hs (by repeat (first | (with_reducible assumption) | (with_reducible refine Cur.alloc ?_ _) | (with_reducible refine Cur.drawn ?_ _) | (with_reducible refine Cur.drew ?_) | (with_reducible refine Cur.set ?_ ?_ _) | omega)) (ints_lit _ _ _ 4 _ rfl rfl (by omega) (by simp; try omega)) (by omega) (by intro g o hg; injection hg with hg; injection hg with hg; omega) ).mono ?_
    rintro e w3 ⟨z, z_mem, rfl, hC3, h3⟩
    have s3 := h3.size
    try simp only [World.size_alloc, World.size_setCell, World.size_drew, World.heap_drewN] at s3
    have B3_1 := only_next (by first | (with_reducible exact B2_1) | (repeat (first | (with_reducible assumption) | (with_reducible exact B2_1) | (with_reducible exact only_refl _ _) | (with_reducible refine only_drawn ?_ _) | (with_reducible refine only_drew ?_) | (with_reducible refine only_alloc ?_ _) | (with_reducible refine only_setCell ?_ ?_ _) | omega))) h3
    have B3_2 := only_next (by first | (with_reducible exact B2_2) | (repeat (first | (with_reducible assumption) | (with_reducible exact B2_2) | (with_reducible exact only_refl _ _) | (with_reducible refine only_drawn ?_ _) | (with_reducible refine only_drew ?_) | (with_reducible refine only_alloc ?_ _) | (with_reducible refine only_setCell ?_ ?_ _) | omega))) h3
    have B3_3 := h3
    have z3_0 : w.heap.size < w3.heap.size := by omega
    have q3_0 := fun o => only_cell B3_1 (b := w.heap.size) (o := o) (by go_size) (by omega)
    have f3_0 := fun o => only_free B3_1 (b := w.heap.size) (o := o) (by go_size) (by omega)
    have z3_1 : w1.heap.size < w3.heap.size := by omega
    have q3_1 := fun o => only_cell B3_2 (b := w1.heap.size) (o := o) (by go_size) (by omega)
    have f3_1 := fun o => only_free B3_2 (b := w1.heap.size) (o := o) (by go_size) (by omega)
    have z3_2 : w2.heap.size < w3.heap.size := by omega
    have q3_2 := fun o => only_cell B3_3 (b := w2.heap.size) (o := o) (by go_size) (by omega)
    have f3_2 := fun o => only_free B3_3 (b := w2.heap.size) (o := o) (by go_size) (by omega)
    have H3 : World.grownBy w w3 (some b) := only_next (by repeat (first | (with_reducible assumption) | (with_reducible exact H2) | (with_reducible exact only_refl _ _) | (with_reducible refine only_drawn ?_ _) | (with_reducible refine only_drew ?_) | (with_reducible refine only_alloc ?_ _) | (with_reducible refine only_setCell ?_ ?_ _) | omega)) h3
    have C3 := only_cells H3; have F3 := only_frees H3
    go_wp2_with fail
    refine bodyPost_ret (by simp [results, Try.results120, go_sem, *]; try rfl) rfl ?_
    exact ⟨_, _, _, _, _, _, rfl, (by repeat (first | (with_reducible assumption) | (with_reducible refine Cur.alloc ?_ _) | (with_reducible refine Cur.drawn ?_ _) | (with_reducible refine Cur.drew ?_) | (with_reducible refine Cur.set ?_ ?_ _) | omega)), (by repeat (first | (with_reducible assumption) | (with_reducible exact only_refl _ _) | (with_reducible refine only_drawn ?_ _) | (with_reducible refine only_drew ?_) | (with_reducible refine only_alloc ?_ _) | (with_reducible refine only_setCell ?_ ?_ _) | omega))⟩
  · skip
    by_cases hif12 : y = 1
    · subst hif12
      go_wp2_with fail
      refine (spec_l01PickInt w0 a n c b bs (w2.alloc (.cells #[.int .i64 (-1), .int .i64 (3), .int .i64 (4)] 3)) (some ⟨w2.heap.size, 0, none⟩) 3 3 [-1, 3, 4] HA.out hs (by repeat (first | (with_reducible assumption) | (with_reducible refine Cur.alloc ?_ _) | (with_reducible refine Cur.drawn ?_ _) | (with_reducible refine Cur.drew ?_) | (with_reducible refine Cur.set ?_ ?_ _) | omega)) (ints_lit _ _ _ 3 _ rfl rfl (by omega) (by simp; try omega)) (by omega) (by intro g o hg; injection hg with hg; injection hg with hg; omega) ).mono ?_
      rintro e w4 ⟨z, z_mem, rfl, hC4, h4⟩
      have s4 := h4.size
      try simp only [World.size_alloc, World.size_setCell, World.size_drew, World.heap_drewN] at s4
      have B4_1 := only_next (by first | (with_reducible exact B2_1) | (repeat (first | (with_reducible assumption) | (with_reducible exact B2_1) | (with_reducible exact only_refl _ _) | (with_reducible refine only_drawn ?_ _) | (with_reducible refine only_drew ?_) | (with_reducible refine only_alloc ?_ _) | (with_reducible refine only_setCell ?_ ?_ _) | omega))) h4
      have B4_2 := only_next (by first | (with_reducible exact B2_2) | (repeat (first | (with_reducible assumption) | (with_reducible exact B2_2) | (with_reducible exact only_refl _ _) | (with_reducible refine only_drawn ?_ _) | (with_reducible refine only_drew ?_) | (with_reducible refine only_alloc ?_ _) | (with_reducible refine only_setCell ?_ ?_ _) | omega))) h4
      have B4_4 := h4
      have z4_0 : w.heap.size < w4.heap.size := by omega
      have q4_0 := fun o => only_cell B4_1 (b := w.heap.size) (o := o) (by go_size) (by omega)
      have f4_0 := fun o => only_free B4_1 (b := w.heap.size) (o := o) (by go_size) (by omega)
      have z4_1 : w1.heap.size < w4.heap.size := by omega
      have q4_1 := fun o => only_cell B4_2 (b := w1.heap.size) (o := o) (by go_size) (by omega)
      have f4_1 := fun o => only_free B4_2 (b := w1.heap.size) (o := o) (by go_size) (by omega)
      have z4_2 : w2.heap.size < w4.heap.size := by omega
      have q4_2 := fun o => only_cell B4_4 (b := w2.heap.size) (o := o) (by go_size) (by omega)
      have f4_2 := fun o => only_free B4_4 (b := w2.heap.size) (o := o) (by go_size) (by omega)
      have H4 : World.grownBy w w4 (some b) := only_next (by repeat (first | (with_reducible assumption) | (with_reducible exact H2) | (with_reducible exact only_refl _ _) | (with_reducible refine only_drawn ?_ _) | (with_reducible refine only_drew ?_) | (with_reducible refine only_alloc ?_ _) | (with_reducible refine only_setCell ?_ ?_ _) | omega)) h4
      have C4 := only_cells H4; have F4 := only_frees H4
      go_wp2_with fail
      refine bodyPost_ret (by simp [results, Try.results120, go_sem, *]; try rfl) rfl ?_
      exact ⟨_, _, _, _, _, _, rfl, (by repeat (first | (with_reducible assumption) | (with_reducible refine Cur.alloc ?_ _) | (with_reducible refine Cur.drawn ?_ _) | (with_reducible refine Cur.drew ?_) | (with_reducible refine Cur.set ?_ ?_ _) | omega)), (by repeat (first | (with_reducible assumption) | (with_reducible exact only_refl _ _) | (with_reducible refine only_drawn ?_ _) | (with_reducible refine only_drew ?_) | (with_reducible refine only_alloc ?_ _) | (with_reducible refine only_setCell ?_ ?_ _) | omega))⟩
    · skip
      by_cases hif18 : y = 2
      · subst hif18
        go_wp2_with fail
        refine (spec_l01PickInt w0 a n c b bs (w2.alloc (.cells #[.int .i64 (-1), .int .i64 (lines), .int .i64 (9223372036854775807)] 3)) (some ⟨w2.heap.size, 0, none⟩) 3 3 [-1, lines, 9223372036854775807] HA.out hs (by repeat (first | (with_reducible assumption) | (with_reducible refine Cur.alloc ?_ _) | (with_reducible refine Cur.drawn ?_ _) | (with_reducible refine Cur.drew ?_) | (with_reducible refine Cur.set ?_ ?_ _) | omega)) (ints_lit _ _ _ 3 _ rfl rfl (by omega) (by simp; try omega)) (by omega) (by intro g o hg; injection hg with hg; injection hg with hg; omega) ).mono ?_
        rintro e w5 ⟨z, z_mem, rfl, hC5, h5⟩
        have s5 := h5.size
        try simp only [World.size_alloc, World.size_setCell, World.size_drew, World.heap_drewN] at s5
        have B5_1 := only_next (by first | (with_reducible exact B2_1) | (repeat (first | (with_reducible assumption) | (with_reducible exact B2_1) | (with_reducible exact only_refl _ _) | (with_reducible refine only_drawn ?_ _) | (with_reducible refine only_drew ?_) | (with_reducible refine only_alloc ?_ _) | (with_reducible refine only_setCell ?_ ?_ _) | omega))) h5
        have B5_2 := only_next (by first | (with_reducible exact B2_2) | (repeat (first | (with_reducible assumption) | (with_reducible exact B2_2) | (with_reducible exact only_refl _ _) | (with_reducible refine only_drawn ?_ _) | (with_reducible refine only_drew ?_) | (with_reducible refine only_alloc ?_ _) | (with_reducible refine only_setCell ?_ ?_ _) | omega))) h5
        have B5_5 := h5
        have z5_0 : w.heap.size < w5.heap.size := by omega
        have q5_0 := fun o => only_cell B5_1 (b := w.heap.size) (o := o) (by go_size) (by omega)
        have f5_0 := fun o => only_free B5_1 (b := w.heap.size) (o := o) (by go_size) (by omega)
        have z5_1 : w1.heap.size < w5.heap.size := by omega
        have q5_1 := fun o => only_cell B5_2 (b := w1.heap.size) (o := o) (by go_size) (by omega)
        have f5_1 := fun o => only_free B5_2 (b := w1.heap.size) (o := o) (by go_size) (by omega)
        have z5_2 : w2.heap.size < w5.heap.size := by omega
        have q5_2 := fun o => only_cell B5_5 (b := w2.heap.size) (o := o) (by go_size) (by omega)
        have f5_2 := fun o => only_free B5_5 (b := w2.heap.size) (o := o) (by go_size) (by omega)
        have H5 : World.grownBy w w5 (some b) := only_next (by repeat (first | (with_reducible assumption) | (with_reducible exact H2) | (with_reducible exact only_refl _ _) | (with_reducible refine only_drawn ?_ _) | (with_reducible refine only_drew ?_) | (with_reducible refine only_alloc ?_ _) | (with_reducible refine only_setCell ?_ ?_ _) | omega)) h5
        have C5 := only_cells H5; have F5 := only_frees H5
        go_wp2_with fail
        refine bodyPost_ret (by simp [results, Try.results120, go_sem, *]; try rfl) rfl ?_
        exact ⟨_, _, _, _, _, _, rfl, (by repeat (first | (with_reducible assumption) | (with_reducible refine Cur.alloc ?_ _) | (with_reducible refine Cur.drawn ?_ _) | (with_reducible refine Cur.drew ?_) | (with_reducible refine Cur.set ?_ ?_ _) | omega)), (by repeat (first | (with_reducible assumption) | (with_reducible exact only_refl _ _) | (with_reducible refine only_drawn ?_ _) | (with_reducible refine only_drew ?_) | (with_reducible refine only_alloc ?_ _) | (with_reducible refine only_setCell ?_ ?_ _) | omega))⟩
      · skip
        by_cases hif24 : y = 3
        · subst hif24
          go_wp2_with fail
          refine (spec_l02Any w0 a n c b bs _ HA.out hs (by repeat (first | (with_reducible assumption) | (with_reducible refine Cur.alloc ?_ _) | (with_reducible refine Cur.drawn ?_ _) | (with_reducible refine Cur.drew ?_) | (with_reducible refine Cur.set ?_ ?_ _) | omega))).mono ?_
          rintro e w6 ⟨d, d0, d1, rfl, hC6, h6⟩
          have s6 := h6.size
          try simp only [World.size_alloc, World.size_setCell, World.size_drew, World.heap_drewN] at s6
          have B6_1 := only_next (by first | (with_reducible exact B2_1) | (repeat (first | (with_reducible assumption) | (with_reducible exact B2_1) | (with_reducible exact only_refl _ _) | (with_reducible refine only_drawn ?_ _) | (with_reducible refine only_drew ?_) | (with_reducible refine only_alloc ?_ _) | (with_reducible refine only_setCell ?_ ?_ _) | omega))) h6
          have B6_2 := only_next (by first | (with_reducible exact B2_2) | (repeat (first | (with_reducible assumption) | (with_reducible exact B2_2) | (with_reducible exact only_refl _ _) | (with_reducible refine only_drawn ?_ _) | (with_reducible refine only_drew ?_) | (with_reducible refine only_alloc ?_ _) | (with_reducible refine only_setCell ?_ ?_ _) | omega))) h6
          have z6_0 : w.heap.size < w6.heap.size := by omega
          have q6_0 := fun o => only_cell B6_1 (b := w.heap.size) (o := o) (by go_size) (by omega)
          have f6_0 := fun o => only_free B6_1 (b := w.heap.size) (o := o) (by go_size) (by omega)
          have z6_1 : w1.heap.size < w6.heap.size := by omega
          have q6_1 := fun o => only_cell B6_2 (b := w1.heap.size) (o := o) (by go_size) (by omega)
          have f6_1 := fun o => only_free B6_2 (b := w1.heap.size) (o := o) (by go_size) (by omega)
          have H6 : World.grownBy w w6 (some b) := only_next (by repeat (first | (with_reducible assumption) | (with_reducible exact H2) | (with_reducible exact only_refl _ _) | (with_reducible refine only_drawn ?_ _) | (with_reducible refine only_drew ?_) | (with_reducible refine only_alloc ?_ _) | (with_reducible refine only_setCell ?_ ?_ _) | omega)) h6
          have C6 := only_cells H6; have F6 := only_frees H6
          go_wp2_with fail
          refine bodyPost_ret (by simp [results, Try.results120, go_sem, *]; try rfl) rfl ?_
          exact ⟨_, _, _, _, _, _, rfl, (by repeat (first | (with_reducible assumption) | (with_reducible refine Cur.alloc ?_ _) | (with_reducible refine Cur.drawn ?_ _) | (with_reducible refine Cur.drew ?_) | (with_reducible refine Cur.set ?_ ?_ _) | omega)), (by repeat (first | (with_reducible assumption) | (with_reducible exact only_refl _ _) | (with_reducible refine only_drawn ?_ _) | (with_reducible refine only_drew ?_) | (with_reducible refine only_alloc ?_ _) | (with_reducible refine only_setCell ?_ ?_ _) | omega))⟩
        · skip
          by_cases hif30 : y = 4
          · subst hif30
            go_wp2_with fail
            refine (spec_l01PickInt w0 a n c b bs (w2.alloc (.cells #[.int .i64 (-1), .int .i64 (1000000), .int .i64 (1000001)] 3)) (some ⟨w2.heap.size, 0, none⟩) 3 3 [-1, 1000000, 1000001] HA.out hs (by repeat (first | (with_reducible assumption) | (with_reducible refine Cur.alloc ?_ _) | (with_reducible refine Cur.drawn ?_ _) | (with_reducible refine Cur.drew ?_) | (with_reducible refine Cur.set ?_ ?_ _) | omega)) (ints_lit _ _ _ 3 _ rfl rfl (by omega) (by simp; try omega)) (by omega) (by intro g o hg; injection hg with hg; injection hg with hg; omega) ).mono ?_
            rintro e w7 ⟨z, z_mem, rfl, hC7, h7⟩
            have s7 := h7.size
            try simp only [World.size_alloc, World.size_setCell, World.size_drew, World.heap_drewN] at s7
            have B7_1 := only_next (by first | (with_reducible exact B2_1) | (repeat (first | (with_reducible assumption) | (with_reducible exact B2_1) | (with_reducible exact only_refl _ _) | (with_reducible refine only_drawn ?_ _) | (with_reducible refine only_drew ?_) | (with_reducible refine only_alloc ?_ _) | (with_reducible refine only_setCell ?_ ?_ _) | omega))) h7
            have B7_2 := only_next (by first | (with_reducible exact B2_2) | (repeat (first | (with_reducible assumption) | (with_reducible exact B2_2) | (with_reducible exact only_refl _ _) | (with_reducible refine only_drawn ?_ _) | (with_reducible refine only_drew ?_) | (with_reducible refine only_alloc ?_ _) | (with_reducible refine only_setCell ?_ ?_ _) | omega))) h7
            have B7_7 := h7
            have z7_0 : w.heap.size < w7.heap.size := by omega
            have q7_0 := fun o => only_cell B7_1 (b := w.heap.size) (o := o) (by go_size) (by omega)
            have f7_0 := fun o => only_free B7_1 (b := w.heap.size) (o := o) (by go_size) (by omega)
            have z7_1 : w1.heap.size < w7.heap.size := by omega
            have q7_1 := fun o => only_cell B7_2 (b := w1.heap.size) (o := o) (by go_size) (by omega)
            have f7_1 := fun o => only_free B7_2 (b := w1.heap.size) (o := o) (by go_size) (by omega)
            have z7_2 : w2.heap.size < w7.heap.size := by omega
            have q7_2 := fun o => only_cell B7_7 (b := w2.heap.size) (o := o) (by go_size) (by omega)
            have f7_2 := fun o => only_free B7_7 (b := w2.heap.size) (o := o) (by go_size) (by omega)
            have H7 : World.grownBy w w7 (some b) := only_next (by repeat (first | (with_reducible assumption) | (with_reducible exact H2) | (with_reducible exact only_refl _ _) | (with_reducible refine only_drawn ?_ _) | (with_reducible refine only_drew ?_) | (with_reducible refine only_alloc ?_ _) | (with_reducible refine only_setCell ?_ ?_ _) | omega)) h7
            have C7 := only_cells H7; have F7 := only_frees H7
            go_wp2_with fail
            refine bodyPost_ret (by simp [results, Try.results120, go_sem, *]; try rfl) rfl ?_
            exact ⟨_, _, _, _, _, _, rfl, (by repeat (first | (with_reducible assumption) | (with_reducible refine Cur.alloc ?_ _) | (with_reducible refine Cur.drawn ?_ _) | (with_reducible refine Cur.drew ?_) | (with_reducible refine Cur.set ?_ ?_ _) | omega)), (by repeat (first | (with_reducible assumption) | (with_reducible exact only_refl _ _) | (with_reducible refine only_drawn ?_ _) | (with_reducible refine only_drew ?_) | (with_reducible refine only_alloc ?_ _) | (with_reducible refine only_setCell ?_ ?_ _) | omega))⟩
          · skip
            go_wp2_with fail
            refine bodyPost_ret (by simp [results, Try.results120, go_sem, *]; try rfl) rfl ?_
            exact ⟨_, _, _, _, _, _, rfl, (by repeat (first | (with_reducible assumption) | (with_reducible refine Cur.alloc ?_ _) | (with_reducible refine Cur.drawn ?_ _) | (with_reducible refine Cur.drew ?_) | (with_reducible refine Cur.set ?_ ?_ _) | omega)), (by repeat (first | (with_reducible assumption) | (with_reducible exact only_refl _ _) | (with_reducible refine only_drawn ?_ _) | (with_reducible refine only_drew ?_) | (with_reducible refine only_alloc ?_ _) | (with_reducible refine only_setCell ?_ ?_ _) | omega))⟩
end Go.Proofs.Ytahfbhfmhccgoaa
