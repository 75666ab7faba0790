/- The drawn geometry, mapping, word, and a drawn request. -/
import Derived.Test.YtahfbhfmhccgoaaRequest
import Derived.Test.YtahfbhfmhccgoaaEyes
import Derived.Test.YtahfbhfmhccgoaaDrawSw
set_option linter.unusedSimpArgs false
set_option linter.unusedVariables false
namespace Go.Proofs.Ytahfbhfmhccgoaa
open Go.RowKit Go.ChangeShapes Go.WideShapes Go.ChangeAt Go.Joins Go.Deep
open Go.ChangeMaps (open_string shut_string)
def DrewGeo (w0 : World) (a : Option Addr) (n c b : Nat) (w : World) (e : Ending) (w' : World) : Prop :=
  ∃ g1 g2 g3 g4 : Int, 1 ≤ g1 ∧ g1 ≤ 2 ∧ 1 ≤ g2 ∧ g2 ≤ 4 ∧ 2 ≤ g3 ∧ g3 ≤ 8 ∧ 1 ≤ g4 ∧ g4 ≤ 4 ∧ e = .returned (.agg #[.int .i64 g1, .int .i64 g2, .int .i64 g3, .int .i64 g4]) ∧ Cur w0 a n c b w' ∧ w.grownBy w' (some b)
set_option maxRecDepth 100000 in
set_option maxHeartbeats 1000000 in
theorem spec_l03Geo (w0 : World) (a : Option Addr) (n c b : Nat) (bs : List Int) (w : World) (ha : IsInts .u8 w0 a n c bs) (hs : n ≤ 1048576) (hC0 : Cur w0 a n c b w) :
    Calls Try.prog 79 #[.pointer (some ⟨b, 0, none⟩)] w (DrewGeo w0 a n c b w) := by
  have HA := hide ha
  clear ha
  have hlb := hC0.lt
  have hwb : w0.heap.size ≤ b := by obtain ⟨_, _, _, _, _, h⟩ := hC0; exact h
  go_enter Try.func79, Try.ntmps79
  go_wp2_with fail
  refine (spec_l01Below w0 a n c b bs _ (2) HA.out hs (by omega) (by repeat (first | (with_reducible assumption) | (with_reducible refine Cur.alloc ?_ _) | (with_reducible refine Cur.drawn ?_ _) | (with_reducible refine Cur.drew ?_) | (with_reducible refine Cur.set ?_ ?_ _) | omega)) ).mono ?_
  rintro e w1 ⟨x, x_lo, x_hi, rfl, hC1, h1⟩
  have s1 := h1.size
  try simp only [World.size_alloc, World.size_setCell, World.size_drew, World.heap_drewN] at s1
  have B1_1 := h1
  have z1_0 : w.heap.size < w1.heap.size := by omega
  have q1_0 := fun o => only_cell B1_1 (b := w.heap.size) (o := o) (by go_size) (by omega)
  have f1_0 := fun o => only_free B1_1 (b := w.heap.size) (o := o) (by go_size) (by omega)
  have H1 : World.grownBy w w1 (some b) := only_next (by repeat (first | (with_reducible assumption) | (with_reducible exact only_refl _ _) | (with_reducible refine only_drawn ?_ _) | (with_reducible refine only_drew ?_) | (with_reducible refine only_alloc ?_ _) | (with_reducible refine only_setCell ?_ ?_ _) | omega)) h1
  have C1 := only_cells H1; have F1 := only_frees H1
  go_wp2_with fail
  refine (spec_l01Below w0 a n c b bs _ (4) HA.out hs (by omega) (by repeat (first | (with_reducible assumption) | (with_reducible refine Cur.alloc ?_ _) | (with_reducible refine Cur.drawn ?_ _) | (with_reducible refine Cur.drew ?_) | (with_reducible refine Cur.set ?_ ?_ _) | omega)) ).mono ?_
  rintro e w2 ⟨y, y_lo, y_hi, rfl, hC2, h2⟩
  have s2 := h2.size
  try simp only [World.size_alloc, World.size_setCell, World.size_drew, World.heap_drewN] at s2
  have B2_1 := only_next (by first | (with_reducible exact B1_1) | (repeat (first | (with_reducible assumption) | (with_reducible exact B1_1) | (with_reducible exact only_refl _ _) | (with_reducible refine only_drawn ?_ _) | (with_reducible refine only_drew ?_) | (with_reducible refine only_alloc ?_ _) | (with_reducible refine only_setCell ?_ ?_ _) | omega))) h2
  have z2_0 : w.heap.size < w2.heap.size := by omega
  have q2_0 := fun o => only_cell B2_1 (b := w.heap.size) (o := o) (by go_size) (by omega)
  have f2_0 := fun o => only_free B2_1 (b := w.heap.size) (o := o) (by go_size) (by omega)
  have H2 : World.grownBy w w2 (some b) := only_next (by repeat (first | (with_reducible assumption) | (with_reducible exact H1) | (with_reducible exact only_refl _ _) | (with_reducible refine only_drawn ?_ _) | (with_reducible refine only_drew ?_) | (with_reducible refine only_alloc ?_ _) | (with_reducible refine only_setCell ?_ ?_ _) | omega)) h2
  have C2 := only_cells H2; have F2 := only_frees H2
  go_wp2_with fail
  refine (spec_l01Below w0 a n c b bs _ (7) HA.out hs (by omega) (by repeat (first | (with_reducible assumption) | (with_reducible refine Cur.alloc ?_ _) | (with_reducible refine Cur.drawn ?_ _) | (with_reducible refine Cur.drew ?_) | (with_reducible refine Cur.set ?_ ?_ _) | omega)) ).mono ?_
  rintro e w3 ⟨z, z_lo, z_hi, rfl, hC3, h3⟩
  have s3 := h3.size
  try simp only [World.size_alloc, World.size_setCell, World.size_drew, World.heap_drewN] at s3
  have B3_1 := only_next (by first | (with_reducible exact B2_1) | (repeat (first | (with_reducible assumption) | (with_reducible exact B2_1) | (with_reducible exact only_refl _ _) | (with_reducible refine only_drawn ?_ _) | (with_reducible refine only_drew ?_) | (with_reducible refine only_alloc ?_ _) | (with_reducible refine only_setCell ?_ ?_ _) | omega))) h3
  have z3_0 : w.heap.size < w3.heap.size := by omega
  have q3_0 := fun o => only_cell B3_1 (b := w.heap.size) (o := o) (by go_size) (by omega)
  have f3_0 := fun o => only_free B3_1 (b := w.heap.size) (o := o) (by go_size) (by omega)
  have H3 : World.grownBy w w3 (some b) := only_next (by repeat (first | (with_reducible assumption) | (with_reducible exact H2) | (with_reducible exact only_refl _ _) | (with_reducible refine only_drawn ?_ _) | (with_reducible refine only_drew ?_) | (with_reducible refine only_alloc ?_ _) | (with_reducible refine only_setCell ?_ ?_ _) | omega)) h3
  have C3 := only_cells H3; have F3 := only_frees H3
  go_wp2_with fail
  refine (spec_l01Below w0 a n c b bs _ (4) HA.out hs (by omega) (by repeat (first | (with_reducible assumption) | (with_reducible refine Cur.alloc ?_ _) | (with_reducible refine Cur.drawn ?_ _) | (with_reducible refine Cur.drew ?_) | (with_reducible refine Cur.set ?_ ?_ _) | omega)) ).mono ?_
  rintro e w4 ⟨u, u_lo, u_hi, rfl, hC4, h4⟩
  have s4 := h4.size
  try simp only [World.size_alloc, World.size_setCell, World.size_drew, World.heap_drewN] at s4
  have B4_1 := only_next (by first | (with_reducible exact B3_1) | (repeat (first | (with_reducible assumption) | (with_reducible exact B3_1) | (with_reducible exact only_refl _ _) | (with_reducible refine only_drawn ?_ _) | (with_reducible refine only_drew ?_) | (with_reducible refine only_alloc ?_ _) | (with_reducible refine only_setCell ?_ ?_ _) | omega))) h4
  have z4_0 : w.heap.size < w4.heap.size := by omega
  have q4_0 := fun o => only_cell B4_1 (b := w.heap.size) (o := o) (by go_size) (by omega)
  have f4_0 := fun o => only_free B4_1 (b := w.heap.size) (o := o) (by go_size) (by omega)
  have H4 : World.grownBy w w4 (some b) := only_next (by repeat (first | (with_reducible assumption) | (with_reducible exact H3) | (with_reducible exact only_refl _ _) | (with_reducible refine only_drawn ?_ _) | (with_reducible refine only_drew ?_) | (with_reducible refine only_alloc ?_ _) | (with_reducible refine only_setCell ?_ ?_ _) | omega)) h4
  have C4 := only_cells H4; have F4 := only_frees H4
  go_wp2_with fail
  refine bodyPost_ret (by simp [results, Try.results79, go_sem, *]; try rfl) rfl ?_
  exact ⟨1 + x, 1 + y, 2 + z, 1 + u, by omega, by omega, by omega, by omega, by omega, by omega, by omega, by omega, rfl, (by repeat (first | (with_reducible assumption) | (with_reducible refine Cur.alloc ?_ _) | (with_reducible refine Cur.drawn ?_ _) | (with_reducible refine Cur.drew ?_) | (with_reducible refine Cur.set ?_ ?_ _) | omega)), (by repeat (first | (with_reducible assumption) | (with_reducible exact only_refl _ _) | (with_reducible refine only_drawn ?_ _) | (with_reducible refine only_drew ?_) | (with_reducible refine only_alloc ?_ _) | (with_reducible refine only_setCell ?_ ?_ _) | omega))⟩
def DrewMap (w0 : World) (a : Option Addr) (n c b : Nat) (w : World) (e : Ending) (w' : World) : Prop :=
  ∃ (o : Int) (h : Bool), 0 ≤ o ∧ o ≤ 2 ∧ e = .returned (.agg #[.int .i64 o, .bool h]) ∧ Cur w0 a n c b w' ∧ w.grownBy w' (some b)
set_option maxRecDepth 100000 in
set_option maxHeartbeats 1000000 in
theorem spec_l04Map (w0 : World) (a : Option Addr) (n c b : Nat) (bs : List Int) (w : World) (ha : IsInts .u8 w0 a n c bs) (hs : n ≤ 1048576) (hC0 : Cur w0 a n c b w) :
    Calls Try.prog 81 #[.pointer (some ⟨b, 0, none⟩)] w (DrewMap w0 a n c b w) := by
  have HA := hide ha
  clear ha
  have hlb := hC0.lt
  have hwb : w0.heap.size ≤ b := by obtain ⟨_, _, _, _, _, h⟩ := hC0; exact h
  go_enter Try.func81, Try.ntmps81
  go_wp2_with fail
  refine (spec_l01Below w0 a n c b bs _ (3) HA.out hs (by omega) (by repeat (first | (with_reducible assumption) | (with_reducible refine Cur.alloc ?_ _) | (with_reducible refine Cur.drawn ?_ _) | (with_reducible refine Cur.drew ?_) | (with_reducible refine Cur.set ?_ ?_ _) | omega)) ).mono ?_
  rintro e w1 ⟨x, x_lo, x_hi, rfl, hC1, h1⟩
  have s1 := h1.size
  try simp only [World.size_alloc, World.size_setCell, World.size_drew, World.heap_drewN] at s1
  have B1_1 := h1
  have z1_0 : w.heap.size < w1.heap.size := by omega
  have q1_0 := fun o => only_cell B1_1 (b := w.heap.size) (o := o) (by go_size) (by omega)
  have f1_0 := fun o => only_free B1_1 (b := w.heap.size) (o := o) (by go_size) (by omega)
  have H1 : World.grownBy w w1 (some b) := only_next (by repeat (first | (with_reducible assumption) | (with_reducible exact only_refl _ _) | (with_reducible refine only_drawn ?_ _) | (with_reducible refine only_drew ?_) | (with_reducible refine only_alloc ?_ _) | (with_reducible refine only_setCell ?_ ?_ _) | omega)) h1
  have C1 := only_cells H1; have F1 := only_frees H1
  go_wp2_with fail
  refine (spec_l01Once w0 a n c b bs _ (2) HA.out hs (by omega) (by repeat (first | (with_reducible assumption) | (with_reducible refine Cur.alloc ?_ _) | (with_reducible refine Cur.drawn ?_ _) | (with_reducible refine Cur.drew ?_) | (with_reducible refine Cur.set ?_ ?_ _) | omega)) ).mono ?_
  rintro e w2 ⟨y, rfl, hC2, h2⟩
  have s2 := h2.size
  try simp only [World.size_alloc, World.size_setCell, World.size_drew, World.heap_drewN] at s2
  have B2_1 := only_next (by first | (with_reducible exact B1_1) | (repeat (first | (with_reducible assumption) | (with_reducible exact B1_1) | (with_reducible exact only_refl _ _) | (with_reducible refine only_drawn ?_ _) | (with_reducible refine only_drew ?_) | (with_reducible refine only_alloc ?_ _) | (with_reducible refine only_setCell ?_ ?_ _) | omega))) h2
  have z2_0 : w.heap.size < w2.heap.size := by omega
  have q2_0 := fun o => only_cell B2_1 (b := w.heap.size) (o := o) (by go_size) (by omega)
  have f2_0 := fun o => only_free B2_1 (b := w.heap.size) (o := o) (by go_size) (by omega)
  have H2 : World.grownBy w w2 (some b) := only_next (by repeat (first | (with_reducible assumption) | (with_reducible exact H1) | (with_reducible exact only_refl _ _) | (with_reducible refine only_drawn ?_ _) | (with_reducible refine only_drew ?_) | (with_reducible refine only_alloc ?_ _) | (with_reducible refine only_setCell ?_ ?_ _) | omega)) h2
  have C2 := only_cells H2; have F2 := only_frees H2
  go_wp2_with fail
  refine bodyPost_ret (by simp [results, Try.results81, go_sem, *]; try rfl) rfl ?_
  exact ⟨x, y, by omega, by omega, rfl, (by repeat (first | (with_reducible assumption) | (with_reducible refine Cur.alloc ?_ _) | (with_reducible refine Cur.drawn ?_ _) | (with_reducible refine Cur.drew ?_) | (with_reducible refine Cur.set ?_ ?_ _) | omega)), (by repeat (first | (with_reducible assumption) | (with_reducible exact only_refl _ _) | (with_reducible refine only_drawn ?_ _) | (with_reducible refine only_drew ?_) | (with_reducible refine only_alloc ?_ _) | (with_reducible refine only_setCell ?_ ?_ _) | omega))⟩
set_option maxRecDepth 100000 in
set_option maxHeartbeats 1000000 in
theorem spec_l02Word (w0 : World) (a : Option Addr) (n c b : Nat) (bs : List Int) (w : World) (ha : IsInts .u8 w0 a n c bs) (hs : n ≤ 1048576) (hC0 : Cur w0 a n c b w) :
    Calls Try.prog 144 #[.pointer (some ⟨b, 0, none⟩)] w (Drew w0 a n c b w 0 4294967295) := by
  have HA := hide ha
  clear ha
  have hlb := hC0.lt
  have hwb : w0.heap.size ≤ b := by obtain ⟨_, _, _, _, _, h⟩ := hC0; exact h
  go_enter Try.func144, Try.ntmps144
  go_wp2_with fail
  refine (spec_l01Below w0 a n c b bs _ (4) HA.out hs (by omega) (by repeat (first | (with_reducible assumption) | (with_reducible refine Cur.alloc ?_ _) | (with_reducible refine Cur.drawn ?_ _) | (with_reducible refine Cur.drew ?_) | (with_reducible refine Cur.set ?_ ?_ _) | omega)) ).mono ?_
  rintro e w1 ⟨y, y_lo, y_hi, rfl, hC1, h1⟩
  have s1 := h1.size
  try simp only [World.size_alloc, World.size_setCell, World.size_drew, World.heap_drewN] at s1
  have H1 : World.grownBy w w1 (some b) := only_next (by repeat (first | (with_reducible assumption) | (with_reducible exact only_refl _ _) | (with_reducible refine only_drawn ?_ _) | (with_reducible refine only_drew ?_) | (with_reducible refine only_alloc ?_ _) | (with_reducible refine only_setCell ?_ ?_ _) | omega)) h1
  have C1 := only_cells H1; have F1 := only_frees H1
  by_cases hif3 : y = 0
  · subst hif3
    go_wp2_with fail
    refine (spec_l01PickInt w0 a n c b bs (w1.alloc (.cells #[.int .i64 (0), .int .i64 (1), .int .i64 (4294967295), .int .i64 (2147483648), .int .i64 (65536), .int .i64 (305419896)] 3)) (some ⟨w1.heap.size, 0, none⟩) 6 6 [0, 1, 4294967295, 2147483648, 65536, 305419896] HA.out hs (by repeat (first | (with_reducible assumption) | (with_reducible refine Cur.alloc ?_ _) | (with_reducible refine Cur.drawn ?_ _) | (with_reducible refine Cur.drew ?_) | (with_reducible refine Cur.set ?_ ?_ _) | omega)) (ints_lit _ _ _ 6 _ rfl rfl (by omega) (by simp; try omega)) (by omega) (by intro g o hg; injection hg with hg; injection hg with hg; omega) ).mono ?_
    rintro e w2 ⟨z, z_mem, rfl, hC2, h2⟩
    have s2 := h2.size
    try simp only [World.size_alloc, World.size_setCell, World.size_drew, World.heap_drewN] at s2
    have B2_2 := h2
    have z2_0 : w1.heap.size < w2.heap.size := by omega
    have q2_0 := fun o => only_cell B2_2 (b := w1.heap.size) (o := o) (by go_size) (by omega)
    have f2_0 := fun o => only_free B2_2 (b := w1.heap.size) (o := o) (by go_size) (by omega)
    have H2 : World.grownBy w w2 (some b) := only_next (by repeat (first | (with_reducible assumption) | (with_reducible exact H1) | (with_reducible exact only_refl _ _) | (with_reducible refine only_drawn ?_ _) | (with_reducible refine only_drew ?_) | (with_reducible refine only_alloc ?_ _) | (with_reducible refine only_setCell ?_ ?_ _) | omega)) h2
    have C2 := only_cells H2; have F2 := only_frees H2
    go_wp2_with fail
    go_ret
    exact ⟨z, by simp at z_mem; omega, by simp at z_mem; omega, rfl, (by repeat (first | (with_reducible assumption) | (with_reducible refine Cur.alloc ?_ _) | (with_reducible refine Cur.drawn ?_ _) | (with_reducible refine Cur.drew ?_) | (with_reducible refine Cur.set ?_ ?_ _) | omega)), (by repeat (first | (with_reducible assumption) | (with_reducible exact only_refl _ _) | (with_reducible refine only_drawn ?_ _) | (with_reducible refine only_drew ?_) | (with_reducible refine only_alloc ?_ _) | (with_reducible refine only_setCell ?_ ?_ _) | omega))⟩
  · skip
    by_cases hif9 : y = 1
    · subst hif9
      go_wp2_with fail
      refine (spec_l01Below w0 a n c b bs _ (200) HA.out hs (by omega) (by repeat (first | (with_reducible assumption) | (with_reducible refine Cur.alloc ?_ _) | (with_reducible refine Cur.drawn ?_ _) | (with_reducible refine Cur.drew ?_) | (with_reducible refine Cur.set ?_ ?_ _) | omega)) ).mono ?_
      rintro e w3 ⟨z, z_lo, z_hi, rfl, hC3, h3⟩
      have s3 := h3.size
      try simp only [World.size_alloc, World.size_setCell, World.size_drew, World.heap_drewN] at s3
      have H3 : World.grownBy w w3 (some b) := only_next (by repeat (first | (with_reducible assumption) | (with_reducible exact H1) | (with_reducible exact only_refl _ _) | (with_reducible refine only_drawn ?_ _) | (with_reducible refine only_drew ?_) | (with_reducible refine only_alloc ?_ _) | (with_reducible refine only_setCell ?_ ?_ _) | omega)) h3
      have C3 := only_cells H3; have F3 := only_frees H3
      go_wp2_with fail
      go_ret
      exact ⟨z, by omega, by omega, rfl, (by repeat (first | (with_reducible assumption) | (with_reducible refine Cur.alloc ?_ _) | (with_reducible refine Cur.drawn ?_ _) | (with_reducible refine Cur.drew ?_) | (with_reducible refine Cur.set ?_ ?_ _) | omega)), (by repeat (first | (with_reducible assumption) | (with_reducible exact only_refl _ _) | (with_reducible refine only_drawn ?_ _) | (with_reducible refine only_drew ?_) | (with_reducible refine only_alloc ?_ _) | (with_reducible refine only_setCell ?_ ?_ _) | omega))⟩
    · skip
      go_wp2_with fail
      refine (spec_l01Below w0 a n c b bs _ (65536) HA.out hs (by omega) (by repeat (first | (with_reducible assumption) | (with_reducible refine Cur.alloc ?_ _) | (with_reducible refine Cur.drawn ?_ _) | (with_reducible refine Cur.drew ?_) | (with_reducible refine Cur.set ?_ ?_ _) | omega)) ).mono ?_
      rintro e w4 ⟨z, z_lo, z_hi, rfl, hC4, h4⟩
      have s4 := h4.size
      try simp only [World.size_alloc, World.size_setCell, World.size_drew, World.heap_drewN] at s4
      have H4 : World.grownBy w w4 (some b) := only_next (by repeat (first | (with_reducible assumption) | (with_reducible exact H1) | (with_reducible exact only_refl _ _) | (with_reducible refine only_drawn ?_ _) | (with_reducible refine only_drew ?_) | (with_reducible refine only_alloc ?_ _) | (with_reducible refine only_setCell ?_ ?_ _) | omega)) h4
      have C4 := only_cells H4; have F4 := only_frees H4
      go_wp2_with fail
      refine (spec_l01Below w0 a n c b bs _ (65536) HA.out hs (by omega) (by repeat (first | (with_reducible assumption) | (with_reducible refine Cur.alloc ?_ _) | (with_reducible refine Cur.drawn ?_ _) | (with_reducible refine Cur.drew ?_) | (with_reducible refine Cur.set ?_ ?_ _) | omega)) ).mono ?_
      rintro e w5 ⟨u, u_lo, u_hi, rfl, hC5, h5⟩
      have s5 := h5.size
      try simp only [World.size_alloc, World.size_setCell, World.size_drew, World.heap_drewN] at s5
      have H5 : World.grownBy w w5 (some b) := only_next (by repeat (first | (with_reducible assumption) | (with_reducible exact H4) | (with_reducible exact only_refl _ _) | (with_reducible refine only_drawn ?_ _) | (with_reducible refine only_drew ?_) | (with_reducible refine only_alloc ?_ _) | (with_reducible refine only_setCell ?_ ?_ _) | omega)) h5
      have C5 := only_cells H5; have F5 := only_frees H5
      go_wp2_with fail
      go_ret
      exact ⟨z * 65536 + u, by omega, by omega, rfl, (by repeat (first | (with_reducible assumption) | (with_reducible refine Cur.alloc ?_ _) | (with_reducible refine Cur.drawn ?_ _) | (with_reducible refine Cur.drew ?_) | (with_reducible refine Cur.set ?_ ?_ _) | omega)), (by repeat (first | (with_reducible assumption) | (with_reducible exact only_refl _ _) | (with_reducible refine only_drawn ?_ _) | (with_reducible refine only_drew ?_) | (with_reducible refine only_alloc ?_ _) | (with_reducible refine only_setCell ?_ ?_ _) | omega))⟩
def DrewRq (w0 : World) (a : Option Addr) (n c b : Nat) (lines : Int) (w : World) (e : Ending) (w' : World) : Prop :=
  ∃ (i t l : Int) (wr : Bool) (d q : Int), 1 ≤ i ∧ i ≤ 60 ∧ 0 ≤ t ∧ t ≤ 2 ∧ 0 ≤ l ∧ l ≤ max (lines - 1) 0 ∧ 0 ≤ d ∧ d ≤ 4294967295 ∧ 0 ≤ q ∧ q ≤ 49 ∧ e = .returned (.agg #[.int .i64 i, .int .i64 t, .int .i64 l, .bool wr, .int .i64 d, .int .i64 q]) ∧ Cur w0 a n c b w' ∧ w.grownBy w' (some b)
set_option maxRecDepth 100000 in
set_option maxHeartbeats 1000000 in
theorem spec_l19Req (w0 : World) (a : Option Addr) (n c b : Nat) (bs : List Int) (w : World) (lines : Int) (ha : IsInts .u8 w0 a n c bs) (hs : n ≤ 1048576) (hl : lines ≤ 1000000) (hC0 : Cur w0 a n c b w) :
    Calls Try.prog 121 #[.pointer (some ⟨b, 0, none⟩), .int .i64 lines] w (DrewRq w0 a n c b lines w) := by
  have HA := hide ha
  clear ha
  have hlb := hC0.lt
  have hwb : w0.heap.size ≤ b := by obtain ⟨_, _, _, _, _, h⟩ := hC0; exact h
  go_enter Try.func121, Try.ntmps121
  go_wp2_with fail
  refine (spec_l01Below w0 a n c b bs _ (60) HA.out hs (by omega) (by repeat (first | (with_reducible assumption) | (with_reducible refine Cur.alloc ?_ _) | (with_reducible refine Cur.drawn ?_ _) | (with_reducible refine Cur.drew ?_) | (with_reducible refine Cur.set ?_ ?_ _) | omega)) ).mono ?_
  rintro e w1 ⟨x, x_lo, x_hi, rfl, hC1, h1⟩
  have s1 := h1.size
  try simp only [World.size_alloc, World.size_setCell, World.size_drew, World.heap_drewN] at s1
  have B1_1 := h1
  have z1_0 : w.heap.size < w1.heap.size := by omega
  have q1_0 := fun o => only_cell B1_1 (b := w.heap.size) (o := o) (by go_size) (by omega)
  have f1_0 := fun o => only_free B1_1 (b := w.heap.size) (o := o) (by go_size) (by omega)
  have H1 : World.grownBy w w1 (some b) := only_next (by repeat (first | (with_reducible assumption) | (with_reducible exact only_refl _ _) | (with_reducible refine only_drawn ?_ _) | (with_reducible refine only_drew ?_) | (with_reducible refine only_alloc ?_ _) | (with_reducible refine only_setCell ?_ ?_ _) | omega)) h1
  have C1 := only_cells H1; have F1 := only_frees H1
  go_wp2_with fail
  refine (spec_l01Below w0 a n c b bs _ (3) HA.out hs (by omega) (by repeat (first | (with_reducible assumption) | (with_reducible refine Cur.alloc ?_ _) | (with_reducible refine Cur.drawn ?_ _) | (with_reducible refine Cur.drew ?_) | (with_reducible refine Cur.set ?_ ?_ _) | omega)) ).mono ?_
  rintro e w2 ⟨t, t_lo, t_hi, rfl, hC2, h2⟩
  have s2 := h2.size
  try simp only [World.size_alloc, World.size_setCell, World.size_drew, World.heap_drewN] at s2
  have B2_1 := only_next (by first | (with_reducible exact B1_1) | (repeat (first | (with_reducible assumption) | (with_reducible exact B1_1) | (with_reducible exact only_refl _ _) | (with_reducible refine only_drawn ?_ _) | (with_reducible refine only_drew ?_) | (with_reducible refine only_alloc ?_ _) | (with_reducible refine only_setCell ?_ ?_ _) | omega))) h2
  have z2_0 : w.heap.size < w2.heap.size := by omega
  have q2_0 := fun o => only_cell B2_1 (b := w.heap.size) (o := o) (by go_size) (by omega)
  have f2_0 := fun o => only_free B2_1 (b := w.heap.size) (o := o) (by go_size) (by omega)
  have H2 : World.grownBy w w2 (some b) := only_next (by repeat (first | (with_reducible assumption) | (with_reducible exact H1) | (with_reducible exact only_refl _ _) | (with_reducible refine only_drawn ?_ _) | (with_reducible refine only_drew ?_) | (with_reducible refine only_alloc ?_ _) | (with_reducible refine only_setCell ?_ ?_ _) | omega)) h2
  have C2 := only_cells H2; have F2 := only_frees H2
  go_wp2_with fail
  refine (spec_l01Below w0 a n c b bs _ (lines) HA.out hs (by omega) (by repeat (first | (with_reducible assumption) | (with_reducible refine Cur.alloc ?_ _) | (with_reducible refine Cur.drawn ?_ _) | (with_reducible refine Cur.drew ?_) | (with_reducible refine Cur.set ?_ ?_ _) | omega)) ).mono ?_
  rintro e w3 ⟨l, l_lo, l_hi, rfl, hC3, h3⟩
  have s3 := h3.size
  try simp only [World.size_alloc, World.size_setCell, World.size_drew, World.heap_drewN] at s3
  have B3_1 := only_next (by first | (with_reducible exact B2_1) | (repeat (first | (with_reducible assumption) | (with_reducible exact B2_1) | (with_reducible exact only_refl _ _) | (with_reducible refine only_drawn ?_ _) | (with_reducible refine only_drew ?_) | (with_reducible refine only_alloc ?_ _) | (with_reducible refine only_setCell ?_ ?_ _) | omega))) h3
  have z3_0 : w.heap.size < w3.heap.size := by omega
  have q3_0 := fun o => only_cell B3_1 (b := w.heap.size) (o := o) (by go_size) (by omega)
  have f3_0 := fun o => only_free B3_1 (b := w.heap.size) (o := o) (by go_size) (by omega)
  have H3 : World.grownBy w w3 (some b) := only_next (by repeat (first | (with_reducible assumption) | (with_reducible exact H2) | (with_reducible exact only_refl _ _) | (with_reducible refine only_drawn ?_ _) | (with_reducible refine only_drew ?_) | (with_reducible refine only_alloc ?_ _) | (with_reducible refine only_setCell ?_ ?_ _) | omega)) h3
  have C3 := only_cells H3; have F3 := only_frees H3
  go_wp2_with fail
  refine (spec_l01Below w0 a n c b bs _ (50) HA.out hs (by omega) (by repeat (first | (with_reducible assumption) | (with_reducible refine Cur.alloc ?_ _) | (with_reducible refine Cur.drawn ?_ _) | (with_reducible refine Cur.drew ?_) | (with_reducible refine Cur.set ?_ ?_ _) | omega)) ).mono ?_
  rintro e w4 ⟨q, q_lo, q_hi, rfl, hC4, h4⟩
  have s4 := h4.size
  try simp only [World.size_alloc, World.size_setCell, World.size_drew, World.heap_drewN] at s4
  have B4_1 := only_next (by first | (with_reducible exact B3_1) | (repeat (first | (with_reducible assumption) | (with_reducible exact B3_1) | (with_reducible exact only_refl _ _) | (with_reducible refine only_drawn ?_ _) | (with_reducible refine only_drew ?_) | (with_reducible refine only_alloc ?_ _) | (with_reducible refine only_setCell ?_ ?_ _) | omega))) h4
  have z4_0 : w.heap.size < w4.heap.size := by omega
  have q4_0 := fun o => only_cell B4_1 (b := w.heap.size) (o := o) (by go_size) (by omega)
  have f4_0 := fun o => only_free B4_1 (b := w.heap.size) (o := o) (by go_size) (by omega)
  have H4 : World.grownBy w w4 (some b) := only_next (by repeat (first | (with_reducible assumption) | (with_reducible exact H3) | (with_reducible exact only_refl _ _) | (with_reducible refine only_drawn ?_ _) | (with_reducible refine only_drew ?_) | (with_reducible refine only_alloc ?_ _) | (with_reducible refine only_setCell ?_ ?_ _) | omega)) h4
  have C4 := only_cells H4; have F4 := only_frees H4
  go_wp2_with fail
  refine (spec_l01Once w0 a n c b bs _ (2) HA.out hs (by omega) (by repeat (first | (with_reducible assumption) | (with_reducible refine Cur.alloc ?_ _) | (with_reducible refine Cur.drawn ?_ _) | (with_reducible refine Cur.drew ?_) | (with_reducible refine Cur.set ?_ ?_ _) | omega)) ).mono ?_
  rintro e w5 ⟨y, rfl, hC5, h5⟩
  have s5 := h5.size
  try simp only [World.size_alloc, World.size_setCell, World.size_drew, World.heap_drewN] at s5
  have B5_1 := only_next (by first | (with_reducible exact B4_1) | (repeat (first | (with_reducible assumption) | (with_reducible exact B4_1) | (with_reducible exact only_refl _ _) | (with_reducible refine only_drawn ?_ _) | (with_reducible refine only_drew ?_) | (with_reducible refine only_alloc ?_ _) | (with_reducible refine only_setCell ?_ ?_ _) | omega))) h5
  have B5_5 := h5
  have z5_0 : w.heap.size < w5.heap.size := by omega
  have q5_0 := fun o => only_cell B5_1 (b := w.heap.size) (o := o) (by go_size) (by omega)
  have f5_0 := fun o => only_free B5_1 (b := w.heap.size) (o := o) (by go_size) (by omega)
  have z5_1 : w4.heap.size < w5.heap.size := by omega
  have q5_1 := fun o => only_cell B5_5 (b := w4.heap.size) (o := o) (by go_size) (by omega)
  have f5_1 := fun o => only_free B5_5 (b := w4.heap.size) (o := o) (by go_size) (by omega)
  have H5 : World.grownBy w w5 (some b) := only_next (by repeat (first | (with_reducible assumption) | (with_reducible exact H4) | (with_reducible exact only_refl _ _) | (with_reducible refine only_drawn ?_ _) | (with_reducible refine only_drew ?_) | (with_reducible refine only_alloc ?_ _) | (with_reducible refine only_setCell ?_ ?_ _) | omega)) h5
  have C5 := only_cells H5; have F5 := only_frees H5
  by_cases hif9 : y = true
  · subst hif9
    go_wp2_with fail
    refine (spec_l02Word w0 a n c b bs _ HA.out hs (by repeat (first | (with_reducible assumption) | (with_reducible refine Cur.alloc ?_ _) | (with_reducible refine Cur.drawn ?_ _) | (with_reducible refine Cur.drew ?_) | (with_reducible refine Cur.set ?_ ?_ _) | omega))).mono ?_
    rintro e w6 ⟨d, d0, d1, rfl, hC6, h6⟩
    have s6 := h6.size
    try simp only [World.size_alloc, World.size_setCell, World.size_drew, World.heap_drewN] at s6
    have B6_1 := only_next (by first | (with_reducible exact B5_1) | (repeat (first | (with_reducible assumption) | (with_reducible exact B5_1) | (with_reducible exact only_refl _ _) | (with_reducible refine only_drawn ?_ _) | (with_reducible refine only_drew ?_) | (with_reducible refine only_alloc ?_ _) | (with_reducible refine only_setCell ?_ ?_ _) | omega))) h6
    have B6_5 := only_next (by first | (with_reducible exact B5_5) | (repeat (first | (with_reducible assumption) | (with_reducible exact B5_5) | (with_reducible exact only_refl _ _) | (with_reducible refine only_drawn ?_ _) | (with_reducible refine only_drew ?_) | (with_reducible refine only_alloc ?_ _) | (with_reducible refine only_setCell ?_ ?_ _) | omega))) h6
    have z6_0 : w.heap.size < w6.heap.size := by omega
    have q6_0 := fun o => only_cell B6_1 (b := w.heap.size) (o := o) (by go_size) (by omega)
    have f6_0 := fun o => only_free B6_1 (b := w.heap.size) (o := o) (by go_size) (by omega)
    have z6_1 : w4.heap.size < w6.heap.size := by omega
    have q6_1 := fun o => only_cell B6_5 (b := w4.heap.size) (o := o) (by go_size) (by omega)
    have f6_1 := fun o => only_free B6_5 (b := w4.heap.size) (o := o) (by go_size) (by omega)
    have H6 : World.grownBy w w6 (some b) := only_next (by repeat (first | (with_reducible assumption) | (with_reducible exact H5) | (with_reducible exact only_refl _ _) | (with_reducible refine only_drawn ?_ _) | (with_reducible refine only_drew ?_) | (with_reducible refine only_alloc ?_ _) | (with_reducible refine only_setCell ?_ ?_ _) | omega)) h6
    have C6 := only_cells H6; have F6 := only_frees H6
    go_wp2_with fail
    refine bodyPost_ret (by simp [results, Try.results121, go_sem, *]; try rfl) rfl ?_
    exact ⟨_, _, _, _, _, _, by omega, by omega, by omega, by omega, by omega, by omega, by omega, by omega, by omega, by omega, rfl, (by repeat (first | (with_reducible assumption) | (with_reducible refine Cur.alloc ?_ _) | (with_reducible refine Cur.drawn ?_ _) | (with_reducible refine Cur.drew ?_) | (with_reducible refine Cur.set ?_ ?_ _) | omega)), (by repeat (first | (with_reducible assumption) | (with_reducible exact only_refl _ _) | (with_reducible refine only_drawn ?_ _) | (with_reducible refine only_drew ?_) | (with_reducible refine only_alloc ?_ _) | (with_reducible refine only_setCell ?_ ?_ _) | omega))⟩
  · skip
    obtain rfl : y = false := by simpa using (by assumption : ¬ y = true)
    go_wp2_with fail
    refine bodyPost_ret (by simp [results, Try.results121, go_sem, *]; try rfl) rfl ?_
    exact ⟨_, _, _, _, _, _, by omega, by omega, by omega, by omega, by omega, by omega, by omega, by omega, by omega, by omega, rfl, (by repeat (first | (with_reducible assumption) | (with_reducible refine Cur.alloc ?_ _) | (with_reducible refine Cur.drawn ?_ _) | (with_reducible refine Cur.drew ?_) | (with_reducible refine Cur.set ?_ ?_ _) | omega)), (by repeat (first | (with_reducible assumption) | (with_reducible exact only_refl _ _) | (with_reducible refine only_drawn ?_ _) | (with_reducible refine only_drew ?_) | (with_reducible refine only_alloc ?_ _) | (with_reducible refine only_setCell ?_ ?_ _) | omega))⟩
end Go.Proofs.Ytahfbhfmhccgoaa
