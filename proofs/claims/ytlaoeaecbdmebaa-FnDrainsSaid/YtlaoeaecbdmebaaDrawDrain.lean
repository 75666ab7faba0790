/- The drawn drain and its counts: some drain, some list of at most twenty counts. -/
import Derived.Test.YtlaoeaecbdmebaaPlaces
import Derived.Test.YtlaoeaecbdmebaaDrainOk
import Derived.Deep.RegionHeld3
set_option linter.unusedSimpArgs false
set_option linter.unusedVariables false
namespace Go.Proofs.Ytlaoeaecbdmebaa
open Go.RowKit Go.ChangeShapes Go.WideShapes Go.ChangeAt Go.Joins Go.Deep
open Go.ChangeMaps (open_string shut_string)

def DrewDrain (w0 : World) (a : Option Addr) (n c b : Nat) (w : World) (e : Ending) (w' : World) : Prop :=
  ∃ (on : Bool) (lo hi : Int), e = .returned (.agg #[.bool on, .int .i64 lo, .int .i64 hi]) ∧ Cur w0 a n c b w' ∧ w.grownBy w' (some b)

theorem ints_lit (w : World) (T : TypeId) (zs : List Int) (n : Nat) (cs : Array Value) (hc : cs = (zs.map (Value.int .i64)).toArray) (hn : zs.length = n) (hm : n ≤ 1000) (hz : ∀ z ∈ zs, -9223372036854775808 ≤ z ∧ z ≤ 9223372036854775807) :
    IsInts .i64 (w.alloc (.cells cs T)) (some ⟨w.heap.size, 0, none⟩) n n zs := by
  refine ⟨hn, Nat.le_refl _, by unfold maxLen; omega, fun z h => ?_, fun i v hv => ⟨w.heap.size, 0, rfl, ?_⟩⟩
  · have := hz z h
    show (decide (IntKind.min .i64 ≤ z) && decide (z ≤ IntKind.max .i64)) = true
    rw [show IntKind.min .i64 = -9223372036854775808 from rfl, show IntKind.max .i64 = 9223372036854775807 from rfl]
    simp; exact this
  · subst hc
    simp only [World.cell?, World.alloc, Array.getElem?_push_size, Nat.zero_add, List.getElem?_toArray]; exact hv
set_option maxHeartbeats 800000 in
theorem spec_l22Any (w0 : World) (a : Option Addr) (n c b : Nat) (bs : List Int) (w : World) (ha : IsInts .u8 w0 a n c bs) (hs : n ≤ 1048576) (hC0 : Cur w0 a n c b w) :
    Calls Try.prog 74 #[.pointer (some ⟨b, 0, none⟩)] w (DrewDrain w0 a n c b w) := by
  have HA := hide ha
  clear ha
  have hlb := hC0.lt
  have hwb : w0.heap.size ≤ b := by obtain ⟨_, _, _, _, _, h⟩ := hC0; exact h
  go_enter Try.func74, Try.ntmps74
  go_wp2_with fail
  refine (spec_l01Once w0 a n c b bs _ (2) HA.out hs (by omega) (by repeat (first | (with_reducible assumption) | (with_reducible refine Cur.alloc ?_ _) | (with_reducible refine Cur.drawn ?_ _) | (with_reducible refine Cur.drew ?_) | (with_reducible refine Cur.set ?_ ?_ _) | omega)) ).mono ?_
  rintro e w1 ⟨on, rfl, hC1, h1⟩
  have s1 := h1.size
  try simp only [World.size_alloc, World.size_setCell, World.size_drew, World.heap_drewN] at s1
  have B1_1 := h1
  have z1_0 : w.heap.size < w1.heap.size := by omega
  have q1_0 := fun o => only_cell B1_1 (b := w.heap.size) (o := o) (by go_size) (by omega)
  have f1_0 := fun o => only_free B1_1 (b := w.heap.size) (o := o) (by go_size) (by omega)
  have H1 : World.grownBy w w1 (some b) := only_next (by repeat (first | (with_reducible assumption) | (with_reducible exact only_refl _ _) | (with_reducible refine only_drawn ?_ _) | (with_reducible refine only_drew ?_) | (with_reducible refine only_alloc ?_ _) | (with_reducible refine only_setCell ?_ ?_ _) | omega)) h1
  have C1 := only_cells H1; have F1 := only_frees H1
  go_wp2_with fail
  refine (spec_l01Below w0 a n c b bs _ (4) HA.out hs (by omega) (by repeat (first | (with_reducible assumption) | (with_reducible refine Cur.alloc ?_ _) | (with_reducible refine Cur.drawn ?_ _) | (with_reducible refine Cur.drew ?_) | (with_reducible refine Cur.set ?_ ?_ _) | omega)) ).mono ?_
  rintro e w2 ⟨lo, lo_lo, lo_hi, rfl, hC2, h2⟩
  have s2 := h2.size
  try simp only [World.size_alloc, World.size_setCell, World.size_drew, World.heap_drewN] at s2
  have B2_1 := only_next (by first | (with_reducible exact B1_1) | (repeat (first | (with_reducible assumption) | (with_reducible exact B1_1) | (with_reducible exact only_refl _ _) | (with_reducible refine only_drawn ?_ _) | (with_reducible refine only_drew ?_) | (with_reducible refine only_alloc ?_ _) | (with_reducible refine only_setCell ?_ ?_ _) | omega))) h2
  have z2_0 : w.heap.size < w2.heap.size := by omega
  have q2_0 := fun o => only_cell B2_1 (b := w.heap.size) (o := o) (by go_size) (by omega)
  have f2_0 := fun o => only_free B2_1 (b := w.heap.size) (o := o) (by go_size) (by omega)
  have H2 : World.grownBy w w2 (some b) := only_next (by repeat (first | (with_reducible assumption) | (with_reducible exact H1) | (with_reducible exact only_refl _ _) | (with_reducible refine only_drawn ?_ _) | (with_reducible refine only_drew ?_) | (with_reducible refine only_alloc ?_ _) | (with_reducible refine only_setCell ?_ ?_ _) | omega)) h2
  have C2 := only_cells H2; have F2 := only_frees H2
  go_wp2_with fail
  go_region_held3 (fun v => v.cell? ⟨w2.heap.size, 1, none⟩ = some (.int .i64 lo)) (first | go_keep | simp [go_sem, *]) (first | (go_at_call 75; refine (spec_l01Below w0 a n c b bs _ (4) HA.out hs (by omega) (by repeat (first | (with_reducible assumption) | (with_reducible refine Cur.alloc ?_ _) | (with_reducible refine Cur.drawn ?_ _) | (with_reducible refine Cur.drew ?_) | (with_reducible refine Cur.set ?_ ?_ _) | omega)) ).mono ?_; rintro e w3 ⟨x, x_lo, x_hi, rfl, hC3, h3⟩; have s3 := h3.size; (try simp only [World.size_alloc, World.size_setCell, World.size_drew, World.heap_drewN] at s3); have B3_1 := only_next (by first | (with_reducible exact B2_1) | (repeat (first | (with_reducible assumption) | (with_reducible exact B2_1) | (with_reducible exact only_refl _ _) | (with_reducible refine only_drawn ?_ _) | (with_reducible refine only_drew ?_) | (with_reducible refine only_alloc ?_ _) | (with_reducible refine only_setCell ?_ ?_ _) | omega))) h3; have B3_3 := h3; have z3_0 : w.heap.size < w3.heap.size := (by omega); have q3_0 := fun o => only_cell B3_1 (b := w.heap.size) (o := o) (by go_size) (by omega); have f3_0 := fun o => only_free B3_1 (b := w.heap.size) (o := o) (by go_size) (by omega); have z3_1 : w2.heap.size < w3.heap.size := (by omega); have q3_1 := fun o => only_cell B3_3 (b := w2.heap.size) (o := o) (by go_size) (by omega); have f3_1 := fun o => only_free B3_3 (b := w2.heap.size) (o := o) (by go_size) (by omega); have H3 : World.grownBy w w3 (some b) := only_next (by repeat (first | (with_reducible assumption) | (with_reducible exact H2) | (with_reducible exact only_refl _ _) | (with_reducible refine only_drawn ?_ _) | (with_reducible refine only_drew ?_) | (with_reducible refine only_alloc ?_ _) | (with_reducible refine only_setCell ?_ ?_ _) | omega)) h3; have C3 := only_cells H3; have F3 := only_frees H3))
  go_wp2_with fail
  refine (spec_l01Below w0 a n c b bs _ (12) HA.out hs (by omega) (by repeat (first | (with_reducible assumption) | (with_reducible refine Cur.alloc ?_ _) | (with_reducible refine Cur.drawn ?_ _) | (with_reducible refine Cur.drew ?_) | (with_reducible refine Cur.set ?_ ?_ _) | omega)) ).mono ?_
  rintro e w4 ⟨y, y_lo, y_hi, rfl, hC4, h4⟩
  have s4 := h4.size
  try simp only [World.size_alloc, World.size_setCell, World.size_drew, World.heap_drewN] at s4
  have B4_1 := only_next (by first | (with_reducible exact B3_1) | (repeat (first | (with_reducible assumption) | (with_reducible exact B3_1) | (with_reducible exact only_refl _ _) | (with_reducible refine only_drawn ?_ _) | (with_reducible refine only_drew ?_) | (with_reducible refine only_alloc ?_ _) | (with_reducible refine only_setCell ?_ ?_ _) | omega))) h4
  have B4_3 := only_next (by first | (with_reducible exact B3_3) | (repeat (first | (with_reducible assumption) | (with_reducible exact B3_3) | (with_reducible exact only_refl _ _) | (with_reducible refine only_drawn ?_ _) | (with_reducible refine only_drew ?_) | (with_reducible refine only_alloc ?_ _) | (with_reducible refine only_setCell ?_ ?_ _) | omega))) h4
  have z4_0 : w.heap.size < w4.heap.size := by omega
  have q4_0 := fun o => only_cell B4_1 (b := w.heap.size) (o := o) (by go_size) (by omega)
  have f4_0 := fun o => only_free B4_1 (b := w.heap.size) (o := o) (by go_size) (by omega)
  have z4_1 : w2.heap.size < w4.heap.size := by omega
  have q4_1 := fun o => only_cell B4_3 (b := w2.heap.size) (o := o) (by go_size) (by omega)
  have f4_1 := fun o => only_free B4_3 (b := w2.heap.size) (o := o) (by go_size) (by omega)
  have H4 : World.grownBy w w4 (some b) := only_next (by repeat (first | (with_reducible assumption) | (with_reducible exact H3) | (with_reducible exact only_refl _ _) | (with_reducible refine only_drawn ?_ _) | (with_reducible refine only_drew ?_) | (with_reducible refine only_alloc ?_ _) | (with_reducible refine only_setCell ?_ ?_ _) | omega)) h4
  have C4 := only_cells H4; have F4 := only_frees H4
  by_cases hif8 : y = 0
  · subst hif8
    go_wp2_with fail
    refine (spec_l01PickInt w0 a n c b bs (w4.alloc (.cells #[.int .i64 (12), .int .i64 (13), .int .i64 (lo), .int .i64 (0)] 3)) (some ⟨w4.heap.size, 0, none⟩) 4 4 [12, 13, lo, 0] HA.out hs (by repeat (first | (with_reducible assumption) | (with_reducible refine Cur.alloc ?_ _) | (with_reducible refine Cur.drawn ?_ _) | (with_reducible refine Cur.drew ?_) | (with_reducible refine Cur.set ?_ ?_ _) | omega)) (ints_lit _ _ _ 4 _ rfl rfl (by omega) (by simp; try omega)) (by omega) (by intro g o hg; injection hg with hg; injection hg with hg; omega) ).mono ?_
    rintro e w5 ⟨z, z_mem, rfl, hC5, h5⟩
    have s5 := h5.size
    try simp only [World.size_alloc, World.size_setCell, World.size_drew, World.heap_drewN] at s5
    have B5_1 := only_next (by first | (with_reducible exact B4_1) | (repeat (first | (with_reducible assumption) | (with_reducible exact B4_1) | (with_reducible exact only_refl _ _) | (with_reducible refine only_drawn ?_ _) | (with_reducible refine only_drew ?_) | (with_reducible refine only_alloc ?_ _) | (with_reducible refine only_setCell ?_ ?_ _) | omega))) h5
    have B5_3 := only_next (by first | (with_reducible exact B4_3) | (repeat (first | (with_reducible assumption) | (with_reducible exact B4_3) | (with_reducible exact only_refl _ _) | (with_reducible refine only_drawn ?_ _) | (with_reducible refine only_drew ?_) | (with_reducible refine only_alloc ?_ _) | (with_reducible refine only_setCell ?_ ?_ _) | omega))) h5
    have B5_5 := h5
    have z5_0 : w.heap.size < w5.heap.size := by omega
    have q5_0 := fun o => only_cell B5_1 (b := w.heap.size) (o := o) (by go_size) (by omega)
    have f5_0 := fun o => only_free B5_1 (b := w.heap.size) (o := o) (by go_size) (by omega)
    have z5_1 : w2.heap.size < w5.heap.size := by omega
    have q5_1 := fun o => only_cell B5_3 (b := w2.heap.size) (o := o) (by go_size) (by omega)
    have f5_1 := fun o => only_free B5_3 (b := w2.heap.size) (o := o) (by go_size) (by omega)
    have z5_2 : w4.heap.size < w5.heap.size := by omega
    have q5_2 := fun o => only_cell B5_5 (b := w4.heap.size) (o := o) (by go_size) (by omega)
    have f5_2 := fun o => only_free B5_5 (b := w4.heap.size) (o := o) (by go_size) (by omega)
    have H5 : World.grownBy w w5 (some b) := only_next (by repeat (first | (with_reducible assumption) | (with_reducible exact H4) | (with_reducible exact only_refl _ _) | (with_reducible refine only_drawn ?_ _) | (with_reducible refine only_drew ?_) | (with_reducible refine only_alloc ?_ _) | (with_reducible refine only_setCell ?_ ?_ _) | omega)) h5
    have C5 := only_cells H5; have F5 := only_frees H5
    go_wp2_with fail
    refine bodyPost_ret (by simp [results, Try.results74, go_sem, *]; try rfl) rfl ?_
    exact ⟨_, _, _, rfl, (by repeat (first | (with_reducible assumption) | (with_reducible refine Cur.alloc ?_ _) | (with_reducible refine Cur.drawn ?_ _) | (with_reducible refine Cur.drew ?_) | (with_reducible refine Cur.set ?_ ?_ _) | omega)), (by repeat (first | (with_reducible assumption) | (with_reducible exact only_refl _ _) | (with_reducible refine only_drawn ?_ _) | (with_reducible refine only_drew ?_) | (with_reducible refine only_alloc ?_ _) | (with_reducible refine only_setCell ?_ ?_ _) | omega))⟩
  · skip
    by_cases hif14 : y = 1
    · subst hif14
      go_wp2_with fail
      refine (spec_l01PickInt w0 a n c b bs (w4.alloc (.cells #[.int .i64 (-1), .int .i64 (12), .int .i64 (9223372036854775807)] 3)) (some ⟨w4.heap.size, 0, none⟩) 3 3 [-1, 12, 9223372036854775807] HA.out hs (by repeat (first | (with_reducible assumption) | (with_reducible refine Cur.alloc ?_ _) | (with_reducible refine Cur.drawn ?_ _) | (with_reducible refine Cur.drew ?_) | (with_reducible refine Cur.set ?_ ?_ _) | omega)) (ints_lit _ _ _ 3 _ rfl rfl (by omega) (by simp; try omega)) (by omega) (by intro g o hg; injection hg with hg; injection hg with hg; omega) ).mono ?_
      rintro e w6 ⟨z, z_mem, rfl, hC6, h6⟩
      have s6 := h6.size
      try simp only [World.size_alloc, World.size_setCell, World.size_drew, World.heap_drewN] at s6
      have B6_1 := only_next (by first | (with_reducible exact B4_1) | (repeat (first | (with_reducible assumption) | (with_reducible exact B4_1) | (with_reducible exact only_refl _ _) | (with_reducible refine only_drawn ?_ _) | (with_reducible refine only_drew ?_) | (with_reducible refine only_alloc ?_ _) | (with_reducible refine only_setCell ?_ ?_ _) | omega))) h6
      have B6_3 := only_next (by first | (with_reducible exact B4_3) | (repeat (first | (with_reducible assumption) | (with_reducible exact B4_3) | (with_reducible exact only_refl _ _) | (with_reducible refine only_drawn ?_ _) | (with_reducible refine only_drew ?_) | (with_reducible refine only_alloc ?_ _) | (with_reducible refine only_setCell ?_ ?_ _) | omega))) h6
      have B6_6 := h6
      have z6_0 : w.heap.size < w6.heap.size := by omega
      have q6_0 := fun o => only_cell B6_1 (b := w.heap.size) (o := o) (by go_size) (by omega)
      have f6_0 := fun o => only_free B6_1 (b := w.heap.size) (o := o) (by go_size) (by omega)
      have z6_1 : w2.heap.size < w6.heap.size := by omega
      have q6_1 := fun o => only_cell B6_3 (b := w2.heap.size) (o := o) (by go_size) (by omega)
      have f6_1 := fun o => only_free B6_3 (b := w2.heap.size) (o := o) (by go_size) (by omega)
      have z6_2 : w4.heap.size < w6.heap.size := by omega
      have q6_2 := fun o => only_cell B6_6 (b := w4.heap.size) (o := o) (by go_size) (by omega)
      have f6_2 := fun o => only_free B6_6 (b := w4.heap.size) (o := o) (by go_size) (by omega)
      have H6 : World.grownBy w w6 (some b) := only_next (by repeat (first | (with_reducible assumption) | (with_reducible exact H4) | (with_reducible exact only_refl _ _) | (with_reducible refine only_drawn ?_ _) | (with_reducible refine only_drew ?_) | (with_reducible refine only_alloc ?_ _) | (with_reducible refine only_setCell ?_ ?_ _) | omega)) h6
      have C6 := only_cells H6; have F6 := only_frees H6
      go_wp2_with fail
      refine bodyPost_ret (by simp [results, Try.results74, go_sem, *]; try rfl) rfl ?_
      exact ⟨_, _, _, rfl, (by repeat (first | (with_reducible assumption) | (with_reducible refine Cur.alloc ?_ _) | (with_reducible refine Cur.drawn ?_ _) | (with_reducible refine Cur.drew ?_) | (with_reducible refine Cur.set ?_ ?_ _) | omega)), (by repeat (first | (with_reducible assumption) | (with_reducible exact only_refl _ _) | (with_reducible refine only_drawn ?_ _) | (with_reducible refine only_drew ?_) | (with_reducible refine only_alloc ?_ _) | (with_reducible refine only_setCell ?_ ?_ _) | omega))⟩
    · skip
      go_wp2_with fail
      refine bodyPost_ret (by simp [results, Try.results74, go_sem, *]; try rfl) rfl ?_
      exact ⟨_, _, _, rfl, (by repeat (first | (with_reducible assumption) | (with_reducible refine Cur.alloc ?_ _) | (with_reducible refine Cur.drawn ?_ _) | (with_reducible refine Cur.drew ?_) | (with_reducible refine Cur.set ?_ ?_ _) | omega)), (by repeat (first | (with_reducible assumption) | (with_reducible exact only_refl _ _) | (with_reducible refine only_drawn ?_ _) | (with_reducible refine only_drew ?_) | (with_reducible refine only_alloc ?_ _) | (with_reducible refine only_setCell ?_ ?_ _) | omega))⟩
end Go.Proofs.Ytlaoeaecbdmebaa
