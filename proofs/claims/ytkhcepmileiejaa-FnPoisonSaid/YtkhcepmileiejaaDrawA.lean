/- The small draws of an array: its geometry, its limits, a place, a word. -/
import Derived.Test.YtkhcepmileiejaaPlaces3
import Derived.Test.YtkhcepmileiejaaAddrI
set_option linter.unusedSimpArgs false
set_option linter.unusedVariables false
namespace Go.Proofs.Ytkhcepmileiejaa
open Go.RowKit Go.ChangeShapes Go.WideShapes Go.ChangeAt Go.Joins Go.Deep
open Go.ChangeMaps (open_string shut_string)
theorem ints_lit (w : World) (T : TypeId) (zs : List Int) (n : Nat) (cs : Array Value) (hc : cs = (zs.map (Value.int .i64)).toArray) (hn : zs.length = n) (hm : n ≤ 1000) (hz : ∀ z ∈ zs, -9223372036854775808 ≤ z ∧ z ≤ 9223372036854775807) :
    IsInts .i64 (w.alloc (.cells cs T)) (some ⟨w.heap.size, 0, none⟩) n n zs := by
  refine ⟨hn, Nat.le_refl _, by unfold maxLen; omega, fun z h => ?_, fun i v hv => ⟨w.heap.size, 0, rfl, ?_⟩⟩
  · have := hz z h
    show (decide (IntKind.min .i64 ≤ z) && decide (z ≤ IntKind.max .i64)) = true
    rw [show IntKind.min .i64 = -9223372036854775808 from rfl, show IntKind.max .i64 = 9223372036854775807 from rfl]
    simp; exact this
  · subst hc
    simp only [World.cell?, World.alloc, Array.getElem?_push_size, Nat.zero_add, List.getElem?_toArray]; exact hv
theorem only_undrew {y z : World} {r : Option Nat} (hg : (World.drew y).grownBy z r) : y.grownBy z r := ⟨hg.os, hg.tape, hg.output, hg.size, hg.block⟩
theorem ints_lit_at (w : World) (T : TypeId) (zs : List Int) (n : Nat) (cs : Array Value) (k : Nat) (hk : k = w.heap.size) (hc : cs = (zs.map (Value.int .i64)).toArray) (hn : zs.length = n) (hm : n ≤ 1000) (hz : ∀ z ∈ zs, -9223372036854775808 ≤ z ∧ z ≤ 9223372036854775807) :
    IsInts .i64 (w.alloc (.cells cs T)) (some ⟨k, 0, none⟩) n n zs := by subst hk; exact ints_lit w T zs n cs hc hn hm hz
theorem spec_BankCount_cur (w0 : World) (a : Option Addr) (n c b : Nat) (g : Ge) (v : Int) (w : World) (hv : bankCnt g = v) (hC : Cur w0 a n c b w) :
    Calls Try.prog 65 #[.agg #[.int .i64 g.gr, .int .i64 g.bk, .int .i64 g.rw, .int .i64 g.cl]] w fun e w' => e = .returned (.int .i64 v) ∧ Cur w0 a n c b w' ∧ w.grownBy w' (some b) :=
  (spec_BankCount_is g v hv w).mono fun e w' ⟨h1, h2⟩ => ⟨h1, hC.below h2, only_of_below h2 _⟩
def DrewSmall (w0 : World) (a : Option Addr) (n c b : Nat) (w : World) (e : Ending) (w' : World) : Prop :=
  ∃ g : Ge, geoOk g = true ∧ e = .returned (.agg #[.int .i64 g.gr, .int .i64 g.bk, .int .i64 g.rw, .int .i64 g.cl]) ∧ Cur w0 a n c b w' ∧ w.grownBy w' (some b)
set_option maxRecDepth 100000 in
set_option maxHeartbeats 1000000 in
theorem spec_l14Small (w0 : World) (a : Option Addr) (n c b : Nat) (bs : List Int) (w : World) (ha : IsInts .u8 w0 a n c bs) (hs : n ≤ 1048576) (hC0 : Cur w0 a n c b w) :
    Calls Try.prog 86 #[.pointer (some ⟨b, 0, none⟩)] w (DrewSmall w0 a n c b w) := by
  have HA := hide ha
  clear ha
  have hlb := hC0.lt
  have hwb : w0.heap.size ≤ b := by obtain ⟨_, _, _, _, _, h⟩ := hC0; exact h
  go_enter Try.func86, Try.ntmps86
  go_wp2_with fail
  refine (spec_l01Below w0 a n c b bs _ (2) HA.out hs (by omega) (by repeat (first | (with_reducible assumption) | (with_reducible refine Cur.alloc ?_ _) | (with_reducible refine Cur.drawn ?_ _) | (with_reducible refine Cur.drew ?_) | (with_reducible refine Cur.set ?_ ?_ _) | omega)) ).mono ?_
  rintro e w1 ⟨x, x_lo, x_hi, rfl, hC1, h1⟩
  have s1 := h1.size
  try simp only [World.size_alloc, World.size_setCell, World.size_drew, World.heap_drewN] at s1
  have B1_1 := h1
  have z1_0 : w.heap.size < w1.heap.size := by omega
  have q1_0 := fun o => only_cell B1_1 (b := w.heap.size) (o := o) (by go_size) (by omega)
  have f1_0 := fun o => only_free B1_1 (b := w.heap.size) (o := o) (by go_size) (by omega)
  have H1 : World.grownBy w w1 (some b) := only_next (by repeat (first | (with_reducible assumption) | (with_reducible exact only_refl _ _) | (with_reducible refine only_drawn ?_ _) | (with_reducible refine only_drew ?_) | (with_reducible refine only_alloc ?_ _) | (with_reducible refine only_setCell ?_ ?_ _) | omega)) h1
  have C1 := only_cells H1; have F1 := only_frees H1
  go_wp2_with fail
  refine (spec_l01Below w0 a n c b bs _ (3) HA.out hs (by omega) (by repeat (first | (with_reducible assumption) | (with_reducible refine Cur.alloc ?_ _) | (with_reducible refine Cur.drawn ?_ _) | (with_reducible refine Cur.drew ?_) | (with_reducible refine Cur.set ?_ ?_ _) | omega)) ).mono ?_
  rintro e w2 ⟨y, y_lo, y_hi, rfl, hC2, h2⟩
  have s2 := h2.size
  try simp only [World.size_alloc, World.size_setCell, World.size_drew, World.heap_drewN] at s2
  have B2_1 := only_next (by first | (with_reducible exact B1_1) | (repeat (first | (with_reducible assumption) | (with_reducible exact B1_1) | (with_reducible exact only_refl _ _) | (with_reducible refine only_drawn ?_ _) | (with_reducible refine only_drew ?_) | (with_reducible refine only_alloc ?_ _) | (with_reducible refine only_setCell ?_ ?_ _) | omega))) h2
  have z2_0 : w.heap.size < w2.heap.size := by omega
  have q2_0 := fun o => only_cell B2_1 (b := w.heap.size) (o := o) (by go_size) (by omega)
  have f2_0 := fun o => only_free B2_1 (b := w.heap.size) (o := o) (by go_size) (by omega)
  have H2 : World.grownBy w w2 (some b) := only_next (by repeat (first | (with_reducible assumption) | (with_reducible exact H1) | (with_reducible exact only_refl _ _) | (with_reducible refine only_drawn ?_ _) | (with_reducible refine only_drew ?_) | (with_reducible refine only_alloc ?_ _) | (with_reducible refine only_setCell ?_ ?_ _) | omega)) h2
  have C2 := only_cells H2; have F2 := only_frees H2
  go_wp2_with fail
  refine (spec_l01Below w0 a n c b bs _ (2) HA.out hs (by omega) (by repeat (first | (with_reducible assumption) | (with_reducible refine Cur.alloc ?_ _) | (with_reducible refine Cur.drawn ?_ _) | (with_reducible refine Cur.drew ?_) | (with_reducible refine Cur.set ?_ ?_ _) | omega)) ).mono ?_
  rintro e w3 ⟨z, z_lo, z_hi, rfl, hC3, h3⟩
  have s3 := h3.size
  try simp only [World.size_alloc, World.size_setCell, World.size_drew, World.heap_drewN] at s3
  have B3_1 := only_next (by first | (with_reducible exact B2_1) | (repeat (first | (with_reducible assumption) | (with_reducible exact B2_1) | (with_reducible exact only_refl _ _) | (with_reducible refine only_drawn ?_ _) | (with_reducible refine only_drew ?_) | (with_reducible refine only_alloc ?_ _) | (with_reducible refine only_setCell ?_ ?_ _) | omega))) h3
  have z3_0 : w.heap.size < w3.heap.size := by omega
  have q3_0 := fun o => only_cell B3_1 (b := w.heap.size) (o := o) (by go_size) (by omega)
  have f3_0 := fun o => only_free B3_1 (b := w.heap.size) (o := o) (by go_size) (by omega)
  have H3 : World.grownBy w w3 (some b) := only_next (by repeat (first | (with_reducible assumption) | (with_reducible exact H2) | (with_reducible exact only_refl _ _) | (with_reducible refine only_drawn ?_ _) | (with_reducible refine only_drew ?_) | (with_reducible refine only_alloc ?_ _) | (with_reducible refine only_setCell ?_ ?_ _) | omega)) h3
  have C3 := only_cells H3; have F3 := only_frees H3
  go_wp2_with fail
  refine bodyPost_ret (by simp [results, Try.results86, go_sem, *]; try rfl) rfl ?_
  exact ⟨⟨1, 1 + x, 2 + y, 1 + z⟩, geoOk_mk ⟨by simp only; omega, by simp only; omega, by simp only; omega, by simp only; omega, by simp only; omega, by simp only; omega, by simp only; omega, by simp only; omega⟩, rfl, (by repeat (first | (with_reducible assumption) | (with_reducible refine Cur.alloc ?_ _) | (with_reducible refine Cur.drawn ?_ _) | (with_reducible refine Cur.drew ?_) | (with_reducible refine Cur.set ?_ ?_ _) | omega)), (by repeat (first | (with_reducible assumption) | (with_reducible exact only_refl _ _) | (with_reducible refine only_drawn ?_ _) | (with_reducible refine only_drew ?_) | (with_reducible refine only_alloc ?_ _) | (with_reducible refine only_setCell ?_ ?_ _) | omega))⟩
def DrewLim (w0 : World) (a : Option Addr) (n c b : Nat) (w : World) (e : Ending) (w' : World) : Prop :=
  ∃ x y : Int, 0 ≤ x ∧ x ≤ 100 ∧ 0 ≤ y ∧ y ≤ 20 ∧ e = .returned (.agg #[.int .i64 x, .int .i64 y]) ∧ Cur w0 a n c b w' ∧ w.grownBy w' (some b)
set_option maxRecDepth 100000 in
set_option maxHeartbeats 1000000 in
theorem spec_l14Limits (w0 : World) (a : Option Addr) (n c b : Nat) (bs : List Int) (w : World) (ha : IsInts .u8 w0 a n c bs) (hs : n ≤ 1048576) (hC0 : Cur w0 a n c b w) :
    Calls Try.prog 87 #[.pointer (some ⟨b, 0, none⟩)] w (DrewLim w0 a n c b w) := by
  have HA := hide ha
  clear ha
  have hlb := hC0.lt
  have hwb : w0.heap.size ≤ b := by obtain ⟨_, _, _, _, _, h⟩ := hC0; exact h
  have k0 := alloc_at w (.cells #[.int .i64 0, .int .i64 0] 57) w.heap.size rfl
  have hI1 := hide (ints_lit_at (w.alloc (.cells #[.int .i64 0, .int .i64 0] 57)) 3 [0, 10, 50, 100] 4 _ (w.heap.size + 1) (by simp) rfl rfl (by omega) (by simp))
  have hC1 := hide ((hC0.alloc (.cells #[.int .i64 0, .int .i64 0] 57)).alloc (.cells ([(0 : Int), 10, 50, 100].map (Value.int .i64)).toArray 3))
  go_enter Try.func87, Try.ntmps87
  go_wp2_with fail
  refine (spec_l01PickInt w0 a n c b bs _ _ 4 4 [0, 10, 50, 100] HA.out hs hC1.out hI1.out (by omega) (by intro g o hg; injection hg with hg; injection hg with hg; omega)).mono ?_
  rintro e w1 ⟨x, x_mem, rfl, hCx, hgx⟩
  have sx := hgx.size
  simp only [World.size_alloc] at sx
  have k1 := (hgx.block w.heap.size (by simp; omega) (by simp; omega)).trans ((alloc_lt _ _ _ (by simp)).trans k0)
  have hI2 := hide (ints_lit_at w1 3 [0, 2, 5, 20] 4 _ w1.heap.size rfl rfl rfl (by omega) (by simp))
  have hC2 := hide (hCx.alloc (.cells ([(0 : Int), 2, 5, 20].map (Value.int .i64)).toArray 3))
  have hG2 := hide (only_alloc (only_trans (only_alloc (only_alloc (only_refl w (some b)) _) _) hgx) (.cells ([(0 : Int), 2, 5, 20].map (Value.int .i64)).toArray 3))
  clear hgx
  go_wp2_with fail
  refine (spec_l01PickInt w0 a n c b bs _ _ 4 4 [0, 2, 5, 20] HA.out hs hC2.out hI2.out (by omega) (by intro g o hg; injection hg with hg; injection hg with hg; have := hC0.lt; omega)).mono ?_
  rintro e w2 ⟨y, y_mem, rfl, hCy, hgy⟩
  have k2 := (hgy.block w.heap.size (by simp; omega) (by simp; omega)).trans ((alloc_lt _ _ _ (by omega)).trans k1)
  have e0 := cell_blk k2 0; have e1 := cell_blk k2 1; have ef := fun o => free_blk k2 o
  have hl2 := lt_blk k2
  have hG3 := hide (only_trans hG2.out hgy)
  clear k0 k1 k2 hgy
  go_wp2_with fail
  refine bodyPost_ret (by simp [results, Try.results87, go_sem, *]; try rfl) rfl ?_
  exact ⟨x, y, by simp at x_mem; omega, by simp at x_mem; omega, by simp at y_mem; omega, by simp at y_mem; omega, rfl, (hCy.set (g := w.heap.size) (.inl (by omega)) _).set (g := w.heap.size) (.inl (by omega)) _, only_setCell (only_setCell hG3.out (.inr (Nat.le_refl _)) _) (.inr (Nat.le_refl _)) _⟩
set_option maxRecDepth 100000 in
set_option maxHeartbeats 1000000 in
theorem spec_l02Word (w0 : World) (a : Option Addr) (n c b : Nat) (bs : List Int) (w : World) (ha : IsInts .u8 w0 a n c bs) (hs : n ≤ 1048576) (hC0 : Cur w0 a n c b w) :
    Calls Try.prog 66 #[.pointer (some ⟨b, 0, none⟩)] w (Drew w0 a n c b w 0 4294967295) := by
  have HA := hide ha
  clear ha
  have hlb := hC0.lt
  have hwb : w0.heap.size ≤ b := by obtain ⟨_, _, _, _, _, h⟩ := hC0; exact h
  go_enter Try.func66, Try.ntmps66
  go_wp2_with fail
  refine (spec_l01Below w0 a n c b bs _ (4) HA.out hs (by omega) (by repeat (first | (with_reducible assumption) | (with_reducible refine Cur.alloc ?_ _) | (with_reducible refine Cur.drawn ?_ _) | (with_reducible refine Cur.drew ?_) | (with_reducible refine Cur.set ?_ ?_ _) | omega)) ).mono ?_
  rintro e w1 ⟨y, y_lo, y_hi, rfl, hC1, h1⟩
  have s1 := h1.size
  try simp only [World.size_alloc, World.size_setCell, World.size_drew, World.heap_drewN] at s1
  have H1 : World.grownBy w w1 (some b) := only_next (by repeat (first | (with_reducible assumption) | (with_reducible exact only_refl _ _) | (with_reducible refine only_drawn ?_ _) | (with_reducible refine only_drew ?_) | (with_reducible refine only_alloc ?_ _) | (with_reducible refine only_setCell ?_ ?_ _) | omega)) h1
  have C1 := only_cells H1; have F1 := only_frees H1
  by_cases hif3 : y = 0
  · subst hif3
    go_wp2_with fail
    refine (spec_l01PickInt w0 a n c b bs (w1.alloc (.cells #[.int .i64 (0), .int .i64 (1), .int .i64 (4294967295), .int .i64 (2147483648), .int .i64 (65536), .int .i64 (305419896)] 3)) (some ⟨w1.heap.size, 0, none⟩) 6 6 [0, 1, 4294967295, 2147483648, 65536, 305419896] HA.out hs (by repeat (first | (with_reducible assumption) | (with_reducible refine Cur.alloc ?_ _) | (with_reducible refine Cur.drawn ?_ _) | (with_reducible refine Cur.drew ?_) | (with_reducible refine Cur.set ?_ ?_ _) | omega)) (ints_lit _ _ _ 6 _ rfl rfl (by omega) (by simp; try omega)) (by omega) (by intro g o hg; injection hg with hg; injection hg with hg; omega) ).mono ?_
    rintro e w2 ⟨z, z_mem, rfl, hC2, h2⟩
    have s2 := h2.size
    try simp only [World.size_alloc, World.size_setCell, World.size_drew, World.heap_drewN] at s2
    have B2_2 := h2
    have z2_0 : w1.heap.size < w2.heap.size := by omega
    have q2_0 := fun o => only_cell B2_2 (b := w1.heap.size) (o := o) (by go_size) (by omega)
    have f2_0 := fun o => only_free B2_2 (b := w1.heap.size) (o := o) (by go_size) (by omega)
    have H2 : World.grownBy w w2 (some b) := only_next (by repeat (first | (with_reducible assumption) | (with_reducible exact H1) | (with_reducible exact only_refl _ _) | (with_reducible refine only_drawn ?_ _) | (with_reducible refine only_drew ?_) | (with_reducible refine only_alloc ?_ _) | (with_reducible refine only_setCell ?_ ?_ _) | omega)) h2
    have C2 := only_cells H2; have F2 := only_frees H2
    go_wp2_with fail
    go_ret
    exact ⟨z, by simp at z_mem; omega, by simp at z_mem; omega, rfl, (by repeat (first | (with_reducible assumption) | (with_reducible refine Cur.alloc ?_ _) | (with_reducible refine Cur.drawn ?_ _) | (with_reducible refine Cur.drew ?_) | (with_reducible refine Cur.set ?_ ?_ _) | omega)), (by repeat (first | (with_reducible assumption) | (with_reducible exact only_refl _ _) | (with_reducible refine only_drawn ?_ _) | (with_reducible refine only_drew ?_) | (with_reducible refine only_alloc ?_ _) | (with_reducible refine only_setCell ?_ ?_ _) | omega))⟩
  · skip
    by_cases hif9 : y = 1
    · subst hif9
      go_wp2_with fail
      refine (spec_l01Below w0 a n c b bs _ (200) HA.out hs (by omega) (by repeat (first | (with_reducible assumption) | (with_reducible refine Cur.alloc ?_ _) | (with_reducible refine Cur.drawn ?_ _) | (with_reducible refine Cur.drew ?_) | (with_reducible refine Cur.set ?_ ?_ _) | omega)) ).mono ?_
      rintro e w3 ⟨z, z_lo, z_hi, rfl, hC3, h3⟩
      have s3 := h3.size
      try simp only [World.size_alloc, World.size_setCell, World.size_drew, World.heap_drewN] at s3
      have H3 : World.grownBy w w3 (some b) := only_next (by repeat (first | (with_reducible assumption) | (with_reducible exact H1) | (with_reducible exact only_refl _ _) | (with_reducible refine only_drawn ?_ _) | (with_reducible refine only_drew ?_) | (with_reducible refine only_alloc ?_ _) | (with_reducible refine only_setCell ?_ ?_ _) | omega)) h3
      have C3 := only_cells H3; have F3 := only_frees H3
      go_wp2_with fail
      go_ret
      exact ⟨z, by omega, by omega, rfl, (by repeat (first | (with_reducible assumption) | (with_reducible refine Cur.alloc ?_ _) | (with_reducible refine Cur.drawn ?_ _) | (with_reducible refine Cur.drew ?_) | (with_reducible refine Cur.set ?_ ?_ _) | omega)), (by repeat (first | (with_reducible assumption) | (with_reducible exact only_refl _ _) | (with_reducible refine only_drawn ?_ _) | (with_reducible refine only_drew ?_) | (with_reducible refine only_alloc ?_ _) | (with_reducible refine only_setCell ?_ ?_ _) | omega))⟩
    · skip
      go_wp2_with fail
      refine (spec_l01Below w0 a n c b bs _ (65536) HA.out hs (by omega) (by repeat (first | (with_reducible assumption) | (with_reducible refine Cur.alloc ?_ _) | (with_reducible refine Cur.drawn ?_ _) | (with_reducible refine Cur.drew ?_) | (with_reducible refine Cur.set ?_ ?_ _) | omega)) ).mono ?_
      rintro e w4 ⟨z, z_lo, z_hi, rfl, hC4, h4⟩
      have s4 := h4.size
      try simp only [World.size_alloc, World.size_setCell, World.size_drew, World.heap_drewN] at s4
      have H4 : World.grownBy w w4 (some b) := only_next (by repeat (first | (with_reducible assumption) | (with_reducible exact H1) | (with_reducible exact only_refl _ _) | (with_reducible refine only_drawn ?_ _) | (with_reducible refine only_drew ?_) | (with_reducible refine only_alloc ?_ _) | (with_reducible refine only_setCell ?_ ?_ _) | omega)) h4
      have C4 := only_cells H4; have F4 := only_frees H4
      go_wp2_with fail
      refine (spec_l01Below w0 a n c b bs _ (65536) HA.out hs (by omega) (by repeat (first | (with_reducible assumption) | (with_reducible refine Cur.alloc ?_ _) | (with_reducible refine Cur.drawn ?_ _) | (with_reducible refine Cur.drew ?_) | (with_reducible refine Cur.set ?_ ?_ _) | omega)) ).mono ?_
      rintro e w5 ⟨u, u_lo, u_hi, rfl, hC5, h5⟩
      have s5 := h5.size
      try simp only [World.size_alloc, World.size_setCell, World.size_drew, World.heap_drewN] at s5
      have H5 : World.grownBy w w5 (some b) := only_next (by repeat (first | (with_reducible assumption) | (with_reducible exact H4) | (with_reducible exact only_refl _ _) | (with_reducible refine only_drawn ?_ _) | (with_reducible refine only_drew ?_) | (with_reducible refine only_alloc ?_ _) | (with_reducible refine only_setCell ?_ ?_ _) | omega)) h5
      have C5 := only_cells H5; have F5 := only_frees H5
      go_wp2_with fail
      go_ret
      exact ⟨z * 65536 + u, by omega, by omega, rfl, (by repeat (first | (with_reducible assumption) | (with_reducible refine Cur.alloc ?_ _) | (with_reducible refine Cur.drawn ?_ _) | (with_reducible refine Cur.drew ?_) | (with_reducible refine Cur.set ?_ ?_ _) | omega)), (by repeat (first | (with_reducible assumption) | (with_reducible exact only_refl _ _) | (with_reducible refine only_drawn ?_ _) | (with_reducible refine only_drew ?_) | (with_reducible refine only_alloc ?_ _) | (with_reducible refine only_setCell ?_ ?_ _) | omega))⟩
def DrewAd (w0 : World) (a : Option Addr) (n c b : Nat) (g : Ge) (w : World) (e : Ending) (w' : World) : Prop :=
  ∃ x : Ad, adOk g x = true ∧ e = .returned (.agg #[.int .i64 x.b, .int .i64 x.r, .int .i64 x.c]) ∧ Cur w0 a n c b w' ∧ w.grownBy w' (some b)
set_option maxRecDepth 100000 in
set_option maxHeartbeats 2000000 in
theorem spec_l03Addr (w0 : World) (a : Option Addr) (n c b : Nat) (bs : List Int) (g : Ge) (w : World) (hg : geoOk g = true) (ha : IsInts .u8 w0 a n c bs) (hs : n ≤ 1048576) (hC0 : Cur w0 a n c b w) :
    Calls Try.prog 89 #[.pointer (some ⟨b, 0, none⟩), .agg #[.int .i64 g.gr, .int .i64 g.bk, .int .i64 g.rw, .int .i64 g.cl]] w (DrewAd w0 a n c b g w) := by
  have HA := hide ha
  clear ha
  have hlb := hC0.lt
  have hwb : w0.heap.size ≤ b := by obtain ⟨_, _, _, _, _, h⟩ := hC0; exact h
  obtain ⟨bc, hbc⟩ : ∃ bc, bankCnt g = bc := ⟨_, rfl⟩
  have hbd : 1 ≤ bc ∧ bc ≤ 8 := by rw [← hbc]; unfold bankCnt; rw [if_pos hg]; exact bank_bd hg
  have hb1 := hbd.1; have hb2 := hbd.2
  obtain ⟨_, _, _, _, g5, g6, g7, g8⟩ := geoOk_bd hg
  have HBC := hide hbc; have HG := hide hg
  clear hbd hbc hg
  go_enter Try.func89, Try.ntmps89
  go_wp2_with fail
  have k0 : ((w.alloc (.cells #[.int .i64 g.gr, .int .i64 g.bk, .int .i64 g.rw, .int .i64 g.cl] 30)).alloc (.cells #[.int .i64 0, .int .i64 0, .int .i64 0] 44)).heap[w.heap.size]? = some (.cells #[.int .i64 g.gr, .int .i64 g.bk, .int .i64 g.rw, .int .i64 g.cl] 30 (0, 0)) := by rw [alloc_lt _ _ _ (by simp)]; exact alloc_at _ _ _ rfl
  have k1 : ((w.alloc (.cells #[.int .i64 g.gr, .int .i64 g.bk, .int .i64 g.rw, .int .i64 g.cl] 30)).alloc (.cells #[.int .i64 0, .int .i64 0, .int .i64 0] 44)).heap[w.heap.size + 1]? = some (.cells #[.int .i64 0, .int .i64 0, .int .i64 0] 44 (0, 0)) := alloc_at _ _ _ (by simp)
  have HC := hide ((hC0.alloc (.cells #[.int .i64 g.gr, .int .i64 g.bk, .int .i64 g.rw, .int .i64 g.cl] 30)).alloc (.cells #[.int .i64 0, .int .i64 0, .int .i64 0] 44))
  have HGW : w.grownBy ((w.alloc (.cells #[.int .i64 g.gr, .int .i64 g.bk, .int .i64 g.rw, .int .i64 g.cl] 30)).alloc (.cells #[.int .i64 0, .int .i64 0, .int .i64 0] 44)) (some b) := only_alloc (only_alloc (only_refl w (some b)) _) _
  have hsz : w.heap.size + 2 ≤ ((w.alloc (.cells #[.int .i64 g.gr, .int .i64 g.bk, .int .i64 g.rw, .int .i64 g.cl] 30)).alloc (.cells #[.int .i64 0, .int .i64 0, .int .i64 0] 44)).heap.size := by simp
  generalize ((w.alloc (.cells #[.int .i64 g.gr, .int .i64 g.bk, .int .i64 g.rw, .int .i64 g.cl] 30)).alloc (.cells #[.int .i64 0, .int .i64 0, .int .i64 0] 44)) = W at *
  have e0 := cell_blk k0 0; have e1 := cell_blk k0 1; have e2 := cell_blk k0 2; have e3 := cell_blk k0 3
  have d0 := cell_blk k1 0; have d1 := cell_blk k1 1; have d2 := cell_blk k1 2; have df := fun o => free_blk k1 o
  clear k0 k1 hC0
  go_region_held3 (fun v => v.cell? ⟨w.heap.size, 0, none⟩ = some (.int .i64 g.gr) ∧ v.cell? ⟨w.heap.size, 1, none⟩ = some (.int .i64 g.bk) ∧ v.cell? ⟨w.heap.size, 2, none⟩ = some (.int .i64 g.rw) ∧ v.cell? ⟨w.heap.size, 3, none⟩ = some (.int .i64 g.cl)) (first | go_keep | simp [go_sem, *]) (first | (go_at_call 65; refine (spec_BankCount_cur w0 a n c b g bc _ HBC.out HC.out.drew).mono ?_; rintro e v1 ⟨rfl, hC1, h1⟩; have s1 := h1.size; (try simp only [World.size_drew] at s1); have q1 := fun o => only_cell h1 (b := w.heap.size) (o := o) (by first | omega | (simp only [World.size_drew]; omega)) (by omega); have f1 := fun o => only_free h1 (b := w.heap.size + 1) (o := o) (by first | omega | (simp only [World.size_drew]; omega)) (by omega); have g1 := fun o => only_cell h1 (b := w.heap.size + 1) (o := o) (by first | omega | (simp only [World.size_drew]; omega)) (by omega)) | (go_at_call 63; first | ((with_reducible refine (spec_l01Below w0 a n c b bs _ bc HA.out hs (by omega) hC1).mono ?_); rintro e v2 ⟨x, x0, x1, rfl, hCx, hx⟩; have sx := hx.size; (try simp only [World.size_drew] at sx); have qx := fun o => only_cell hx (b := w.heap.size) (o := o) (by first | omega | (simp only [World.size_drew]; omega)) (by omega); have fx := fun o => only_free hx (b := w.heap.size + 1) (o := o) (by first | omega | (simp only [World.size_drew]; omega)) (by omega); have gx := fun o => only_cell hx (b := w.heap.size + 1) (o := o) (by first | omega | (simp only [World.size_drew]; omega)) (by omega)) | ((with_reducible refine (spec_l01Below w0 a n c b bs _ g.rw HA.out hs (by omega) hCx).mono ?_); rintro e v3 ⟨y, y0, y1, rfl, hCy, hy⟩; have sy := hy.size; (try simp only [World.size_drew] at sy); have qy := fun o => only_cell hy (b := w.heap.size) (o := o) (by first | omega | (simp only [World.size_drew]; omega)) (by omega); have fy := fun o => only_free hy (b := w.heap.size + 1) (o := o) (by first | omega | (simp only [World.size_drew]; omega)) (by omega); have gy := fun o => only_cell hy (b := w.heap.size + 1) (o := o) (by first | omega | (simp only [World.size_drew]; omega)) (by omega)) | ((with_reducible refine (spec_l01Below w0 a n c b bs _ g.cl HA.out hs (by omega) hCy).mono ?_); rintro e v4 ⟨z, z0, z1, rfl, hCz, hz⟩; have sz := hz.size; (try simp only [World.size_drew] at sz); have qz := fun o => only_cell hz (b := w.heap.size) (o := o) (by first | omega | (simp only [World.size_drew]; omega)) (by omega); have fz := fun o => only_free hz (b := w.heap.size + 1) (o := o) (by first | omega | (simp only [World.size_drew]; omega)) (by omega); have gz := fun o => only_cell hz (b := w.heap.size + 1) (o := o) (by first | omega | (simp only [World.size_drew]; omega)) (by omega))))
  go_wp2_with fail
  refine bodyPost_ret (by simp [results, Try.results89, go_sem, *]; try rfl) rfl ?_
  exact ⟨⟨x, y, z⟩, by simp only [adOk, HBC.out, Bool.and_eq_true, btw_true]; omega, rfl, ((hCz.set (g := w.heap.size + 1) (.inl (by omega)) _).set (g := w.heap.size + 1) (.inl (by omega)) _).set (g := w.heap.size + 1) (.inl (by omega)) _, only_setCell (only_setCell (only_setCell (only_trans (only_trans (only_trans (only_trans HGW (only_undrew h1)) hx) hy) hz) (.inr (by omega)) _) (.inr (by omega)) _) (.inr (by omega)) _⟩
end Go.Proofs.Ytkhcepmileiejaa
