/- The power rule's commands: for every drawn input FnPower answers true. No condition. -/
import Derived.Test.YtlaoeaecbdmebaaDrawPower
import Derived.Test.YtlaoeaecbdmebaaPower
import Derived.Deep.RegionHeld3
set_option linter.unusedSimpArgs false
set_option linter.unusedVariables false
namespace Go.Proofs.Ytlaoeaecbdmebaa
open Go.RowKit Go.ChangeShapes Go.WideShapes Go.ChangeAt Go.Joins Go.Deep
open Go.ChangeMaps (open_string shut_string)

theorem new_cur (a : Option Addr) (n c : Nat) (bs : List Int) (w : World) (N : Nat) (hN : N ≤ w.heap.size) (ha : IsInts .u8 w a n c bs) (hs : n ≤ 1048576) :
    Calls Try.prog 73 #[.slice a n c] w fun e w' => ∃ b, e = .returned (.pointer (some ⟨b, 0, none⟩)) ∧ Cur w a n c b w' ∧ N ≤ b ∧ b < w'.heap.size ∧ Below w.heap.size w w' := by
  refine (spec_l01New a n c bs w ha hs).mono ?_
  rintro e w' ⟨b, rfl, hC, hb⟩
  have hC' := hC
  obtain ⟨_, _, _, _, hB, hwb⟩ := hC'
  exact ⟨b, rfl, hC, by omega, hb, hB⟩
theorem cur_below {w w0 w1 : World} {a : Option Addr} {n c b : Nat} (hC : Cur w0 a n c b w1) (hB : Below w.heap.size w w0) (hs : w.heap.size ≤ w0.heap.size) : Below w.heap.size w w1 := by
  obtain ⟨_, _, _, _, hB', _⟩ := hC
  exact bthen hB hB' hs
theorem cur_ints {w w0 w1 : World} {a : Option Addr} {n c b : Nat} {bs : List Int} (h : IsInts .u8 w a n c bs) (hC : Cur w0 a n c b w1) (hB : Below w.heap.size w w0) : IsInts .u8 w0 a n c bs := h.below hB (Nat.le_refl _)

set_option maxHeartbeats 800000 in
theorem spec_DrawPowerWant (a : Option Addr) (n c : Nat) (bs : List Int) (w : World) (ha : IsInts .u8 w a n c bs) (hs : n ≤ 1048576) :
    Calls Try.prog 22 #[.slice a n c] w fun e w' => ∃ (d s st t i : Int) (u : Bool), e = .returned (.tuple #[.agg #[.int .i64 d, .int .i64 s], .agg #[.int .i64 st, .int .i64 t, .int .i64 i], .bool u]) ∧ Below w.heap.size w w' := by
  have HA := hide ha
  clear ha
  go_enter Try.func22, Try.ntmps22
  go_wp2_with fail
  refine (new_cur a n c bs _ (w.heap.size + 2) (by simp only [World.size_alloc]; omega) (HA.out.below (B := w.heap.size) (by go_grown) (Nat.le_refl _)) hs).mono ?_
  rintro e w1 ⟨b, rfl, hC1, hwb, hlb, h1⟩
  replace h1 := only_of_below h1 (some b)
  have s1 := h1.size
  try simp only [World.size_alloc, World.size_setCell, World.size_drew, World.heap_drewN] at s1
  have B1_1 := h1
  have z1_0 : w.heap.size < w1.heap.size := by omega
  have q1_0 := fun o => only_cell B1_1 (b := w.heap.size) (o := o) (by go_size) (by omega)
  have f1_0 := fun o => only_free B1_1 (b := w.heap.size) (o := o) (by go_size) (by omega)
  have z1_1 : w.heap.size + 1 < w1.heap.size := by omega
  have q1_1 := fun o => only_cell B1_1 (b := w.heap.size + 1) (o := o) (by go_size) (by omega)
  have f1_1 := fun o => only_free B1_1 (b := w.heap.size + 1) (o := o) (by go_size) (by omega)
  have H1 : World.grownBy w w1 (some b) := only_next (by repeat (first | (with_reducible assumption) | (with_reducible exact only_refl _ _) | (with_reducible refine only_drawn ?_ _) | (with_reducible refine only_drew ?_) | (with_reducible refine only_alloc ?_ _) | (with_reducible refine only_setCell ?_ ?_ _) | omega)) h1
  have C1 := only_cells H1; have F1 := only_frees H1
  have HA0 := hide (cur_ints HA.out hC1 (by go_grown))
  go_wp2_with fail
  refine (spec_l24Rule _ a n c b bs _ HA0.out hs (by repeat (first | (with_reducible assumption) | (with_reducible refine Cur.alloc ?_ _) | (with_reducible refine Cur.drawn ?_ _) | (with_reducible refine Cur.drew ?_) | (with_reducible refine Cur.set ?_ ?_ _) | omega))).mono ?_
  rintro e w2 ⟨d, s, rfl, hC2, h2⟩
  have s2 := h2.size
  try simp only [World.size_alloc, World.size_setCell, World.size_drew, World.heap_drewN] at s2
  have B2_1 := only_next (by first | (with_reducible exact B1_1) | (repeat (first | (with_reducible assumption) | (with_reducible exact B1_1) | (with_reducible exact only_refl _ _) | (with_reducible refine only_drawn ?_ _) | (with_reducible refine only_drew ?_) | (with_reducible refine only_alloc ?_ _) | (with_reducible refine only_setCell ?_ ?_ _) | omega))) h2
  have z2_0 : w.heap.size < w2.heap.size := by omega
  have q2_0 := fun o => only_cell B2_1 (b := w.heap.size) (o := o) (by go_size) (by omega)
  have f2_0 := fun o => only_free B2_1 (b := w.heap.size) (o := o) (by go_size) (by omega)
  have z2_1 : w.heap.size + 1 < w2.heap.size := by omega
  have q2_1 := fun o => only_cell B2_1 (b := w.heap.size + 1) (o := o) (by go_size) (by omega)
  have f2_1 := fun o => only_free B2_1 (b := w.heap.size + 1) (o := o) (by go_size) (by omega)
  have H2 : World.grownBy w w2 (some b) := only_next (by repeat (first | (with_reducible assumption) | (with_reducible exact H1) | (with_reducible exact only_refl _ _) | (with_reducible refine only_drawn ?_ _) | (with_reducible refine only_drew ?_) | (with_reducible refine only_alloc ?_ _) | (with_reducible refine only_setCell ?_ ?_ _) | omega)) h2
  have C2 := only_cells H2; have F2 := only_frees H2
  go_wp2_with fail
  refine (spec_l24Power _ a n c b bs _ HA0.out hs (by repeat (first | (with_reducible assumption) | (with_reducible refine Cur.alloc ?_ _) | (with_reducible refine Cur.drawn ?_ _) | (with_reducible refine Cur.drew ?_) | (with_reducible refine Cur.set ?_ ?_ _) | omega))).mono ?_
  rintro e w3 ⟨st, t, i, rfl, hC3, h3⟩
  have s3 := h3.size
  try simp only [World.size_alloc, World.size_setCell, World.size_drew, World.heap_drewN] at s3
  have B3_1 := only_next (by first | (with_reducible exact B2_1) | (repeat (first | (with_reducible assumption) | (with_reducible exact B2_1) | (with_reducible exact only_refl _ _) | (with_reducible refine only_drawn ?_ _) | (with_reducible refine only_drew ?_) | (with_reducible refine only_alloc ?_ _) | (with_reducible refine only_setCell ?_ ?_ _) | omega))) h3
  have z3_0 : w.heap.size < w3.heap.size := by omega
  have q3_0 := fun o => only_cell B3_1 (b := w.heap.size) (o := o) (by go_size) (by omega)
  have f3_0 := fun o => only_free B3_1 (b := w.heap.size) (o := o) (by go_size) (by omega)
  have z3_1 : w.heap.size + 1 < w3.heap.size := by omega
  have q3_1 := fun o => only_cell B3_1 (b := w.heap.size + 1) (o := o) (by go_size) (by omega)
  have f3_1 := fun o => only_free B3_1 (b := w.heap.size + 1) (o := o) (by go_size) (by omega)
  have H3 : World.grownBy w w3 (some b) := only_next (by repeat (first | (with_reducible assumption) | (with_reducible exact H2) | (with_reducible exact only_refl _ _) | (with_reducible refine only_drawn ?_ _) | (with_reducible refine only_drew ?_) | (with_reducible refine only_alloc ?_ _) | (with_reducible refine only_setCell ?_ ?_ _) | omega)) h3
  have C3 := only_cells H3; have F3 := only_frees H3
  go_wp2_with fail
  refine (spec_l01Once _ a n c b bs _ 2 HA0.out hs (by omega) (by repeat (first | (with_reducible assumption) | (with_reducible refine Cur.alloc ?_ _) | (with_reducible refine Cur.drawn ?_ _) | (with_reducible refine Cur.drew ?_) | (with_reducible refine Cur.set ?_ ?_ _) | omega))).mono ?_
  rintro e w4 ⟨u, rfl, hC4, h4⟩
  have s4 := h4.size
  try simp only [World.size_alloc, World.size_setCell, World.size_drew, World.heap_drewN] at s4
  have B4_1 := only_next (by first | (with_reducible exact B3_1) | (repeat (first | (with_reducible assumption) | (with_reducible exact B3_1) | (with_reducible exact only_refl _ _) | (with_reducible refine only_drawn ?_ _) | (with_reducible refine only_drew ?_) | (with_reducible refine only_alloc ?_ _) | (with_reducible refine only_setCell ?_ ?_ _) | omega))) h4
  have z4_0 : w.heap.size < w4.heap.size := by omega
  have q4_0 := fun o => only_cell B4_1 (b := w.heap.size) (o := o) (by go_size) (by omega)
  have f4_0 := fun o => only_free B4_1 (b := w.heap.size) (o := o) (by go_size) (by omega)
  have z4_1 : w.heap.size + 1 < w4.heap.size := by omega
  have q4_1 := fun o => only_cell B4_1 (b := w.heap.size + 1) (o := o) (by go_size) (by omega)
  have f4_1 := fun o => only_free B4_1 (b := w.heap.size + 1) (o := o) (by go_size) (by omega)
  have H4 : World.grownBy w w4 (some b) := only_next (by repeat (first | (with_reducible assumption) | (with_reducible exact H3) | (with_reducible exact only_refl _ _) | (with_reducible refine only_drawn ?_ _) | (with_reducible refine only_drew ?_) | (with_reducible refine only_alloc ?_ _) | (with_reducible refine only_setCell ?_ ?_ _) | omega)) h4
  have C4 := only_cells H4; have F4 := only_frees H4
  have hBe : Below w.heap.size w w4 := cur_below hC4 (by go_grown) (by simp only [World.size_alloc]; omega)
  go_wp2_with fail
  refine bodyPost_ret (by simp [results, Try.results22, go_sem, *]; try rfl) rfl ?_
  exact ⟨_, _, _, _, _, _, rfl, by go_grown⟩

theorem want_is (d l s t i : Int) (b : Bool) (k : Int) (h : powWant d l s t i b = k) (w : World) :
    Calls Try.prog 23 #[.agg #[.int .i64 d, .int .i64 l], .agg #[.int .i64 s, .int .i64 t, .int .i64 i], .bool b] w fun e w' => e = .returned (.int .i64 k) ∧ Below w.heap.size w w' := by subst h; exact impl_PowerWant d l s t i b w
theorem srule_is (d l : Int) (b : Bool) (h : ruleOkB d l = b) (w : World) :
    Calls Try.prog 24 #[.agg #[.int .i64 d, .int .i64 l]] w fun e w' => e = .returned (.bool b) ∧ Below w.heap.size w w' := by subst h; exact spec_PowerRuleOk d l w
theorem irule_is (d l : Int) (b : Bool) (h : ruleOkB d l = b) (w : World) :
    Calls Try.prog 27 #[.agg #[.int .i64 d, .int .i64 l]] w fun e w' => e = .returned (.bool b) ∧ Below w.heap.size w w' := by subst h; exact impl_PowerRuleOk d l w
theorem spow_is (s t i : Int) (b : Bool) (h : powOkB s t i = b) (w : World) :
    Calls Try.prog 25 #[.agg #[.int .i64 s, .int .i64 t, .int .i64 i]] w fun e w' => e = .returned (.bool b) ∧ Below w.heap.size w w' := by subst h; exact spec_PowerOk s t i w
theorem ipow_is (s t i : Int) (b : Bool) (h : powOkB s t i = b) (w : World) :
    Calls Try.prog 26 #[.agg #[.int .i64 s, .int .i64 t, .int .i64 i]] w fun e w' => e = .returned (.bool b) ∧ Below w.heap.size w w' := by subst h; exact impl_PowerOk s t i w

theorem want_cases {d l s t i k : Int} {u : Bool} (hr : ruleOkB d l = true) (hp : powOkB s t i = true) (h : powWant d l s t i u = k) :
    (u = true ∧ s = 0 ∧ k = 0) ∨ (u = false ∧ k = 0) ∨ (u = true ∧ s = 1 ∧ k = 7) ∨ (u = true ∧ s = 2 ∧ k = 9) ∨ (u = false ∧ s = 0 ∧ k = 8 ∧ d ≤ i) ∨ (u = false ∧ s = 0 ∧ k = 6 ∧ d ≤ i) ∨ (u = false ∧ s = 1 ∧ k = 7 ∧ d ≤ i) := by
  obtain ⟨⟨hs0, hs2⟩, _, _⟩ := powOkB_true.1 hp
  have hdl : d < l := by simp [ruleOkB] at hr; omega
  unfold powWant at h
  rw [if_pos ⟨hr, hp⟩] at h
  rcases (show s = 0 ∨ s = 1 ∨ s = 2 by omega) with rfl | rfl | rfl <;> cases u <;> simp at h
  · split at h
    · right; right; right; right; left; exact ⟨rfl, rfl, h.symm, by omega⟩
    · split at h
      · right; right; right; right; right; left; exact ⟨rfl, rfl, h.symm, by omega⟩
      · right; left; exact ⟨rfl, h.symm⟩
  · left; exact ⟨rfl, rfl, h.symm⟩
  · split at h
    · right; right; right; right; right; right; exact ⟨rfl, rfl, h.symm, by omega⟩
    · right; left; exact ⟨rfl, h.symm⟩
  · right; right; left; exact ⟨rfl, rfl, h.symm⟩
  · right; left; exact ⟨rfl, h.symm⟩
  · right; right; right; left; exact ⟨rfl, rfl, h.symm⟩
theorem powIdle_ok {s t i : Int} (hp : powOkB s t i = true) : powIdle s t i true = 0 := by unfold powIdle; rw [if_pos hp]; simp
theorem idle_is (s t i : Int) (b : Bool) (r : Int) (h : powIdle s t i b = r) (w : World) :
    Calls Try.prog 28 #[.agg #[.int .i64 s, .int .i64 t, .int .i64 i], .bool b] w fun e w' => e = .returned (.agg #[.int .i64 s, .int .i64 t, .int .i64 r]) ∧ Below w.heap.size w w' := by subst h; exact impl_PowerIdle s t i b w
theorem change_is (s t i k to : Int) (hp : powOkB s t i = true) (hf : powFrom k = s) (ht : powTo k = to) (w : World) :
    Calls Try.prog 29 #[.agg #[.int .i64 s, .int .i64 t, .int .i64 i], .int .i64 k, .int .i64 1000000] w fun e w' => e = .returned (.tuple #[.agg #[.int .i64 to, .int .i64 1000000, .int .i64 i], .bool true]) ∧ Below w.heap.size w w' := by
  have := impl_PowerChange s t i k 1000000 w
  have hc : powChanges s t i k 1000000 = true := by
    obtain ⟨_, ⟨h1, h2⟩, _⟩ := powOkB_true.1 hp
    unfold powChanges
    rw [hp, hf, btw_mk h2 (by omega)]; simp
  rw [powChanged_eq] at this
  unfold chS chT at this
  rw [hc, if_pos rfl, if_pos rfl, ht] at this
  exact this
theorem fld_pow (s t i : Int) (w : World) : (Instr.field 36 (.agg #[.int .i64 s, .int .i64 t, .int .i64 i]) 2).run Try.prog w = .ok (.int .i64 i) w := by kernel_rfl

set_option maxHeartbeats 1000000 in
theorem FnPower_walk (a : Option Addr) (n c : Nat) (zs : List Int) (w : World) (ha : IsInts .u8 w a n c zs) :
    Calls Try.prog 4 #[.slice a n c] w fun e w' => e = .returned (.bool true) ∧ Below w.heap.size w w' := by
  have hm : c ≤ 9223372036854775807 := ha.2.2.1
  have hc := ha.2.1
  by_cases hs : n ≤ 1048576
  · have HA := hide ha
    clear ha
    go_enter Try.func4, Try.ntmps4
    go_wp2_with fail
    refine (laws_big a n c _ hs).mono ?_
    rintro e w' ⟨rfl, rfl⟩
    go_wp2_with fail
    refine (spec_DrawPowerWant a n c _ _ HA.out hs).mono ?_
    rintro e v1 ⟨d, s, st, t, i, u, rfl, hV⟩
    go_wp2_with fail
    by_cases hok : ruleOkB d s = true ∧ powOkB st t i = true
    · obtain ⟨hr, hp⟩ := hok
      obtain ⟨⟨hs0, hs2⟩, ⟨ht0, ht1⟩, hi0, hi1⟩ := powOkB_true.1 hp
      obtain ⟨k, hk⟩ : ∃ k, powWant d s st t i u = k := ⟨_, rfl⟩
      rcases want_cases hr hp hk with ⟨rfl, rfl, rfl⟩ | ⟨rfl, rfl⟩ | ⟨rfl, rfl, rfl⟩ | ⟨rfl, rfl, rfl⟩ | ⟨rfl, rfl, rfl, hdi⟩ | ⟨rfl, rfl, rfl, hdi⟩ | ⟨rfl, rfl, rfl, hdi⟩
      · have hfd := fld_pow 0 t 0
        have hI := powIdle_ok hp
        go_wp2_with fail
        refine (want_is _ _ _ _ _ _ 0 hk _).mono ?_
        rintro e w1 ⟨rfl, h1⟩
        have s1 := h1.size
        try simp only [World.size_alloc, World.size_setCell, World.size_drew, World.heap_drewN] at s1
        have B1_1 := h1
        have z1_0 : v1.heap.size < w1.heap.size := by omega
        have q1_0 := fun o => (bcell B1_1).1 (v1.heap.size) o (by go_size)
        have f1_0 := fun o => (bcell B1_1).2 (v1.heap.size) o (by go_size)
        have z1_1 : v1.heap.size + 1 < w1.heap.size := by omega
        have q1_1 := fun o => (bcell B1_1).1 (v1.heap.size + 1) o (by go_size)
        have f1_1 := fun o => (bcell B1_1).2 (v1.heap.size + 1) o (by go_size)
        have H1 : Below v1.heap.size v1 w1 := bthen (by go_grown) h1 (by go_size)
        have C1 := (bcell H1).1; have F1 := (bcell H1).2
        go_wp2_with fail
        refine (srule_is _ _ true hr _).mono ?_
        rintro e w2 ⟨rfl, h2⟩
        have s2 := h2.size
        try simp only [World.size_alloc, World.size_setCell, World.size_drew, World.heap_drewN] at s2
        have B2_1 := bnext (by first | (with_reducible exact B1_1) | exact (bgrow B1_1 (by go_size) (by go_grown))) h2 (by go_size)
        have z2_0 : v1.heap.size < w2.heap.size := by omega
        have q2_0 := fun o => (bcell B2_1).1 (v1.heap.size) o (by go_size)
        have f2_0 := fun o => (bcell B2_1).2 (v1.heap.size) o (by go_size)
        have z2_1 : v1.heap.size + 1 < w2.heap.size := by omega
        have q2_1 := fun o => (bcell B2_1).1 (v1.heap.size + 1) o (by go_size)
        have f2_1 := fun o => (bcell B2_1).2 (v1.heap.size + 1) o (by go_size)
        have H2 : Below v1.heap.size v1 w2 := bthen (by go_grown) h2 (by go_size)
        have C2 := (bcell H2).1; have F2 := (bcell H2).2
        go_wp2_with fail
        refine (spow_is _ _ _ true hp _).mono ?_
        rintro e w3 ⟨rfl, h3⟩
        have s3 := h3.size
        try simp only [World.size_alloc, World.size_setCell, World.size_drew, World.heap_drewN] at s3
        have B3_1 := bnext (by first | (with_reducible exact B2_1) | exact (bgrow B2_1 (by go_size) (by go_grown))) h3 (by go_size)
        have z3_0 : v1.heap.size < w3.heap.size := by omega
        have q3_0 := fun o => (bcell B3_1).1 (v1.heap.size) o (by go_size)
        have f3_0 := fun o => (bcell B3_1).2 (v1.heap.size) o (by go_size)
        have z3_1 : v1.heap.size + 1 < w3.heap.size := by omega
        have q3_1 := fun o => (bcell B3_1).1 (v1.heap.size + 1) o (by go_size)
        have f3_1 := fun o => (bcell B3_1).2 (v1.heap.size + 1) o (by go_size)
        have H3 : Below v1.heap.size v1 w3 := bthen (by go_grown) h3 (by go_size)
        have C3 := (bcell H3).1; have F3 := (bcell H3).2
        go_wp2_with fail
        refine (idle_is _ _ _ _ 0 hI _).mono ?_
        rintro e w4 ⟨rfl, h4⟩
        have s4 := h4.size
        try simp only [World.size_alloc, World.size_setCell, World.size_drew, World.heap_drewN] at s4
        have B4_1 := bnext (by first | (with_reducible exact B3_1) | exact (bgrow B3_1 (by go_size) (by go_grown))) h4 (by go_size)
        have z4_0 : v1.heap.size < w4.heap.size := by omega
        have q4_0 := fun o => (bcell B4_1).1 (v1.heap.size) o (by go_size)
        have f4_0 := fun o => (bcell B4_1).2 (v1.heap.size) o (by go_size)
        have z4_1 : v1.heap.size + 1 < w4.heap.size := by omega
        have q4_1 := fun o => (bcell B4_1).1 (v1.heap.size + 1) o (by go_size)
        have f4_1 := fun o => (bcell B4_1).2 (v1.heap.size + 1) o (by go_size)
        have H4 : Below v1.heap.size v1 w4 := bthen (by go_grown) h4 (by go_size)
        have C4 := (bcell H4).1; have F4 := (bcell H4).2
        go_wp2_with fail
        refine (irule_is _ _ true hr _).mono ?_
        rintro e w5 ⟨rfl, h5⟩
        have s5 := h5.size
        try simp only [World.size_alloc, World.size_setCell, World.size_drew, World.heap_drewN] at s5
        have B5_1 := bnext (by first | (with_reducible exact B4_1) | exact (bgrow B4_1 (by go_size) (by go_grown))) h5 (by go_size)
        have z5_0 : v1.heap.size < w5.heap.size := by omega
        have q5_0 := fun o => (bcell B5_1).1 (v1.heap.size) o (by go_size)
        have f5_0 := fun o => (bcell B5_1).2 (v1.heap.size) o (by go_size)
        have z5_1 : v1.heap.size + 1 < w5.heap.size := by omega
        have q5_1 := fun o => (bcell B5_1).1 (v1.heap.size + 1) o (by go_size)
        have f5_1 := fun o => (bcell B5_1).2 (v1.heap.size + 1) o (by go_size)
        have H5 : Below v1.heap.size v1 w5 := bthen (by go_grown) h5 (by go_size)
        have C5 := (bcell H5).1; have F5 := (bcell H5).2
        go_wp2_with fail
        go_ret
        exact ⟨rfl, bthen hV H5 hV.size⟩
      · have hfd := fld_pow st t 0
        have hI := powIdle_ok hp
        go_wp2_with fail
        refine (want_is _ _ _ _ _ _ 0 hk _).mono ?_
        rintro e w1 ⟨rfl, h1⟩
        have s1 := h1.size
        try simp only [World.size_alloc, World.size_setCell, World.size_drew, World.heap_drewN] at s1
        have B1_1 := h1
        have z1_0 : v1.heap.size < w1.heap.size := by omega
        have q1_0 := fun o => (bcell B1_1).1 (v1.heap.size) o (by go_size)
        have f1_0 := fun o => (bcell B1_1).2 (v1.heap.size) o (by go_size)
        have z1_1 : v1.heap.size + 1 < w1.heap.size := by omega
        have q1_1 := fun o => (bcell B1_1).1 (v1.heap.size + 1) o (by go_size)
        have f1_1 := fun o => (bcell B1_1).2 (v1.heap.size + 1) o (by go_size)
        have H1 : Below v1.heap.size v1 w1 := bthen (by go_grown) h1 (by go_size)
        have C1 := (bcell H1).1; have F1 := (bcell H1).2
        go_wp2_with fail
        refine (srule_is _ _ true hr _).mono ?_
        rintro e w2 ⟨rfl, h2⟩
        have s2 := h2.size
        try simp only [World.size_alloc, World.size_setCell, World.size_drew, World.heap_drewN] at s2
        have B2_1 := bnext (by first | (with_reducible exact B1_1) | exact (bgrow B1_1 (by go_size) (by go_grown))) h2 (by go_size)
        have z2_0 : v1.heap.size < w2.heap.size := by omega
        have q2_0 := fun o => (bcell B2_1).1 (v1.heap.size) o (by go_size)
        have f2_0 := fun o => (bcell B2_1).2 (v1.heap.size) o (by go_size)
        have z2_1 : v1.heap.size + 1 < w2.heap.size := by omega
        have q2_1 := fun o => (bcell B2_1).1 (v1.heap.size + 1) o (by go_size)
        have f2_1 := fun o => (bcell B2_1).2 (v1.heap.size + 1) o (by go_size)
        have H2 : Below v1.heap.size v1 w2 := bthen (by go_grown) h2 (by go_size)
        have C2 := (bcell H2).1; have F2 := (bcell H2).2
        go_wp2_with fail
        refine (spow_is _ _ _ true hp _).mono ?_
        rintro e w3 ⟨rfl, h3⟩
        have s3 := h3.size
        try simp only [World.size_alloc, World.size_setCell, World.size_drew, World.heap_drewN] at s3
        have B3_1 := bnext (by first | (with_reducible exact B2_1) | exact (bgrow B2_1 (by go_size) (by go_grown))) h3 (by go_size)
        have z3_0 : v1.heap.size < w3.heap.size := by omega
        have q3_0 := fun o => (bcell B3_1).1 (v1.heap.size) o (by go_size)
        have f3_0 := fun o => (bcell B3_1).2 (v1.heap.size) o (by go_size)
        have z3_1 : v1.heap.size + 1 < w3.heap.size := by omega
        have q3_1 := fun o => (bcell B3_1).1 (v1.heap.size + 1) o (by go_size)
        have f3_1 := fun o => (bcell B3_1).2 (v1.heap.size + 1) o (by go_size)
        have H3 : Below v1.heap.size v1 w3 := bthen (by go_grown) h3 (by go_size)
        have C3 := (bcell H3).1; have F3 := (bcell H3).2
        go_wp2_with fail
        refine (idle_is _ _ _ _ 0 hI _).mono ?_
        rintro e w4 ⟨rfl, h4⟩
        have s4 := h4.size
        try simp only [World.size_alloc, World.size_setCell, World.size_drew, World.heap_drewN] at s4
        have B4_1 := bnext (by first | (with_reducible exact B3_1) | exact (bgrow B3_1 (by go_size) (by go_grown))) h4 (by go_size)
        have z4_0 : v1.heap.size < w4.heap.size := by omega
        have q4_0 := fun o => (bcell B4_1).1 (v1.heap.size) o (by go_size)
        have f4_0 := fun o => (bcell B4_1).2 (v1.heap.size) o (by go_size)
        have z4_1 : v1.heap.size + 1 < w4.heap.size := by omega
        have q4_1 := fun o => (bcell B4_1).1 (v1.heap.size + 1) o (by go_size)
        have f4_1 := fun o => (bcell B4_1).2 (v1.heap.size + 1) o (by go_size)
        have H4 : Below v1.heap.size v1 w4 := bthen (by go_grown) h4 (by go_size)
        have C4 := (bcell H4).1; have F4 := (bcell H4).2
        go_wp2_with fail
        refine (irule_is _ _ true hr _).mono ?_
        rintro e w5 ⟨rfl, h5⟩
        have s5 := h5.size
        try simp only [World.size_alloc, World.size_setCell, World.size_drew, World.heap_drewN] at s5
        have B5_1 := bnext (by first | (with_reducible exact B4_1) | exact (bgrow B4_1 (by go_size) (by go_grown))) h5 (by go_size)
        have z5_0 : v1.heap.size < w5.heap.size := by omega
        have q5_0 := fun o => (bcell B5_1).1 (v1.heap.size) o (by go_size)
        have f5_0 := fun o => (bcell B5_1).2 (v1.heap.size) o (by go_size)
        have z5_1 : v1.heap.size + 1 < w5.heap.size := by omega
        have q5_1 := fun o => (bcell B5_1).1 (v1.heap.size + 1) o (by go_size)
        have f5_1 := fun o => (bcell B5_1).2 (v1.heap.size + 1) o (by go_size)
        have H5 : Below v1.heap.size v1 w5 := bthen (by go_grown) h5 (by go_size)
        have C5 := (bcell H5).1; have F5 := (bcell H5).2
        go_wp2_with fail
        go_ret
        exact ⟨rfl, bthen hV H5 hV.size⟩
      · skip
        go_wp2_with fail
        refine (want_is _ _ _ _ _ _ 7 hk _).mono ?_
        rintro e w1 ⟨rfl, h1⟩
        have s1 := h1.size
        try simp only [World.size_alloc, World.size_setCell, World.size_drew, World.heap_drewN] at s1
        have B1_1 := h1
        have z1_0 : v1.heap.size < w1.heap.size := by omega
        have q1_0 := fun o => (bcell B1_1).1 (v1.heap.size) o (by go_size)
        have f1_0 := fun o => (bcell B1_1).2 (v1.heap.size) o (by go_size)
        have z1_1 : v1.heap.size + 1 < w1.heap.size := by omega
        have q1_1 := fun o => (bcell B1_1).1 (v1.heap.size + 1) o (by go_size)
        have f1_1 := fun o => (bcell B1_1).2 (v1.heap.size + 1) o (by go_size)
        have H1 : Below v1.heap.size v1 w1 := bthen (by go_grown) h1 (by go_size)
        have C1 := (bcell H1).1; have F1 := (bcell H1).2
        go_wp2_with fail
        refine (srule_is _ _ true hr _).mono ?_
        rintro e w2 ⟨rfl, h2⟩
        have s2 := h2.size
        try simp only [World.size_alloc, World.size_setCell, World.size_drew, World.heap_drewN] at s2
        have B2_1 := bnext (by first | (with_reducible exact B1_1) | exact (bgrow B1_1 (by go_size) (by go_grown))) h2 (by go_size)
        have z2_0 : v1.heap.size < w2.heap.size := by omega
        have q2_0 := fun o => (bcell B2_1).1 (v1.heap.size) o (by go_size)
        have f2_0 := fun o => (bcell B2_1).2 (v1.heap.size) o (by go_size)
        have z2_1 : v1.heap.size + 1 < w2.heap.size := by omega
        have q2_1 := fun o => (bcell B2_1).1 (v1.heap.size + 1) o (by go_size)
        have f2_1 := fun o => (bcell B2_1).2 (v1.heap.size + 1) o (by go_size)
        have H2 : Below v1.heap.size v1 w2 := bthen (by go_grown) h2 (by go_size)
        have C2 := (bcell H2).1; have F2 := (bcell H2).2
        go_wp2_with fail
        refine (spow_is _ _ _ true hp _).mono ?_
        rintro e w3 ⟨rfl, h3⟩
        have s3 := h3.size
        try simp only [World.size_alloc, World.size_setCell, World.size_drew, World.heap_drewN] at s3
        have B3_1 := bnext (by first | (with_reducible exact B2_1) | exact (bgrow B2_1 (by go_size) (by go_grown))) h3 (by go_size)
        have z3_0 : v1.heap.size < w3.heap.size := by omega
        have q3_0 := fun o => (bcell B3_1).1 (v1.heap.size) o (by go_size)
        have f3_0 := fun o => (bcell B3_1).2 (v1.heap.size) o (by go_size)
        have z3_1 : v1.heap.size + 1 < w3.heap.size := by omega
        have q3_1 := fun o => (bcell B3_1).1 (v1.heap.size + 1) o (by go_size)
        have f3_1 := fun o => (bcell B3_1).2 (v1.heap.size + 1) o (by go_size)
        have H3 : Below v1.heap.size v1 w3 := bthen (by go_grown) h3 (by go_size)
        have C3 := (bcell H3).1; have F3 := (bcell H3).2
        go_wp2_with fail
        refine (change_is 1 t i 7 0 hp (by decide) (by decide) _).mono ?_
        rintro e w4 ⟨rfl, h4⟩
        have s4 := h4.size
        try simp only [World.size_alloc, World.size_setCell, World.size_drew, World.heap_drewN] at s4
        have B4_1 := bnext (by first | (with_reducible exact B3_1) | exact (bgrow B3_1 (by go_size) (by go_grown))) h4 (by go_size)
        have z4_0 : v1.heap.size < w4.heap.size := by omega
        have q4_0 := fun o => (bcell B4_1).1 (v1.heap.size) o (by go_size)
        have f4_0 := fun o => (bcell B4_1).2 (v1.heap.size) o (by go_size)
        have z4_1 : v1.heap.size + 1 < w4.heap.size := by omega
        have q4_1 := fun o => (bcell B4_1).1 (v1.heap.size + 1) o (by go_size)
        have f4_1 := fun o => (bcell B4_1).2 (v1.heap.size + 1) o (by go_size)
        have H4 : Below v1.heap.size v1 w4 := bthen (by go_grown) h4 (by go_size)
        have C4 := (bcell H4).1; have F4 := (bcell H4).2
        go_wp2_with fail
        go_ret
        exact ⟨by first | rfl | simp [hdi], by have hE := bthen hV H4 hV.size; have hEs := hE.size; go_grown; try exact hEs⟩
      · skip
        go_wp2_with fail
        refine (want_is _ _ _ _ _ _ 9 hk _).mono ?_
        rintro e w1 ⟨rfl, h1⟩
        have s1 := h1.size
        try simp only [World.size_alloc, World.size_setCell, World.size_drew, World.heap_drewN] at s1
        have B1_1 := h1
        have z1_0 : v1.heap.size < w1.heap.size := by omega
        have q1_0 := fun o => (bcell B1_1).1 (v1.heap.size) o (by go_size)
        have f1_0 := fun o => (bcell B1_1).2 (v1.heap.size) o (by go_size)
        have z1_1 : v1.heap.size + 1 < w1.heap.size := by omega
        have q1_1 := fun o => (bcell B1_1).1 (v1.heap.size + 1) o (by go_size)
        have f1_1 := fun o => (bcell B1_1).2 (v1.heap.size + 1) o (by go_size)
        have H1 : Below v1.heap.size v1 w1 := bthen (by go_grown) h1 (by go_size)
        have C1 := (bcell H1).1; have F1 := (bcell H1).2
        go_wp2_with fail
        refine (srule_is _ _ true hr _).mono ?_
        rintro e w2 ⟨rfl, h2⟩
        have s2 := h2.size
        try simp only [World.size_alloc, World.size_setCell, World.size_drew, World.heap_drewN] at s2
        have B2_1 := bnext (by first | (with_reducible exact B1_1) | exact (bgrow B1_1 (by go_size) (by go_grown))) h2 (by go_size)
        have z2_0 : v1.heap.size < w2.heap.size := by omega
        have q2_0 := fun o => (bcell B2_1).1 (v1.heap.size) o (by go_size)
        have f2_0 := fun o => (bcell B2_1).2 (v1.heap.size) o (by go_size)
        have z2_1 : v1.heap.size + 1 < w2.heap.size := by omega
        have q2_1 := fun o => (bcell B2_1).1 (v1.heap.size + 1) o (by go_size)
        have f2_1 := fun o => (bcell B2_1).2 (v1.heap.size + 1) o (by go_size)
        have H2 : Below v1.heap.size v1 w2 := bthen (by go_grown) h2 (by go_size)
        have C2 := (bcell H2).1; have F2 := (bcell H2).2
        go_wp2_with fail
        refine (spow_is _ _ _ true hp _).mono ?_
        rintro e w3 ⟨rfl, h3⟩
        have s3 := h3.size
        try simp only [World.size_alloc, World.size_setCell, World.size_drew, World.heap_drewN] at s3
        have B3_1 := bnext (by first | (with_reducible exact B2_1) | exact (bgrow B2_1 (by go_size) (by go_grown))) h3 (by go_size)
        have z3_0 : v1.heap.size < w3.heap.size := by omega
        have q3_0 := fun o => (bcell B3_1).1 (v1.heap.size) o (by go_size)
        have f3_0 := fun o => (bcell B3_1).2 (v1.heap.size) o (by go_size)
        have z3_1 : v1.heap.size + 1 < w3.heap.size := by omega
        have q3_1 := fun o => (bcell B3_1).1 (v1.heap.size + 1) o (by go_size)
        have f3_1 := fun o => (bcell B3_1).2 (v1.heap.size + 1) o (by go_size)
        have H3 : Below v1.heap.size v1 w3 := bthen (by go_grown) h3 (by go_size)
        have C3 := (bcell H3).1; have F3 := (bcell H3).2
        go_wp2_with fail
        refine (change_is 2 t i 9 0 hp (by decide) (by decide) _).mono ?_
        rintro e w4 ⟨rfl, h4⟩
        have s4 := h4.size
        try simp only [World.size_alloc, World.size_setCell, World.size_drew, World.heap_drewN] at s4
        have B4_1 := bnext (by first | (with_reducible exact B3_1) | exact (bgrow B3_1 (by go_size) (by go_grown))) h4 (by go_size)
        have z4_0 : v1.heap.size < w4.heap.size := by omega
        have q4_0 := fun o => (bcell B4_1).1 (v1.heap.size) o (by go_size)
        have f4_0 := fun o => (bcell B4_1).2 (v1.heap.size) o (by go_size)
        have z4_1 : v1.heap.size + 1 < w4.heap.size := by omega
        have q4_1 := fun o => (bcell B4_1).1 (v1.heap.size + 1) o (by go_size)
        have f4_1 := fun o => (bcell B4_1).2 (v1.heap.size + 1) o (by go_size)
        have H4 : Below v1.heap.size v1 w4 := bthen (by go_grown) h4 (by go_size)
        have C4 := (bcell H4).1; have F4 := (bcell H4).2
        go_wp2_with fail
        go_ret
        exact ⟨by first | rfl | simp [hdi], by have hE := bthen hV H4 hV.size; have hEs := hE.size; go_grown; try exact hEs⟩
      · skip
        go_wp2_with fail
        refine (want_is _ _ _ _ _ _ 8 hk _).mono ?_
        rintro e w1 ⟨rfl, h1⟩
        have s1 := h1.size
        try simp only [World.size_alloc, World.size_setCell, World.size_drew, World.heap_drewN] at s1
        have B1_1 := h1
        have z1_0 : v1.heap.size < w1.heap.size := by omega
        have q1_0 := fun o => (bcell B1_1).1 (v1.heap.size) o (by go_size)
        have f1_0 := fun o => (bcell B1_1).2 (v1.heap.size) o (by go_size)
        have z1_1 : v1.heap.size + 1 < w1.heap.size := by omega
        have q1_1 := fun o => (bcell B1_1).1 (v1.heap.size + 1) o (by go_size)
        have f1_1 := fun o => (bcell B1_1).2 (v1.heap.size + 1) o (by go_size)
        have H1 : Below v1.heap.size v1 w1 := bthen (by go_grown) h1 (by go_size)
        have C1 := (bcell H1).1; have F1 := (bcell H1).2
        go_wp2_with fail
        refine (srule_is _ _ true hr _).mono ?_
        rintro e w2 ⟨rfl, h2⟩
        have s2 := h2.size
        try simp only [World.size_alloc, World.size_setCell, World.size_drew, World.heap_drewN] at s2
        have B2_1 := bnext (by first | (with_reducible exact B1_1) | exact (bgrow B1_1 (by go_size) (by go_grown))) h2 (by go_size)
        have z2_0 : v1.heap.size < w2.heap.size := by omega
        have q2_0 := fun o => (bcell B2_1).1 (v1.heap.size) o (by go_size)
        have f2_0 := fun o => (bcell B2_1).2 (v1.heap.size) o (by go_size)
        have z2_1 : v1.heap.size + 1 < w2.heap.size := by omega
        have q2_1 := fun o => (bcell B2_1).1 (v1.heap.size + 1) o (by go_size)
        have f2_1 := fun o => (bcell B2_1).2 (v1.heap.size + 1) o (by go_size)
        have H2 : Below v1.heap.size v1 w2 := bthen (by go_grown) h2 (by go_size)
        have C2 := (bcell H2).1; have F2 := (bcell H2).2
        go_wp2_with fail
        refine (spow_is _ _ _ true hp _).mono ?_
        rintro e w3 ⟨rfl, h3⟩
        have s3 := h3.size
        try simp only [World.size_alloc, World.size_setCell, World.size_drew, World.heap_drewN] at s3
        have B3_1 := bnext (by first | (with_reducible exact B2_1) | exact (bgrow B2_1 (by go_size) (by go_grown))) h3 (by go_size)
        have z3_0 : v1.heap.size < w3.heap.size := by omega
        have q3_0 := fun o => (bcell B3_1).1 (v1.heap.size) o (by go_size)
        have f3_0 := fun o => (bcell B3_1).2 (v1.heap.size) o (by go_size)
        have z3_1 : v1.heap.size + 1 < w3.heap.size := by omega
        have q3_1 := fun o => (bcell B3_1).1 (v1.heap.size + 1) o (by go_size)
        have f3_1 := fun o => (bcell B3_1).2 (v1.heap.size + 1) o (by go_size)
        have H3 : Below v1.heap.size v1 w3 := bthen (by go_grown) h3 (by go_size)
        have C3 := (bcell H3).1; have F3 := (bcell H3).2
        go_wp2_with fail
        refine (change_is 0 t i 8 2 hp (by decide) (by decide) _).mono ?_
        rintro e w4 ⟨rfl, h4⟩
        have s4 := h4.size
        try simp only [World.size_alloc, World.size_setCell, World.size_drew, World.heap_drewN] at s4
        have B4_1 := bnext (by first | (with_reducible exact B3_1) | exact (bgrow B3_1 (by go_size) (by go_grown))) h4 (by go_size)
        have z4_0 : v1.heap.size < w4.heap.size := by omega
        have q4_0 := fun o => (bcell B4_1).1 (v1.heap.size) o (by go_size)
        have f4_0 := fun o => (bcell B4_1).2 (v1.heap.size) o (by go_size)
        have z4_1 : v1.heap.size + 1 < w4.heap.size := by omega
        have q4_1 := fun o => (bcell B4_1).1 (v1.heap.size + 1) o (by go_size)
        have f4_1 := fun o => (bcell B4_1).2 (v1.heap.size + 1) o (by go_size)
        have H4 : Below v1.heap.size v1 w4 := bthen (by go_grown) h4 (by go_size)
        have C4 := (bcell H4).1; have F4 := (bcell H4).2
        go_wp2_with fail
        go_ret
        exact ⟨by first | rfl | simp [hdi], by have hE := bthen hV H4 hV.size; have hEs := hE.size; go_grown; try exact hEs⟩
      · skip
        go_wp2_with fail
        refine (want_is _ _ _ _ _ _ 6 hk _).mono ?_
        rintro e w1 ⟨rfl, h1⟩
        have s1 := h1.size
        try simp only [World.size_alloc, World.size_setCell, World.size_drew, World.heap_drewN] at s1
        have B1_1 := h1
        have z1_0 : v1.heap.size < w1.heap.size := by omega
        have q1_0 := fun o => (bcell B1_1).1 (v1.heap.size) o (by go_size)
        have f1_0 := fun o => (bcell B1_1).2 (v1.heap.size) o (by go_size)
        have z1_1 : v1.heap.size + 1 < w1.heap.size := by omega
        have q1_1 := fun o => (bcell B1_1).1 (v1.heap.size + 1) o (by go_size)
        have f1_1 := fun o => (bcell B1_1).2 (v1.heap.size + 1) o (by go_size)
        have H1 : Below v1.heap.size v1 w1 := bthen (by go_grown) h1 (by go_size)
        have C1 := (bcell H1).1; have F1 := (bcell H1).2
        go_wp2_with fail
        refine (srule_is _ _ true hr _).mono ?_
        rintro e w2 ⟨rfl, h2⟩
        have s2 := h2.size
        try simp only [World.size_alloc, World.size_setCell, World.size_drew, World.heap_drewN] at s2
        have B2_1 := bnext (by first | (with_reducible exact B1_1) | exact (bgrow B1_1 (by go_size) (by go_grown))) h2 (by go_size)
        have z2_0 : v1.heap.size < w2.heap.size := by omega
        have q2_0 := fun o => (bcell B2_1).1 (v1.heap.size) o (by go_size)
        have f2_0 := fun o => (bcell B2_1).2 (v1.heap.size) o (by go_size)
        have z2_1 : v1.heap.size + 1 < w2.heap.size := by omega
        have q2_1 := fun o => (bcell B2_1).1 (v1.heap.size + 1) o (by go_size)
        have f2_1 := fun o => (bcell B2_1).2 (v1.heap.size + 1) o (by go_size)
        have H2 : Below v1.heap.size v1 w2 := bthen (by go_grown) h2 (by go_size)
        have C2 := (bcell H2).1; have F2 := (bcell H2).2
        go_wp2_with fail
        refine (spow_is _ _ _ true hp _).mono ?_
        rintro e w3 ⟨rfl, h3⟩
        have s3 := h3.size
        try simp only [World.size_alloc, World.size_setCell, World.size_drew, World.heap_drewN] at s3
        have B3_1 := bnext (by first | (with_reducible exact B2_1) | exact (bgrow B2_1 (by go_size) (by go_grown))) h3 (by go_size)
        have z3_0 : v1.heap.size < w3.heap.size := by omega
        have q3_0 := fun o => (bcell B3_1).1 (v1.heap.size) o (by go_size)
        have f3_0 := fun o => (bcell B3_1).2 (v1.heap.size) o (by go_size)
        have z3_1 : v1.heap.size + 1 < w3.heap.size := by omega
        have q3_1 := fun o => (bcell B3_1).1 (v1.heap.size + 1) o (by go_size)
        have f3_1 := fun o => (bcell B3_1).2 (v1.heap.size + 1) o (by go_size)
        have H3 : Below v1.heap.size v1 w3 := bthen (by go_grown) h3 (by go_size)
        have C3 := (bcell H3).1; have F3 := (bcell H3).2
        go_wp2_with fail
        refine (change_is 0 t i 6 1 hp (by decide) (by decide) _).mono ?_
        rintro e w4 ⟨rfl, h4⟩
        have s4 := h4.size
        try simp only [World.size_alloc, World.size_setCell, World.size_drew, World.heap_drewN] at s4
        have B4_1 := bnext (by first | (with_reducible exact B3_1) | exact (bgrow B3_1 (by go_size) (by go_grown))) h4 (by go_size)
        have z4_0 : v1.heap.size < w4.heap.size := by omega
        have q4_0 := fun o => (bcell B4_1).1 (v1.heap.size) o (by go_size)
        have f4_0 := fun o => (bcell B4_1).2 (v1.heap.size) o (by go_size)
        have z4_1 : v1.heap.size + 1 < w4.heap.size := by omega
        have q4_1 := fun o => (bcell B4_1).1 (v1.heap.size + 1) o (by go_size)
        have f4_1 := fun o => (bcell B4_1).2 (v1.heap.size + 1) o (by go_size)
        have H4 : Below v1.heap.size v1 w4 := bthen (by go_grown) h4 (by go_size)
        have C4 := (bcell H4).1; have F4 := (bcell H4).2
        go_wp2_with fail
        go_ret
        exact ⟨by first | rfl | simp [hdi], by have hE := bthen hV H4 hV.size; have hEs := hE.size; go_grown; try exact hEs⟩
      · skip
        go_wp2_with fail
        refine (want_is _ _ _ _ _ _ 7 hk _).mono ?_
        rintro e w1 ⟨rfl, h1⟩
        have s1 := h1.size
        try simp only [World.size_alloc, World.size_setCell, World.size_drew, World.heap_drewN] at s1
        have B1_1 := h1
        have z1_0 : v1.heap.size < w1.heap.size := by omega
        have q1_0 := fun o => (bcell B1_1).1 (v1.heap.size) o (by go_size)
        have f1_0 := fun o => (bcell B1_1).2 (v1.heap.size) o (by go_size)
        have z1_1 : v1.heap.size + 1 < w1.heap.size := by omega
        have q1_1 := fun o => (bcell B1_1).1 (v1.heap.size + 1) o (by go_size)
        have f1_1 := fun o => (bcell B1_1).2 (v1.heap.size + 1) o (by go_size)
        have H1 : Below v1.heap.size v1 w1 := bthen (by go_grown) h1 (by go_size)
        have C1 := (bcell H1).1; have F1 := (bcell H1).2
        go_wp2_with fail
        refine (srule_is _ _ true hr _).mono ?_
        rintro e w2 ⟨rfl, h2⟩
        have s2 := h2.size
        try simp only [World.size_alloc, World.size_setCell, World.size_drew, World.heap_drewN] at s2
        have B2_1 := bnext (by first | (with_reducible exact B1_1) | exact (bgrow B1_1 (by go_size) (by go_grown))) h2 (by go_size)
        have z2_0 : v1.heap.size < w2.heap.size := by omega
        have q2_0 := fun o => (bcell B2_1).1 (v1.heap.size) o (by go_size)
        have f2_0 := fun o => (bcell B2_1).2 (v1.heap.size) o (by go_size)
        have z2_1 : v1.heap.size + 1 < w2.heap.size := by omega
        have q2_1 := fun o => (bcell B2_1).1 (v1.heap.size + 1) o (by go_size)
        have f2_1 := fun o => (bcell B2_1).2 (v1.heap.size + 1) o (by go_size)
        have H2 : Below v1.heap.size v1 w2 := bthen (by go_grown) h2 (by go_size)
        have C2 := (bcell H2).1; have F2 := (bcell H2).2
        go_wp2_with fail
        refine (spow_is _ _ _ true hp _).mono ?_
        rintro e w3 ⟨rfl, h3⟩
        have s3 := h3.size
        try simp only [World.size_alloc, World.size_setCell, World.size_drew, World.heap_drewN] at s3
        have B3_1 := bnext (by first | (with_reducible exact B2_1) | exact (bgrow B2_1 (by go_size) (by go_grown))) h3 (by go_size)
        have z3_0 : v1.heap.size < w3.heap.size := by omega
        have q3_0 := fun o => (bcell B3_1).1 (v1.heap.size) o (by go_size)
        have f3_0 := fun o => (bcell B3_1).2 (v1.heap.size) o (by go_size)
        have z3_1 : v1.heap.size + 1 < w3.heap.size := by omega
        have q3_1 := fun o => (bcell B3_1).1 (v1.heap.size + 1) o (by go_size)
        have f3_1 := fun o => (bcell B3_1).2 (v1.heap.size + 1) o (by go_size)
        have H3 : Below v1.heap.size v1 w3 := bthen (by go_grown) h3 (by go_size)
        have C3 := (bcell H3).1; have F3 := (bcell H3).2
        go_wp2_with fail
        refine (change_is 1 t i 7 0 hp (by decide) (by decide) _).mono ?_
        rintro e w4 ⟨rfl, h4⟩
        have s4 := h4.size
        try simp only [World.size_alloc, World.size_setCell, World.size_drew, World.heap_drewN] at s4
        have B4_1 := bnext (by first | (with_reducible exact B3_1) | exact (bgrow B3_1 (by go_size) (by go_grown))) h4 (by go_size)
        have z4_0 : v1.heap.size < w4.heap.size := by omega
        have q4_0 := fun o => (bcell B4_1).1 (v1.heap.size) o (by go_size)
        have f4_0 := fun o => (bcell B4_1).2 (v1.heap.size) o (by go_size)
        have z4_1 : v1.heap.size + 1 < w4.heap.size := by omega
        have q4_1 := fun o => (bcell B4_1).1 (v1.heap.size + 1) o (by go_size)
        have f4_1 := fun o => (bcell B4_1).2 (v1.heap.size + 1) o (by go_size)
        have H4 : Below v1.heap.size v1 w4 := bthen (by go_grown) h4 (by go_size)
        have C4 := (bcell H4).1; have F4 := (bcell H4).2
        go_wp2_with fail
        go_ret
        exact ⟨by first | rfl | simp [hdi], by have hE := bthen hV H4 hV.size; have hEs := hE.size; go_grown; try exact hEs⟩
    · have hw0 : powWant d s st t i u = 0 := by unfold powWant; rw [if_neg hok]
      by_cases hr : ruleOkB d s = true
      · have hp : powOkB st t i = false := by cases h : powOkB st t i; rfl; exact absurd ⟨hr, h⟩ hok
        clear hok
        go_wp2_with fail
        refine (want_is _ _ _ _ _ _ 0 hw0 _).mono ?_
        rintro e w1 ⟨rfl, h1⟩
        have s1 := h1.size
        try simp only [World.size_alloc, World.size_setCell, World.size_drew, World.heap_drewN] at s1
        have B1_1 := h1
        have z1_0 : v1.heap.size < w1.heap.size := by omega
        have q1_0 := fun o => (bcell B1_1).1 (v1.heap.size) o (by go_size)
        have f1_0 := fun o => (bcell B1_1).2 (v1.heap.size) o (by go_size)
        have z1_1 : v1.heap.size + 1 < w1.heap.size := by omega
        have q1_1 := fun o => (bcell B1_1).1 (v1.heap.size + 1) o (by go_size)
        have f1_1 := fun o => (bcell B1_1).2 (v1.heap.size + 1) o (by go_size)
        have H1 : Below v1.heap.size v1 w1 := bthen (by go_grown) h1 (by go_size)
        have C1 := (bcell H1).1; have F1 := (bcell H1).2
        go_wp2_with fail
        refine (srule_is _ _ true hr _).mono ?_
        rintro e w2 ⟨rfl, h2⟩
        have s2 := h2.size
        try simp only [World.size_alloc, World.size_setCell, World.size_drew, World.heap_drewN] at s2
        have B2_1 := bnext (by first | (with_reducible exact B1_1) | exact (bgrow B1_1 (by go_size) (by go_grown))) h2 (by go_size)
        have z2_0 : v1.heap.size < w2.heap.size := by omega
        have q2_0 := fun o => (bcell B2_1).1 (v1.heap.size) o (by go_size)
        have f2_0 := fun o => (bcell B2_1).2 (v1.heap.size) o (by go_size)
        have z2_1 : v1.heap.size + 1 < w2.heap.size := by omega
        have q2_1 := fun o => (bcell B2_1).1 (v1.heap.size + 1) o (by go_size)
        have f2_1 := fun o => (bcell B2_1).2 (v1.heap.size + 1) o (by go_size)
        have H2 : Below v1.heap.size v1 w2 := bthen (by go_grown) h2 (by go_size)
        have C2 := (bcell H2).1; have F2 := (bcell H2).2
        go_wp2_with fail
        refine (spow_is _ _ _ false hp _).mono ?_
        rintro e w3 ⟨rfl, h3⟩
        have s3 := h3.size
        try simp only [World.size_alloc, World.size_setCell, World.size_drew, World.heap_drewN] at s3
        have B3_1 := bnext (by first | (with_reducible exact B2_1) | exact (bgrow B2_1 (by go_size) (by go_grown))) h3 (by go_size)
        have z3_0 : v1.heap.size < w3.heap.size := by omega
        have q3_0 := fun o => (bcell B3_1).1 (v1.heap.size) o (by go_size)
        have f3_0 := fun o => (bcell B3_1).2 (v1.heap.size) o (by go_size)
        have z3_1 : v1.heap.size + 1 < w3.heap.size := by omega
        have q3_1 := fun o => (bcell B3_1).1 (v1.heap.size + 1) o (by go_size)
        have f3_1 := fun o => (bcell B3_1).2 (v1.heap.size + 1) o (by go_size)
        have H3 : Below v1.heap.size v1 w3 := bthen (by go_grown) h3 (by go_size)
        have C3 := (bcell H3).1; have F3 := (bcell H3).2
        go_wp2_with fail
        go_region_held3 (fun v => v.cell? ⟨v1.heap.size + 1, 0, none⟩ = some (.int .i64 st) ∧ v.cell? ⟨v1.heap.size + 1, 1, none⟩ = some (.int .i64 t) ∧ v.cell? ⟨v1.heap.size + 1, 2, none⟩ = some (.int .i64 i)) (first | go_keep | simp [go_sem, *]) (first | (go_at_call 26; refine (ipow_is _ _ _ false hp _).mono ?_; rintro e w4 ⟨rfl, h4⟩; have s4 := h4.size; (try simp only [World.size_alloc, World.size_setCell, World.size_drew, World.heap_drewN] at s4); have B4_1 := bnext (by first | (with_reducible exact B3_1) | exact (bgrow B3_1 (by go_size) (by go_grown))) h4 (by go_size); have z4_0 : v1.heap.size < w4.heap.size := (by omega); have q4_0 := fun o => (bcell B4_1).1 (v1.heap.size) o (by go_size); have f4_0 := fun o => (bcell B4_1).2 (v1.heap.size) o (by go_size); have z4_1 : v1.heap.size + 1 < w4.heap.size := (by omega); have q4_1 := fun o => (bcell B4_1).1 (v1.heap.size + 1) o (by go_size); have f4_1 := fun o => (bcell B4_1).2 (v1.heap.size + 1) o (by go_size); have H4 : Below v1.heap.size v1 w4 := bthen (by go_grown) h4 (by go_size); have C4 := (bcell H4).1; have F4 := (bcell H4).2) | (go_at_call 25; refine (spow_is _ _ _ false hp _).mono ?_; rintro e w5 ⟨rfl, h5⟩; have s5 := h5.size; (try simp only [World.size_alloc, World.size_setCell, World.size_drew, World.heap_drewN] at s5); have B5_1 := bnext (by first | (with_reducible exact B4_1) | exact (bgrow B4_1 (by go_size) (by go_grown))) h5 (by go_size); have z5_0 : v1.heap.size < w5.heap.size := (by omega); have q5_0 := fun o => (bcell B5_1).1 (v1.heap.size) o (by go_size); have f5_0 := fun o => (bcell B5_1).2 (v1.heap.size) o (by go_size); have z5_1 : v1.heap.size + 1 < w5.heap.size := (by omega); have q5_1 := fun o => (bcell B5_1).1 (v1.heap.size + 1) o (by go_size); have f5_1 := fun o => (bcell B5_1).2 (v1.heap.size + 1) o (by go_size); have H5 : Below v1.heap.size v1 w5 := bthen (by go_grown) h5 (by go_size); have C5 := (bcell H5).1; have F5 := (bcell H5).2) | (go_at_call 27; refine (irule_is 1 2 true rfl _).mono ?_; rintro e w6 ⟨rfl, h6⟩; have s6 := h6.size; (try simp only [World.size_alloc, World.size_setCell, World.size_drew, World.heap_drewN] at s6); have B6_1 := bnext (by first | (with_reducible exact B5_1) | exact (bgrow B5_1 (by go_size) (by go_grown))) h6 (by go_size); have z6_0 : v1.heap.size < w6.heap.size := (by omega); have q6_0 := fun o => (bcell B6_1).1 (v1.heap.size) o (by go_size); have f6_0 := fun o => (bcell B6_1).2 (v1.heap.size) o (by go_size); have z6_1 : v1.heap.size + 1 < w6.heap.size := (by omega); have q6_1 := fun o => (bcell B6_1).1 (v1.heap.size + 1) o (by go_size); have f6_1 := fun o => (bcell B6_1).2 (v1.heap.size + 1) o (by go_size); have H6 : Below v1.heap.size v1 w6 := bthen (by go_grown) h6 (by go_size); have C6 := (bcell H6).1; have F6 := (bcell H6).2))
        go_wp2_with fail
        go_ret
        exact ⟨rfl, bthen hV H6 hV.size⟩
      · have hr' : ruleOkB d s = false := by simpa using hr
        clear hok
        obtain ⟨P, hP⟩ : ∃ P, powOkB st t i = P := ⟨_, rfl⟩
        go_wp2_with fail
        refine (want_is _ _ _ _ _ _ 0 hw0 _).mono ?_
        rintro e w1 ⟨rfl, h1⟩
        have s1 := h1.size
        try simp only [World.size_alloc, World.size_setCell, World.size_drew, World.heap_drewN] at s1
        have B1_1 := h1
        have z1_0 : v1.heap.size < w1.heap.size := by omega
        have q1_0 := fun o => (bcell B1_1).1 (v1.heap.size) o (by go_size)
        have f1_0 := fun o => (bcell B1_1).2 (v1.heap.size) o (by go_size)
        have z1_1 : v1.heap.size + 1 < w1.heap.size := by omega
        have q1_1 := fun o => (bcell B1_1).1 (v1.heap.size + 1) o (by go_size)
        have f1_1 := fun o => (bcell B1_1).2 (v1.heap.size + 1) o (by go_size)
        have H1 : Below v1.heap.size v1 w1 := bthen (by go_grown) h1 (by go_size)
        have C1 := (bcell H1).1; have F1 := (bcell H1).2
        go_wp2_with fail
        refine (srule_is _ _ false hr' _).mono ?_
        rintro e w2 ⟨rfl, h2⟩
        have s2 := h2.size
        try simp only [World.size_alloc, World.size_setCell, World.size_drew, World.heap_drewN] at s2
        have B2_1 := bnext (by first | (with_reducible exact B1_1) | exact (bgrow B1_1 (by go_size) (by go_grown))) h2 (by go_size)
        have z2_0 : v1.heap.size < w2.heap.size := by omega
        have q2_0 := fun o => (bcell B2_1).1 (v1.heap.size) o (by go_size)
        have f2_0 := fun o => (bcell B2_1).2 (v1.heap.size) o (by go_size)
        have z2_1 : v1.heap.size + 1 < w2.heap.size := by omega
        have q2_1 := fun o => (bcell B2_1).1 (v1.heap.size + 1) o (by go_size)
        have f2_1 := fun o => (bcell B2_1).2 (v1.heap.size + 1) o (by go_size)
        have H2 : Below v1.heap.size v1 w2 := bthen (by go_grown) h2 (by go_size)
        have C2 := (bcell H2).1; have F2 := (bcell H2).2
        go_wp2_with fail
        go_region_held3 (fun v => v.cell? ⟨v1.heap.size + 1, 0, none⟩ = some (.int .i64 st) ∧ v.cell? ⟨v1.heap.size + 1, 1, none⟩ = some (.int .i64 t) ∧ v.cell? ⟨v1.heap.size + 1, 2, none⟩ = some (.int .i64 i)) (first | go_keep | simp [go_sem, *]) (first | (go_at_call 26; refine (ipow_is _ _ _ P hP _).mono ?_; rintro e w3 ⟨rfl, h3⟩; have s3 := h3.size; (try simp only [World.size_alloc, World.size_setCell, World.size_drew, World.heap_drewN] at s3); have B3_1 := bnext (by first | (with_reducible exact B2_1) | exact (bgrow B2_1 (by go_size) (by go_grown))) h3 (by go_size); have z3_0 : v1.heap.size < w3.heap.size := (by omega); have q3_0 := fun o => (bcell B3_1).1 (v1.heap.size) o (by go_size); have f3_0 := fun o => (bcell B3_1).2 (v1.heap.size) o (by go_size); have z3_1 : v1.heap.size + 1 < w3.heap.size := (by omega); have q3_1 := fun o => (bcell B3_1).1 (v1.heap.size + 1) o (by go_size); have f3_1 := fun o => (bcell B3_1).2 (v1.heap.size + 1) o (by go_size); have H3 : Below v1.heap.size v1 w3 := bthen (by go_grown) h3 (by go_size); have C3 := (bcell H3).1; have F3 := (bcell H3).2) | (go_at_call 25; refine (spow_is _ _ _ P hP _).mono ?_; rintro e w4 ⟨rfl, h4⟩; have s4 := h4.size; (try simp only [World.size_alloc, World.size_setCell, World.size_drew, World.heap_drewN] at s4); have B4_1 := bnext (by first | (with_reducible exact B3_1) | exact (bgrow B3_1 (by go_size) (by go_grown))) h4 (by go_size); have z4_0 : v1.heap.size < w4.heap.size := (by omega); have q4_0 := fun o => (bcell B4_1).1 (v1.heap.size) o (by go_size); have f4_0 := fun o => (bcell B4_1).2 (v1.heap.size) o (by go_size); have z4_1 : v1.heap.size + 1 < w4.heap.size := (by omega); have q4_1 := fun o => (bcell B4_1).1 (v1.heap.size + 1) o (by go_size); have f4_1 := fun o => (bcell B4_1).2 (v1.heap.size + 1) o (by go_size); have H4 : Below v1.heap.size v1 w4 := bthen (by go_grown) h4 (by go_size); have C4 := (bcell H4).1; have F4 := (bcell H4).2) | (go_at_call 27; refine (irule_is 1 2 true rfl _).mono ?_; rintro e w5 ⟨rfl, h5⟩; have s5 := h5.size; (try simp only [World.size_alloc, World.size_setCell, World.size_drew, World.heap_drewN] at s5); have B5_1 := bnext (by first | (with_reducible exact B4_1) | exact (bgrow B4_1 (by go_size) (by go_grown))) h5 (by go_size); have z5_0 : v1.heap.size < w5.heap.size := (by omega); have q5_0 := fun o => (bcell B5_1).1 (v1.heap.size) o (by go_size); have f5_0 := fun o => (bcell B5_1).2 (v1.heap.size) o (by go_size); have z5_1 : v1.heap.size + 1 < w5.heap.size := (by omega); have q5_1 := fun o => (bcell B5_1).1 (v1.heap.size + 1) o (by go_size); have f5_1 := fun o => (bcell B5_1).2 (v1.heap.size + 1) o (by go_size); have H5 : Below v1.heap.size v1 w5 := bthen (by go_grown) h5 (by go_size); have C5 := (bcell H5).1; have F5 := (bcell H5).2))
        go_wp2_with fail
        go_ret
        exact ⟨rfl, bthen hV H5 hV.size⟩
  · go_enter Try.func4, Try.ntmps4
    go_wp2_with fail
    refine (laws_big_yes a n c _ hm hc hs).mono ?_
    rintro e w' ⟨rfl, rfl⟩
    go_wp2_with fail
    go_ret
    exact ⟨rfl, by go_grown⟩

set_option maxRecDepth 100000 in
theorem FnPower_lifted (os : Os) (started : os.Started) (H : Type) (enc : TypeId × Value → H) :
    ReturnsInHanded {} Try.checked os 4 .any (Rows.fnPowerSpec.pre6 enc Try.prog Try.f4 Rows.fnPowerRow.domain false) (Rows.fnPowerSpec.post enc Try.prog Try.f4 false true false false) := by
  refine returnsInHanded_of_change (C := Try.checked) try_own started (by kernel_rfl) Try.func4
    (ChangeSpec.witness6 (enc := enc) (C := Try.checked) false ⟨#[], #[.slice none 0 0], []⟩ 8 (by kernel_rfl) (by kernel_rfl) (by kernel_rfl) (by kernel_rfl)) ?_
  intro W base args ds gs before hval0 hW _ _
  have hval : ∀ (j : Nat) t v, Try.f4.params[j]? = some t → args[j]? = some v → Value.okWide Try.prog W .any base t v := hval0
  have hW' := hW
  obtain ⟨p, q, hA0, hV, rfl, hfz, hnd⟩ := hW
  have hA : DataW.TrodAll enc Try.prog W 0 (fun _ => true) true Try.f4.params.toList args.toList ds p := hA0
  rw [Try.params4] at hA hval
  obtain ⟨v0, vs0, d0, ds0, p0, q0, hargs, rfl, rfl, h0, r0⟩ := trodAll_cons hA
  obtain ⟨rfl, rfl, rfl⟩ := trodAll_nil r0
  obtain rfl : args = #[v0] := by cases args; simp_all
  obtain ⟨rfl, rfl⟩ := trodVars_none hV
  have k0 := h0
  have lt0 : ∀ x ∈ p0, x.block < W.heap.size := by obtain ⟨m, hm⟩ := k0; exact DataW.trod_lt m _ _ _ hm
  obtain ⟨b_x0, m_x0, l_x0, rfl⟩ := okWide_slice Try.underlying22 (hval 0 22 v0 rfl rfl)
  obtain ⟨fu0, h0⟩ := h0
  obtain ⟨a_x0, n_x0, c_x0, x0, e_x0, w_x0⟩ := isBytes_of Try.underlying22 Try.underlying5 (by kernel_rfl) h0
  simp only [Value.cells, List.cons.injEq, and_true] at e_x0
  obtain ⟨q1, q2, q3⟩ : b_x0 = a_x0 ∧ m_x0 = n_x0 ∧ l_x0 = c_x0 := by simpa using e_x0
  replace q1 := q1.symm; replace q2 := q2.symm; replace q3 := q3.symm; subst q1 q2 q3
  clear hA0 hval0
  refine (FnPower_walk a_x0 n_x0 c_x0 x0 W w_x0).mono fun e W' ⟨he, bel⟩ => ?_
  subst he
  exact ⟨_, rfl, _, _, _, [], _, [], hW', trodAll_mk1 (shut_bool Try.underlying4 _), (trodAll_cons_mk (Below.trod try_laidOut (by kernel_rfl) (of_decide_eq_true (by kernel_rfl)) k0 bel lt0) trodAll_mk0), rfl, bel.frame _, fun h => by cases h⟩

theorem FnPower_holds : Rows.FnPowerSaid :=
  OpenClaim.holds_of_wide 4 Try.f4 rfl rfl rfl rfl rfl rfl rfl ⟨rfl, rfl, rfl, rfl, rfl⟩ rfl rfl rfl rfl rfl (by kernel_rfl) Try.func4 (by kernel_rfl)
    (of_decide_eq_true (by kernel_rfl)) (by unfold Func.isWrapper; rw [if_neg (of_decide_eq_false (by kernel_rfl))]; exact ⟨rfl, rfl⟩)
    (fun os started H enc _ => FnPower_lifted os started H enc)
#print axioms FnPower_holds
end Go.Proofs.Ytlaoeaecbdmebaa
