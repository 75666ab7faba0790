/- WakeTime of the program and of the reference. -/
import Derived.Test.YtahfbhfmhccgoaaNeed
import Derived.Test.YtahfbhfmhccgoaaPower
set_option linter.unusedSimpArgs false
set_option linter.unusedVariables false
namespace Go.Proofs.Ytahfbhfmhccgoaa
open Go.RowKit Go.ChangeShapes Go.WideShapes Go.ChangeAt Go.Joins Go.Deep
open Go.ChangeMaps (open_string shut_string)
def wakeOk (t : Tm) (s c i now : Int) : Bool := tmOk t && (powOkB s c i && btw now c 1000000)
def wakeTime (t : Tm) (s c i now : Int) : Int := if wakeOk t s c i now = true then (if s = 1 then max now (c + t.cke) + t.xp else if s = 2 then max now (c + t.cke) + t.xs else now) else -1
theorem impl_PowerOk_is (s c i : Int) (b : Bool) (h : powOkB s c i = b) (w : World) : Calls Try.prog 111 #[.agg #[.int .i64 s, .int .i64 c, .int .i64 i]] w fun e w' => e = .returned (.bool b) ∧ Below w.heap.size w w' := by subst h; exact impl_PowerOk s c i w
set_option maxRecDepth 100000 in
set_option maxHeartbeats 2000000 in
theorem impl_WakeTime_a (t : Tm) (s c i now : Int) (w : World) (hok : tmOk t = false) :
    Calls Try.prog 61 #[.agg (tmC t).toArray, .agg #[.int .i64 s, .int .i64 c, .int .i64 i], .int .i64 now] w fun e w' => e = .returned (.int .i64 (-1)) ∧ Below w.heap.size w w' := by
  obtain ⟨tc0, tc1, tc2, tc3, tc4, tc5, tc6, tc7, tc8, tc9, tc10, tc11, tc12, tc13, tc14, tc15, tc16⟩ := tm_at t
  have hb0 : ((w.alloc (.cells (tmC t).toArray 73)).alloc (.cells #[.int .i64 s, .int .i64 c, .int .i64 i] 95)).heap[w.heap.size]? = some (.cells (tmC t).toArray 73 (0, 0)) := by rw [alloc_lt _ _ _ (by simp), alloc_at _ _ _ rfl]
  have HB := hide hb0
  clear hb0
  go_enter Try.func61, Try.ntmps61
  go_wp2_with (refine wpList_load_row rfl 73 _ rfl w.heap.size rfl 73 (tmC t).toArray (0, 0) _ HB.out Try.underlying73 rfl (tmC_info t) ?_)
  refine (impl_TimingOk_is t false hok _).mono ?_
  rintro e w1 ⟨rfl, h1⟩
  have s1 := h1.size
  try simp only [World.size_alloc, World.size_setCell, World.size_drew, World.heap_drewN] at s1
  have B1_1 := h1
  have z1_0 : w.heap.size < w1.heap.size := by omega
  have q1_0 := fun o => (bcell B1_1).1 (w.heap.size) o (by go_size)
  have f1_0 := fun o => (bcell B1_1).2 (w.heap.size) o (by go_size)
  have z1_1 : w.heap.size + 1 < w1.heap.size := by omega
  have q1_1 := fun o => (bcell B1_1).1 (w.heap.size + 1) o (by go_size)
  have f1_1 := fun o => (bcell B1_1).2 (w.heap.size + 1) o (by go_size)
  have H1 : Below w.heap.size w w1 := bthen (by repeat' (first | (with_reducible exact Below.refl _ _) | (with_reducible assumption) | (with_reducible refine bdrawn ?_ _) | (with_reducible refine Below.alloc ?_ ?_ _) | (with_reducible refine Below.drew ?_) | (with_reducible refine Below.setCell ?_ ?_ _) | go_size)) h1 (by go_size)
  have C1 := (bcell H1).1; have F1 := (bcell H1).2
  go_wp2_with fail
  go_ret
  exact ⟨ret_int (by rfl), H1⟩
set_option maxRecDepth 100000 in
set_option maxHeartbeats 2000000 in
theorem impl_WakeTime_b (t : Tm) (s c i now : Int) (w : World) (hok : tmOk t = true) (hp : powOkB s c i = false) :
    Calls Try.prog 61 #[.agg (tmC t).toArray, .agg #[.int .i64 s, .int .i64 c, .int .i64 i], .int .i64 now] w fun e w' => e = .returned (.int .i64 (-1)) ∧ Below w.heap.size w w' := by
  obtain ⟨tc0, tc1, tc2, tc3, tc4, tc5, tc6, tc7, tc8, tc9, tc10, tc11, tc12, tc13, tc14, tc15, tc16⟩ := tm_at t
  have hb0 : ((w.alloc (.cells (tmC t).toArray 73)).alloc (.cells #[.int .i64 s, .int .i64 c, .int .i64 i] 95)).heap[w.heap.size]? = some (.cells (tmC t).toArray 73 (0, 0)) := by rw [alloc_lt _ _ _ (by simp), alloc_at _ _ _ rfl]
  have HB := hide hb0
  clear hb0
  go_enter Try.func61, Try.ntmps61
  go_wp2_with (refine wpList_load_row rfl 73 _ rfl w.heap.size rfl 73 (tmC t).toArray (0, 0) _ HB.out Try.underlying73 rfl (tmC_info t) ?_)
  refine (impl_TimingOk_is t true hok _).mono ?_
  rintro e w1 ⟨rfl, h1⟩
  have s1 := h1.size
  try simp only [World.size_alloc, World.size_setCell, World.size_drew, World.heap_drewN] at s1
  have B1_1 := h1
  have z1_0 : w.heap.size < w1.heap.size := by omega
  have q1_0 := fun o => (bcell B1_1).1 (w.heap.size) o (by go_size)
  have f1_0 := fun o => (bcell B1_1).2 (w.heap.size) o (by go_size)
  have z1_1 : w.heap.size + 1 < w1.heap.size := by omega
  have q1_1 := fun o => (bcell B1_1).1 (w.heap.size + 1) o (by go_size)
  have f1_1 := fun o => (bcell B1_1).2 (w.heap.size + 1) o (by go_size)
  have H1 : Below w.heap.size w w1 := bthen (by repeat' (first | (with_reducible exact Below.refl _ _) | (with_reducible assumption) | (with_reducible refine bdrawn ?_ _) | (with_reducible refine Below.alloc ?_ ?_ _) | (with_reducible refine Below.drew ?_) | (with_reducible refine Below.setCell ?_ ?_ _) | go_size)) h1 (by go_size)
  have C1 := (bcell H1).1; have F1 := (bcell H1).2
  go_wp2_with (refine wpList_load_row rfl 73 _ rfl w.heap.size rfl 73 (tmC t).toArray (0, 0) _ HB.out Try.underlying73 rfl (tmC_info t) ?_)
  refine (impl_PowerOk_is _ _ _ false hp _).mono ?_
  rintro e w2 ⟨rfl, h2⟩
  have s2 := h2.size
  try simp only [World.size_alloc, World.size_setCell, World.size_drew, World.heap_drewN] at s2
  have B2_1 := bnext (by first | (with_reducible exact B1_1) | exact (bgrow B1_1 (by go_size) (by repeat' (first | (with_reducible exact Below.refl _ _) | (with_reducible assumption) | (with_reducible refine bdrawn ?_ _) | (with_reducible refine Below.alloc ?_ ?_ _) | (with_reducible refine Below.drew ?_) | (with_reducible refine Below.setCell ?_ ?_ _) | go_size)))) h2 (by go_size)
  have z2_0 : w.heap.size < w2.heap.size := by omega
  have q2_0 := fun o => (bcell B2_1).1 (w.heap.size) o (by go_size)
  have f2_0 := fun o => (bcell B2_1).2 (w.heap.size) o (by go_size)
  have z2_1 : w.heap.size + 1 < w2.heap.size := by omega
  have q2_1 := fun o => (bcell B2_1).1 (w.heap.size + 1) o (by go_size)
  have f2_1 := fun o => (bcell B2_1).2 (w.heap.size + 1) o (by go_size)
  have H2 : Below w.heap.size w w2 := bthen (by repeat' (first | (with_reducible exact Below.refl _ _) | (with_reducible assumption) | (with_reducible refine bdrawn ?_ _) | (with_reducible refine Below.alloc ?_ ?_ _) | (with_reducible refine Below.drew ?_) | (with_reducible refine Below.setCell ?_ ?_ _) | go_size)) h2 (by go_size)
  have C2 := (bcell H2).1; have F2 := (bcell H2).2
  go_wp2_with fail
  go_ret
  exact ⟨ret_int (by rfl), H2⟩
set_option maxRecDepth 100000 in
set_option maxHeartbeats 2000000 in
theorem impl_WakeTime_c (t : Tm) (s c i now : Int) (w : World) (hok : tmOk t = true) (hp : powOkB s c i = true) (hb : btw now c 1000000 = false) :
    Calls Try.prog 61 #[.agg (tmC t).toArray, .agg #[.int .i64 s, .int .i64 c, .int .i64 i], .int .i64 now] w fun e w' => e = .returned (.int .i64 (-1)) ∧ Below w.heap.size w w' := by
  obtain ⟨tc0, tc1, tc2, tc3, tc4, tc5, tc6, tc7, tc8, tc9, tc10, tc11, tc12, tc13, tc14, tc15, tc16⟩ := tm_at t
  have hb0 : ((w.alloc (.cells (tmC t).toArray 73)).alloc (.cells #[.int .i64 s, .int .i64 c, .int .i64 i] 95)).heap[w.heap.size]? = some (.cells (tmC t).toArray 73 (0, 0)) := by rw [alloc_lt _ _ _ (by simp), alloc_at _ _ _ rfl]
  have HB := hide hb0
  clear hb0
  go_enter Try.func61, Try.ntmps61
  go_wp2_with (refine wpList_load_row rfl 73 _ rfl w.heap.size rfl 73 (tmC t).toArray (0, 0) _ HB.out Try.underlying73 rfl (tmC_info t) ?_)
  refine (impl_TimingOk_is t true hok _).mono ?_
  rintro e w1 ⟨rfl, h1⟩
  have s1 := h1.size
  try simp only [World.size_alloc, World.size_setCell, World.size_drew, World.heap_drewN] at s1
  have B1_1 := h1
  have z1_0 : w.heap.size < w1.heap.size := by omega
  have q1_0 := fun o => (bcell B1_1).1 (w.heap.size) o (by go_size)
  have f1_0 := fun o => (bcell B1_1).2 (w.heap.size) o (by go_size)
  have z1_1 : w.heap.size + 1 < w1.heap.size := by omega
  have q1_1 := fun o => (bcell B1_1).1 (w.heap.size + 1) o (by go_size)
  have f1_1 := fun o => (bcell B1_1).2 (w.heap.size + 1) o (by go_size)
  have H1 : Below w.heap.size w w1 := bthen (by repeat' (first | (with_reducible exact Below.refl _ _) | (with_reducible assumption) | (with_reducible refine bdrawn ?_ _) | (with_reducible refine Below.alloc ?_ ?_ _) | (with_reducible refine Below.drew ?_) | (with_reducible refine Below.setCell ?_ ?_ _) | go_size)) h1 (by go_size)
  have C1 := (bcell H1).1; have F1 := (bcell H1).2
  go_wp2_with (refine wpList_load_row rfl 73 _ rfl w.heap.size rfl 73 (tmC t).toArray (0, 0) _ HB.out Try.underlying73 rfl (tmC_info t) ?_)
  refine (impl_PowerOk_is _ _ _ true hp _).mono ?_
  rintro e w2 ⟨rfl, h2⟩
  have s2 := h2.size
  try simp only [World.size_alloc, World.size_setCell, World.size_drew, World.heap_drewN] at s2
  have B2_1 := bnext (by first | (with_reducible exact B1_1) | exact (bgrow B1_1 (by go_size) (by repeat' (first | (with_reducible exact Below.refl _ _) | (with_reducible assumption) | (with_reducible refine bdrawn ?_ _) | (with_reducible refine Below.alloc ?_ ?_ _) | (with_reducible refine Below.drew ?_) | (with_reducible refine Below.setCell ?_ ?_ _) | go_size)))) h2 (by go_size)
  have z2_0 : w.heap.size < w2.heap.size := by omega
  have q2_0 := fun o => (bcell B2_1).1 (w.heap.size) o (by go_size)
  have f2_0 := fun o => (bcell B2_1).2 (w.heap.size) o (by go_size)
  have z2_1 : w.heap.size + 1 < w2.heap.size := by omega
  have q2_1 := fun o => (bcell B2_1).1 (w.heap.size + 1) o (by go_size)
  have f2_1 := fun o => (bcell B2_1).2 (w.heap.size + 1) o (by go_size)
  have H2 : Below w.heap.size w w2 := bthen (by repeat' (first | (with_reducible exact Below.refl _ _) | (with_reducible assumption) | (with_reducible refine bdrawn ?_ _) | (with_reducible refine Below.alloc ?_ ?_ _) | (with_reducible refine Below.drew ?_) | (with_reducible refine Below.setCell ?_ ?_ _) | go_size)) h2 (by go_size)
  have C2 := (bcell H2).1; have F2 := (bcell H2).2
  go_wp2_with (first | (go_at_call 77; refine (impl_between _ _ _ _).mono ?_; rintro e w1 ⟨rfl, rfl⟩))
  go_ret
  exact ⟨ret_int (by rfl), H2⟩
set_option maxRecDepth 100000 in
set_option maxHeartbeats 2000000 in
theorem impl_WakeTime_0 (t : Tm) (c i now : Int) (w : World) (b : 0 ≤ c ∧ c ≤ 1000000 ∧ c ≤ now ∧ now ≤ 1000000) (hok : tmOk t = true) (hp : powOkB 0 c i = true) (hb : btw now c 1000000 = true) :
    Calls Try.prog 61 #[.agg (tmC t).toArray, .agg #[.int .i64 0, .int .i64 c, .int .i64 i], .int .i64 now] w fun e w' => e = .returned (.int .i64 (now)) ∧ Below w.heap.size w w' := by
  obtain ⟨b1, b2, b3, b4⟩ := b
  obtain ⟨_, _, _, _, _, _, _, _, _, _, _, _, _, _, ⟨a14, b14⟩, ⟨a15, b15⟩, ⟨a16, b16⟩⟩ := tmOk_bd hok
  obtain ⟨tc0, tc1, tc2, tc3, tc4, tc5, tc6, tc7, tc8, tc9, tc10, tc11, tc12, tc13, tc14, tc15, tc16⟩ := tm_at t
  have hb0 : ((w.alloc (.cells (tmC t).toArray 73)).alloc (.cells #[.int .i64 0, .int .i64 c, .int .i64 i] 95)).heap[w.heap.size]? = some (.cells (tmC t).toArray 73 (0, 0)) := by rw [alloc_lt _ _ _ (by simp), alloc_at _ _ _ rfl]
  have HB := hide hb0
  clear hb0
  go_enter Try.func61, Try.ntmps61
  go_wp2_with (refine wpList_load_row rfl 73 _ rfl w.heap.size rfl 73 (tmC t).toArray (0, 0) _ HB.out Try.underlying73 rfl (tmC_info t) ?_)
  refine (impl_TimingOk_is t true hok _).mono ?_
  rintro e w1 ⟨rfl, h1⟩
  have s1 := h1.size
  try simp only [World.size_alloc, World.size_setCell, World.size_drew, World.heap_drewN] at s1
  have B1_1 := h1
  have z1_0 : w.heap.size < w1.heap.size := by omega
  have q1_0 := fun o => (bcell B1_1).1 (w.heap.size) o (by go_size)
  have f1_0 := fun o => (bcell B1_1).2 (w.heap.size) o (by go_size)
  have z1_1 : w.heap.size + 1 < w1.heap.size := by omega
  have q1_1 := fun o => (bcell B1_1).1 (w.heap.size + 1) o (by go_size)
  have f1_1 := fun o => (bcell B1_1).2 (w.heap.size + 1) o (by go_size)
  have H1 : Below w.heap.size w w1 := bthen (by repeat' (first | (with_reducible exact Below.refl _ _) | (with_reducible assumption) | (with_reducible refine bdrawn ?_ _) | (with_reducible refine Below.alloc ?_ ?_ _) | (with_reducible refine Below.drew ?_) | (with_reducible refine Below.setCell ?_ ?_ _) | go_size)) h1 (by go_size)
  have C1 := (bcell H1).1; have F1 := (bcell H1).2
  go_wp2_with (refine wpList_load_row rfl 73 _ rfl w.heap.size rfl 73 (tmC t).toArray (0, 0) _ HB.out Try.underlying73 rfl (tmC_info t) ?_)
  refine (impl_PowerOk_is _ _ _ true hp _).mono ?_
  rintro e w2 ⟨rfl, h2⟩
  have s2 := h2.size
  try simp only [World.size_alloc, World.size_setCell, World.size_drew, World.heap_drewN] at s2
  have B2_1 := bnext (by first | (with_reducible exact B1_1) | exact (bgrow B1_1 (by go_size) (by repeat' (first | (with_reducible exact Below.refl _ _) | (with_reducible assumption) | (with_reducible refine bdrawn ?_ _) | (with_reducible refine Below.alloc ?_ ?_ _) | (with_reducible refine Below.drew ?_) | (with_reducible refine Below.setCell ?_ ?_ _) | go_size)))) h2 (by go_size)
  have z2_0 : w.heap.size < w2.heap.size := by omega
  have q2_0 := fun o => (bcell B2_1).1 (w.heap.size) o (by go_size)
  have f2_0 := fun o => (bcell B2_1).2 (w.heap.size) o (by go_size)
  have z2_1 : w.heap.size + 1 < w2.heap.size := by omega
  have q2_1 := fun o => (bcell B2_1).1 (w.heap.size + 1) o (by go_size)
  have f2_1 := fun o => (bcell B2_1).2 (w.heap.size + 1) o (by go_size)
  have H2 : Below w.heap.size w w2 := bthen (by repeat' (first | (with_reducible exact Below.refl _ _) | (with_reducible assumption) | (with_reducible refine bdrawn ?_ _) | (with_reducible refine Below.alloc ?_ ?_ _) | (with_reducible refine Below.drew ?_) | (with_reducible refine Below.setCell ?_ ?_ _) | go_size)) h2 (by go_size)
  have C2 := (bcell H2).1; have F2 := (bcell H2).2
  go_wp2_with (first | (go_at_call 77; refine (impl_between _ _ _ _).mono ?_; rintro e w1 ⟨rfl, rfl⟩))
  go_ret
  exact ⟨ret_int (by rfl), H2⟩
set_option maxRecDepth 100000 in
set_option maxHeartbeats 2000000 in
theorem impl_WakeTime_1a (t : Tm) (c i now : Int) (w : World) (b : 0 ≤ c ∧ c ≤ 1000000 ∧ c ≤ now ∧ now ≤ 1000000) (hok : tmOk t = true) (hp : powOkB 1 c i = true) (hb : btw now c 1000000 = true) (hmx : now < c + t.cke) :
    Calls Try.prog 61 #[.agg (tmC t).toArray, .agg #[.int .i64 1, .int .i64 c, .int .i64 i], .int .i64 now] w fun e w' => e = .returned (.int .i64 (c + t.cke + t.xp)) ∧ Below w.heap.size w w' := by
  obtain ⟨b1, b2, b3, b4⟩ := b
  obtain ⟨_, _, _, _, _, _, _, _, _, _, _, _, _, _, ⟨a14, b14⟩, ⟨a15, b15⟩, ⟨a16, b16⟩⟩ := tmOk_bd hok
  obtain ⟨tc0, tc1, tc2, tc3, tc4, tc5, tc6, tc7, tc8, tc9, tc10, tc11, tc12, tc13, tc14, tc15, tc16⟩ := tm_at t
  have hb0 : ((w.alloc (.cells (tmC t).toArray 73)).alloc (.cells #[.int .i64 1, .int .i64 c, .int .i64 i] 95)).heap[w.heap.size]? = some (.cells (tmC t).toArray 73 (0, 0)) := by rw [alloc_lt _ _ _ (by simp), alloc_at _ _ _ rfl]
  have HB := hide hb0
  clear hb0
  go_enter Try.func61, Try.ntmps61
  go_wp2_with (refine wpList_load_row rfl 73 _ rfl w.heap.size rfl 73 (tmC t).toArray (0, 0) _ HB.out Try.underlying73 rfl (tmC_info t) ?_)
  refine (impl_TimingOk_is t true hok _).mono ?_
  rintro e w1 ⟨rfl, h1⟩
  have s1 := h1.size
  try simp only [World.size_alloc, World.size_setCell, World.size_drew, World.heap_drewN] at s1
  have B1_1 := h1
  have z1_0 : w.heap.size < w1.heap.size := by omega
  have q1_0 := fun o => (bcell B1_1).1 (w.heap.size) o (by go_size)
  have f1_0 := fun o => (bcell B1_1).2 (w.heap.size) o (by go_size)
  have z1_1 : w.heap.size + 1 < w1.heap.size := by omega
  have q1_1 := fun o => (bcell B1_1).1 (w.heap.size + 1) o (by go_size)
  have f1_1 := fun o => (bcell B1_1).2 (w.heap.size + 1) o (by go_size)
  have H1 : Below w.heap.size w w1 := bthen (by repeat' (first | (with_reducible exact Below.refl _ _) | (with_reducible assumption) | (with_reducible refine bdrawn ?_ _) | (with_reducible refine Below.alloc ?_ ?_ _) | (with_reducible refine Below.drew ?_) | (with_reducible refine Below.setCell ?_ ?_ _) | go_size)) h1 (by go_size)
  have C1 := (bcell H1).1; have F1 := (bcell H1).2
  go_wp2_with (refine wpList_load_row rfl 73 _ rfl w.heap.size rfl 73 (tmC t).toArray (0, 0) _ HB.out Try.underlying73 rfl (tmC_info t) ?_)
  refine (impl_PowerOk_is _ _ _ true hp _).mono ?_
  rintro e w2 ⟨rfl, h2⟩
  have s2 := h2.size
  try simp only [World.size_alloc, World.size_setCell, World.size_drew, World.heap_drewN] at s2
  have B2_1 := bnext (by first | (with_reducible exact B1_1) | exact (bgrow B1_1 (by go_size) (by repeat' (first | (with_reducible exact Below.refl _ _) | (with_reducible assumption) | (with_reducible refine bdrawn ?_ _) | (with_reducible refine Below.alloc ?_ ?_ _) | (with_reducible refine Below.drew ?_) | (with_reducible refine Below.setCell ?_ ?_ _) | go_size)))) h2 (by go_size)
  have z2_0 : w.heap.size < w2.heap.size := by omega
  have q2_0 := fun o => (bcell B2_1).1 (w.heap.size) o (by go_size)
  have f2_0 := fun o => (bcell B2_1).2 (w.heap.size) o (by go_size)
  have z2_1 : w.heap.size + 1 < w2.heap.size := by omega
  have q2_1 := fun o => (bcell B2_1).1 (w.heap.size + 1) o (by go_size)
  have f2_1 := fun o => (bcell B2_1).2 (w.heap.size + 1) o (by go_size)
  have H2 : Below w.heap.size w w2 := bthen (by repeat' (first | (with_reducible exact Below.refl _ _) | (with_reducible assumption) | (with_reducible refine bdrawn ?_ _) | (with_reducible refine Below.alloc ?_ ?_ _) | (with_reducible refine Below.drew ?_) | (with_reducible refine Below.setCell ?_ ?_ _) | go_size)) h2 (by go_size)
  have C2 := (bcell H2).1; have F2 := (bcell H2).2
  go_wp2_with (first | (go_at_call 77; refine (impl_between _ _ _ _).mono ?_; rintro e w1 ⟨rfl, rfl⟩))
  go_ret
  exact ⟨ret_int (by omega), H2⟩
set_option maxRecDepth 100000 in
set_option maxHeartbeats 2000000 in
theorem impl_WakeTime_1b (t : Tm) (c i now : Int) (w : World) (b : 0 ≤ c ∧ c ≤ 1000000 ∧ c ≤ now ∧ now ≤ 1000000) (hok : tmOk t = true) (hp : powOkB 1 c i = true) (hb : btw now c 1000000 = true) (hmx : ¬ now < c + t.cke) :
    Calls Try.prog 61 #[.agg (tmC t).toArray, .agg #[.int .i64 1, .int .i64 c, .int .i64 i], .int .i64 now] w fun e w' => e = .returned (.int .i64 (now + t.xp)) ∧ Below w.heap.size w w' := by
  obtain ⟨b1, b2, b3, b4⟩ := b
  obtain ⟨_, _, _, _, _, _, _, _, _, _, _, _, _, _, ⟨a14, b14⟩, ⟨a15, b15⟩, ⟨a16, b16⟩⟩ := tmOk_bd hok
  obtain ⟨tc0, tc1, tc2, tc3, tc4, tc5, tc6, tc7, tc8, tc9, tc10, tc11, tc12, tc13, tc14, tc15, tc16⟩ := tm_at t
  have hb0 : ((w.alloc (.cells (tmC t).toArray 73)).alloc (.cells #[.int .i64 1, .int .i64 c, .int .i64 i] 95)).heap[w.heap.size]? = some (.cells (tmC t).toArray 73 (0, 0)) := by rw [alloc_lt _ _ _ (by simp), alloc_at _ _ _ rfl]
  have HB := hide hb0
  clear hb0
  go_enter Try.func61, Try.ntmps61
  go_wp2_with (refine wpList_load_row rfl 73 _ rfl w.heap.size rfl 73 (tmC t).toArray (0, 0) _ HB.out Try.underlying73 rfl (tmC_info t) ?_)
  refine (impl_TimingOk_is t true hok _).mono ?_
  rintro e w1 ⟨rfl, h1⟩
  have s1 := h1.size
  try simp only [World.size_alloc, World.size_setCell, World.size_drew, World.heap_drewN] at s1
  have B1_1 := h1
  have z1_0 : w.heap.size < w1.heap.size := by omega
  have q1_0 := fun o => (bcell B1_1).1 (w.heap.size) o (by go_size)
  have f1_0 := fun o => (bcell B1_1).2 (w.heap.size) o (by go_size)
  have z1_1 : w.heap.size + 1 < w1.heap.size := by omega
  have q1_1 := fun o => (bcell B1_1).1 (w.heap.size + 1) o (by go_size)
  have f1_1 := fun o => (bcell B1_1).2 (w.heap.size + 1) o (by go_size)
  have H1 : Below w.heap.size w w1 := bthen (by repeat' (first | (with_reducible exact Below.refl _ _) | (with_reducible assumption) | (with_reducible refine bdrawn ?_ _) | (with_reducible refine Below.alloc ?_ ?_ _) | (with_reducible refine Below.drew ?_) | (with_reducible refine Below.setCell ?_ ?_ _) | go_size)) h1 (by go_size)
  have C1 := (bcell H1).1; have F1 := (bcell H1).2
  go_wp2_with (refine wpList_load_row rfl 73 _ rfl w.heap.size rfl 73 (tmC t).toArray (0, 0) _ HB.out Try.underlying73 rfl (tmC_info t) ?_)
  refine (impl_PowerOk_is _ _ _ true hp _).mono ?_
  rintro e w2 ⟨rfl, h2⟩
  have s2 := h2.size
  try simp only [World.size_alloc, World.size_setCell, World.size_drew, World.heap_drewN] at s2
  have B2_1 := bnext (by first | (with_reducible exact B1_1) | exact (bgrow B1_1 (by go_size) (by repeat' (first | (with_reducible exact Below.refl _ _) | (with_reducible assumption) | (with_reducible refine bdrawn ?_ _) | (with_reducible refine Below.alloc ?_ ?_ _) | (with_reducible refine Below.drew ?_) | (with_reducible refine Below.setCell ?_ ?_ _) | go_size)))) h2 (by go_size)
  have z2_0 : w.heap.size < w2.heap.size := by omega
  have q2_0 := fun o => (bcell B2_1).1 (w.heap.size) o (by go_size)
  have f2_0 := fun o => (bcell B2_1).2 (w.heap.size) o (by go_size)
  have z2_1 : w.heap.size + 1 < w2.heap.size := by omega
  have q2_1 := fun o => (bcell B2_1).1 (w.heap.size + 1) o (by go_size)
  have f2_1 := fun o => (bcell B2_1).2 (w.heap.size + 1) o (by go_size)
  have H2 : Below w.heap.size w w2 := bthen (by repeat' (first | (with_reducible exact Below.refl _ _) | (with_reducible assumption) | (with_reducible refine bdrawn ?_ _) | (with_reducible refine Below.alloc ?_ ?_ _) | (with_reducible refine Below.drew ?_) | (with_reducible refine Below.setCell ?_ ?_ _) | go_size)) h2 (by go_size)
  have C2 := (bcell H2).1; have F2 := (bcell H2).2
  go_wp2_with (first | (go_at_call 77; refine (impl_between _ _ _ _).mono ?_; rintro e w1 ⟨rfl, rfl⟩))
  go_ret
  exact ⟨ret_int (by omega), H2⟩
set_option maxRecDepth 100000 in
set_option maxHeartbeats 2000000 in
theorem impl_WakeTime_2a (t : Tm) (c i now : Int) (w : World) (b : 0 ≤ c ∧ c ≤ 1000000 ∧ c ≤ now ∧ now ≤ 1000000) (hok : tmOk t = true) (hp : powOkB 2 c i = true) (hb : btw now c 1000000 = true) (hmx : now < c + t.cke) :
    Calls Try.prog 61 #[.agg (tmC t).toArray, .agg #[.int .i64 2, .int .i64 c, .int .i64 i], .int .i64 now] w fun e w' => e = .returned (.int .i64 (c + t.cke + t.xs)) ∧ Below w.heap.size w w' := by
  obtain ⟨b1, b2, b3, b4⟩ := b
  obtain ⟨_, _, _, _, _, _, _, _, _, _, _, _, _, _, ⟨a14, b14⟩, ⟨a15, b15⟩, ⟨a16, b16⟩⟩ := tmOk_bd hok
  obtain ⟨tc0, tc1, tc2, tc3, tc4, tc5, tc6, tc7, tc8, tc9, tc10, tc11, tc12, tc13, tc14, tc15, tc16⟩ := tm_at t
  have hb0 : ((w.alloc (.cells (tmC t).toArray 73)).alloc (.cells #[.int .i64 2, .int .i64 c, .int .i64 i] 95)).heap[w.heap.size]? = some (.cells (tmC t).toArray 73 (0, 0)) := by rw [alloc_lt _ _ _ (by simp), alloc_at _ _ _ rfl]
  have HB := hide hb0
  clear hb0
  go_enter Try.func61, Try.ntmps61
  go_wp2_with (refine wpList_load_row rfl 73 _ rfl w.heap.size rfl 73 (tmC t).toArray (0, 0) _ HB.out Try.underlying73 rfl (tmC_info t) ?_)
  refine (impl_TimingOk_is t true hok _).mono ?_
  rintro e w1 ⟨rfl, h1⟩
  have s1 := h1.size
  try simp only [World.size_alloc, World.size_setCell, World.size_drew, World.heap_drewN] at s1
  have B1_1 := h1
  have z1_0 : w.heap.size < w1.heap.size := by omega
  have q1_0 := fun o => (bcell B1_1).1 (w.heap.size) o (by go_size)
  have f1_0 := fun o => (bcell B1_1).2 (w.heap.size) o (by go_size)
  have z1_1 : w.heap.size + 1 < w1.heap.size := by omega
  have q1_1 := fun o => (bcell B1_1).1 (w.heap.size + 1) o (by go_size)
  have f1_1 := fun o => (bcell B1_1).2 (w.heap.size + 1) o (by go_size)
  have H1 : Below w.heap.size w w1 := bthen (by repeat' (first | (with_reducible exact Below.refl _ _) | (with_reducible assumption) | (with_reducible refine bdrawn ?_ _) | (with_reducible refine Below.alloc ?_ ?_ _) | (with_reducible refine Below.drew ?_) | (with_reducible refine Below.setCell ?_ ?_ _) | go_size)) h1 (by go_size)
  have C1 := (bcell H1).1; have F1 := (bcell H1).2
  go_wp2_with (refine wpList_load_row rfl 73 _ rfl w.heap.size rfl 73 (tmC t).toArray (0, 0) _ HB.out Try.underlying73 rfl (tmC_info t) ?_)
  refine (impl_PowerOk_is _ _ _ true hp _).mono ?_
  rintro e w2 ⟨rfl, h2⟩
  have s2 := h2.size
  try simp only [World.size_alloc, World.size_setCell, World.size_drew, World.heap_drewN] at s2
  have B2_1 := bnext (by first | (with_reducible exact B1_1) | exact (bgrow B1_1 (by go_size) (by repeat' (first | (with_reducible exact Below.refl _ _) | (with_reducible assumption) | (with_reducible refine bdrawn ?_ _) | (with_reducible refine Below.alloc ?_ ?_ _) | (with_reducible refine Below.drew ?_) | (with_reducible refine Below.setCell ?_ ?_ _) | go_size)))) h2 (by go_size)
  have z2_0 : w.heap.size < w2.heap.size := by omega
  have q2_0 := fun o => (bcell B2_1).1 (w.heap.size) o (by go_size)
  have f2_0 := fun o => (bcell B2_1).2 (w.heap.size) o (by go_size)
  have z2_1 : w.heap.size + 1 < w2.heap.size := by omega
  have q2_1 := fun o => (bcell B2_1).1 (w.heap.size + 1) o (by go_size)
  have f2_1 := fun o => (bcell B2_1).2 (w.heap.size + 1) o (by go_size)
  have H2 : Below w.heap.size w w2 := bthen (by repeat' (first | (with_reducible exact Below.refl _ _) | (with_reducible assumption) | (with_reducible refine bdrawn ?_ _) | (with_reducible refine Below.alloc ?_ ?_ _) | (with_reducible refine Below.drew ?_) | (with_reducible refine Below.setCell ?_ ?_ _) | go_size)) h2 (by go_size)
  have C2 := (bcell H2).1; have F2 := (bcell H2).2
  go_wp2_with (first | (go_at_call 77; refine (impl_between _ _ _ _).mono ?_; rintro e w1 ⟨rfl, rfl⟩))
  go_ret
  exact ⟨ret_int (by omega), H2⟩
set_option maxRecDepth 100000 in
set_option maxHeartbeats 2000000 in
theorem impl_WakeTime_2b (t : Tm) (c i now : Int) (w : World) (b : 0 ≤ c ∧ c ≤ 1000000 ∧ c ≤ now ∧ now ≤ 1000000) (hok : tmOk t = true) (hp : powOkB 2 c i = true) (hb : btw now c 1000000 = true) (hmx : ¬ now < c + t.cke) :
    Calls Try.prog 61 #[.agg (tmC t).toArray, .agg #[.int .i64 2, .int .i64 c, .int .i64 i], .int .i64 now] w fun e w' => e = .returned (.int .i64 (now + t.xs)) ∧ Below w.heap.size w w' := by
  obtain ⟨b1, b2, b3, b4⟩ := b
  obtain ⟨_, _, _, _, _, _, _, _, _, _, _, _, _, _, ⟨a14, b14⟩, ⟨a15, b15⟩, ⟨a16, b16⟩⟩ := tmOk_bd hok
  obtain ⟨tc0, tc1, tc2, tc3, tc4, tc5, tc6, tc7, tc8, tc9, tc10, tc11, tc12, tc13, tc14, tc15, tc16⟩ := tm_at t
  have hb0 : ((w.alloc (.cells (tmC t).toArray 73)).alloc (.cells #[.int .i64 2, .int .i64 c, .int .i64 i] 95)).heap[w.heap.size]? = some (.cells (tmC t).toArray 73 (0, 0)) := by rw [alloc_lt _ _ _ (by simp), alloc_at _ _ _ rfl]
  have HB := hide hb0
  clear hb0
  go_enter Try.func61, Try.ntmps61
  go_wp2_with (refine wpList_load_row rfl 73 _ rfl w.heap.size rfl 73 (tmC t).toArray (0, 0) _ HB.out Try.underlying73 rfl (tmC_info t) ?_)
  refine (impl_TimingOk_is t true hok _).mono ?_
  rintro e w1 ⟨rfl, h1⟩
  have s1 := h1.size
  try simp only [World.size_alloc, World.size_setCell, World.size_drew, World.heap_drewN] at s1
  have B1_1 := h1
  have z1_0 : w.heap.size < w1.heap.size := by omega
  have q1_0 := fun o => (bcell B1_1).1 (w.heap.size) o (by go_size)
  have f1_0 := fun o => (bcell B1_1).2 (w.heap.size) o (by go_size)
  have z1_1 : w.heap.size + 1 < w1.heap.size := by omega
  have q1_1 := fun o => (bcell B1_1).1 (w.heap.size + 1) o (by go_size)
  have f1_1 := fun o => (bcell B1_1).2 (w.heap.size + 1) o (by go_size)
  have H1 : Below w.heap.size w w1 := bthen (by repeat' (first | (with_reducible exact Below.refl _ _) | (with_reducible assumption) | (with_reducible refine bdrawn ?_ _) | (with_reducible refine Below.alloc ?_ ?_ _) | (with_reducible refine Below.drew ?_) | (with_reducible refine Below.setCell ?_ ?_ _) | go_size)) h1 (by go_size)
  have C1 := (bcell H1).1; have F1 := (bcell H1).2
  go_wp2_with (refine wpList_load_row rfl 73 _ rfl w.heap.size rfl 73 (tmC t).toArray (0, 0) _ HB.out Try.underlying73 rfl (tmC_info t) ?_)
  refine (impl_PowerOk_is _ _ _ true hp _).mono ?_
  rintro e w2 ⟨rfl, h2⟩
  have s2 := h2.size
  try simp only [World.size_alloc, World.size_setCell, World.size_drew, World.heap_drewN] at s2
  have B2_1 := bnext (by first | (with_reducible exact B1_1) | exact (bgrow B1_1 (by go_size) (by repeat' (first | (with_reducible exact Below.refl _ _) | (with_reducible assumption) | (with_reducible refine bdrawn ?_ _) | (with_reducible refine Below.alloc ?_ ?_ _) | (with_reducible refine Below.drew ?_) | (with_reducible refine Below.setCell ?_ ?_ _) | go_size)))) h2 (by go_size)
  have z2_0 : w.heap.size < w2.heap.size := by omega
  have q2_0 := fun o => (bcell B2_1).1 (w.heap.size) o (by go_size)
  have f2_0 := fun o => (bcell B2_1).2 (w.heap.size) o (by go_size)
  have z2_1 : w.heap.size + 1 < w2.heap.size := by omega
  have q2_1 := fun o => (bcell B2_1).1 (w.heap.size + 1) o (by go_size)
  have f2_1 := fun o => (bcell B2_1).2 (w.heap.size + 1) o (by go_size)
  have H2 : Below w.heap.size w w2 := bthen (by repeat' (first | (with_reducible exact Below.refl _ _) | (with_reducible assumption) | (with_reducible refine bdrawn ?_ _) | (with_reducible refine Below.alloc ?_ ?_ _) | (with_reducible refine Below.drew ?_) | (with_reducible refine Below.setCell ?_ ?_ _) | go_size)) h2 (by go_size)
  have C2 := (bcell H2).1; have F2 := (bcell H2).2
  go_wp2_with (first | (go_at_call 77; refine (impl_between _ _ _ _).mono ?_; rintro e w1 ⟨rfl, rfl⟩))
  go_ret
  exact ⟨ret_int (by omega), H2⟩
theorem impl_WakeTime (t : Tm) (s c i now : Int) (w : World) :
    Calls Try.prog 61 #[.agg (tmC t).toArray, .agg #[.int .i64 s, .int .i64 c, .int .i64 i], .int .i64 now] w fun e w' => e = .returned (.int .i64 (wakeTime t s c i now)) ∧ Below w.heap.size w w' := by
  cases hok : tmOk t
  · rw [show wakeTime t s c i now = -1 by unfold wakeTime wakeOk; rw [hok]; rfl]
    exact impl_WakeTime_a t s c i now w hok
  · cases hp : powOkB s c i
    · rw [show wakeTime t s c i now = -1 by unfold wakeTime wakeOk; rw [hp]; simp]
      exact impl_WakeTime_b t s c i now w hok hp
    · obtain ⟨⟨hs0, hs2⟩, ⟨hc0, hc1⟩, hi0, hi1⟩ := powOkB_true.1 hp
      cases hb : btw now c 1000000
      · rw [show wakeTime t s c i now = -1 by unfold wakeTime wakeOk; rw [hb]; simp]
        exact impl_WakeTime_c t s c i now w hok hp hb
      · obtain ⟨hn0, hn1⟩ := btw_true.1 hb
        have hall : wakeOk t s c i now = true := by unfold wakeOk; rw [hok, hp, hb]; rfl
        rcases (show s = 0 ∨ s = 1 ∨ s = 2 by omega) with rfl | rfl | rfl
        · rw [show wakeTime t 0 c i now = now by unfold wakeTime; rw [hall]; simp]
          exact impl_WakeTime_0 t c i now w ⟨hc0, hc1, hn0, hn1⟩ hok hp hb
        · rw [show wakeTime t 1 c i now = max now (c + t.cke) + t.xp by unfold wakeTime; rw [hall]; simp]
          by_cases hmx : now < c + t.cke
          · rw [Int.max_eq_right (by omega)]; exact impl_WakeTime_1a t c i now w ⟨hc0, hc1, hn0, hn1⟩ hok hp hb hmx
          · rw [Int.max_eq_left (by omega)]; exact impl_WakeTime_1b t c i now w ⟨hc0, hc1, hn0, hn1⟩ hok hp hb hmx
        · rw [show wakeTime t 2 c i now = max now (c + t.cke) + t.xs by unfold wakeTime; rw [hall]; simp]
          by_cases hmx : now < c + t.cke
          · rw [Int.max_eq_right (by omega)]; exact impl_WakeTime_2a t c i now w ⟨hc0, hc1, hn0, hn1⟩ hok hp hb hmx
          · rw [Int.max_eq_left (by omega)]; exact impl_WakeTime_2b t c i now w ⟨hc0, hc1, hn0, hn1⟩ hok hp hb hmx
end Go.Proofs.Ytahfbhfmhccgoaa
