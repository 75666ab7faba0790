/- SlotNeed of the program and of the reference. -/
import Derived.Test.YtahfbhfmhccgoaaTimeOk
set_option linter.unusedSimpArgs false
set_option linter.unusedVariables false
namespace Go.Proofs.Ytahfbhfmhccgoaa
open Go.RowKit Go.ChangeShapes Go.WideShapes Go.ChangeAt Go.Joins Go.Deep
open Go.ChangeMaps (open_string shut_string)
def mxL : List Int → Int
  | [] => 0
  | x :: l => l.foldl max x
theorem fold_max {P : Program} (k : IntKind) (w : World) : ∀ (l : List Int) (x : Int), ((l.map (Value.int k)).foldlM Builtin.max2 (.int k x)).run P w = .ok (.int k (l.foldl max x)) w := by
  intro l
  induction l with
  | nil => intro x; rfl
  | cons y l ih =>
    intro x
    rw [List.map_cons, List.foldlM_cons, Sem.run_bind]
    have h1 : (Builtin.max2 (.int k x) (.int k y)).run P w = .ok (.int k (max x y)) w := by
      simp only [Builtin.max2, Sem.run_pure]
      congr 2
      split <;> omega
    rw [h1, List.foldl_cons]
    exact ih (max x y)
theorem run_max5 (w : World) (x0 x1 x2 x3 x4 : Int) : (Builtin.max_ #[3, 3, 3, 3, 3] 3 #[.int .i64 x0, .int .i64 x1, .int .i64 x2, .int .i64 x3, .int .i64 x4]).run Try.prog w = .ok (.int .i64 (mxL [x0, x1, x2, x3, x4])) w := fold_max .i64 w [x1, x2, x3, x4] x0
theorem run_max4 (w : World) (x0 x1 x2 x3 : Int) : (Builtin.max_ #[3, 3, 3, 3] 3 #[.int .i64 x0, .int .i64 x1, .int .i64 x2, .int .i64 x3]).run Try.prog w = .ok (.int .i64 (mxL [x0, x1, x2, x3])) w := fold_max .i64 w [x1, x2, x3] x0
theorem run_max8 (w : World) (x0 x1 x2 x3 x4 x5 x6 x7 : Int) : (Builtin.max_ #[3, 3, 3, 3, 3, 3, 3, 3] 3 #[.int .i64 x0, .int .i64 x1, .int .i64 x2, .int .i64 x3, .int .i64 x4, .int .i64 x5, .int .i64 x6, .int .i64 x7]).run Try.prog w = .ok (.int .i64 (mxL [x0, x1, x2, x3, x4, x5, x6, x7])) w := fold_max .i64 w [x1, x2, x3, x4, x5, x6, x7] x0
def need (t : Tm) : Int := mxL [t.ras + t.rp, t.rcd + t.rtp + t.rp, t.rcd + t.wr + t.rp, t.rrdl, t.ccdl, t.wtrl, t.rtw, (t.faw + 3) / 4]
def slotNeed (t : Tm) : Int := if tmOk t = true then need t else 0
theorem impl_TimingOk_is (t : Tm) (b : Bool) (h : tmOk t = b) (w : World) : Calls Try.prog 94 #[.agg (tmC t).toArray] w fun e w' => e = .returned (.bool b) ∧ Below w.heap.size w w' := by subst h; exact impl_TimingOk t w
theorem spec_TimingOk_is (t : Tm) (b : Bool) (h : tmOk t = b) (w : World) : Calls Try.prog 104 #[.agg (tmC t).toArray] w fun e w' => e = .returned (.bool b) ∧ Below w.heap.size w w' := by subst h; exact spec_TimingOk t w
set_option maxRecDepth 100000 in
set_option maxHeartbeats 2000000 in
theorem impl_SlotNeed (t : Tm) (w : World) :
    Calls Try.prog 49 #[.agg (tmC t).toArray] w fun e w' => e = .returned (.int .i64 (slotNeed t)) ∧ Below w.heap.size w w' := by
  obtain ⟨tc0, tc1, tc2, tc3, tc4, tc5, tc6, tc7, tc8, tc9, tc10, tc11, tc12, tc13, tc14, tc15, tc16⟩ := tm_at t
  have hb0 : (w.alloc (.cells (tmC t).toArray 73)).heap[w.heap.size]? = some (.cells (tmC t).toArray 73 (0, 0)) := alloc_at _ _ _ rfl
  have HB := hide hb0
  clear hb0
  cases hok : tmOk t
  · have HV := hide (show slotNeed t = 0 by unfold slotNeed; rw [hok]; rfl)
    go_enter Try.func49, Try.ntmps49
    go_wp2_with (refine wpList_load_row rfl 73 _ rfl w.heap.size rfl 73 (tmC t).toArray (0, 0) _ HB.out Try.underlying73 rfl (tmC_info t) ?_)
    refine (impl_TimingOk_is t false hok _).mono ?_
    rintro e w1 ⟨rfl, h1⟩
    go_wp2_with fail
    go_ret
    exact ⟨ret_int (by rw [HV.out]), bthen (by go_grown) h1 (by simp)⟩
  · have HV := hide (show slotNeed t = need t by unfold slotNeed; rw [hok]; rfl)
    have bd := tmOk_bd hok
    go_enter Try.func49, Try.ntmps49
    go_wp2_with (refine wpList_load_row rfl 73 _ rfl w.heap.size rfl 73 (tmC t).toArray (0, 0) _ HB.out Try.underlying73 rfl (tmC_info t) ?_)
    refine (impl_TimingOk_is t true hok _).mono ?_
    rintro e w1 ⟨rfl, h1⟩
    have hb1 := h1.block w.heap.size (by simp)
    rw [alloc_at _ _ _ rfl] at hb1
    obtain ⟨⟨a0, b0⟩, ⟨a1, b1⟩, ⟨a2, b2⟩, ⟨a3, b3⟩, ⟨a4, b4⟩, ⟨a5, b5⟩, ⟨a6, b6⟩, ⟨a7, b7⟩, ⟨a8, b8⟩, ⟨a9, b9⟩, ⟨a10, b10⟩, ⟨a11, b11⟩, ⟨a12, b12⟩, ⟨a13, b13⟩, ⟨a14, b14⟩, ⟨a15, b15⟩, ⟨a16, b16⟩⟩ := bd
    have c0 : w1.cell? ⟨w.heap.size, 0, none⟩ = some (.int .i64 t.rcd) := (cell_blk hb1 0).trans (by simp [tc0])
    have c1 : w1.cell? ⟨w.heap.size, 1, none⟩ = some (.int .i64 t.rp) := (cell_blk hb1 1).trans (by simp [tc1])
    have c2 : w1.cell? ⟨w.heap.size, 2, none⟩ = some (.int .i64 t.ras) := (cell_blk hb1 2).trans (by simp [tc2])
    have c4 : w1.cell? ⟨w.heap.size, 4, none⟩ = some (.int .i64 t.rrdl) := (cell_blk hb1 4).trans (by simp [tc4])
    have c5 : w1.cell? ⟨w.heap.size, 5, none⟩ = some (.int .i64 t.faw) := (cell_blk hb1 5).trans (by simp [tc5])
    have c7 : w1.cell? ⟨w.heap.size, 7, none⟩ = some (.int .i64 t.ccdl) := (cell_blk hb1 7).trans (by simp [tc7])
    have c8 : w1.cell? ⟨w.heap.size, 8, none⟩ = some (.int .i64 t.rtp) := (cell_blk hb1 8).trans (by simp [tc8])
    have c9 : w1.cell? ⟨w.heap.size, 9, none⟩ = some (.int .i64 t.wr) := (cell_blk hb1 9).trans (by simp [tc9])
    have c11 : w1.cell? ⟨w.heap.size, 11, none⟩ = some (.int .i64 t.wtrl) := (cell_blk hb1 11).trans (by simp [tc11])
    have c12 : w1.cell? ⟨w.heap.size, 12, none⟩ = some (.int .i64 t.rtw) := (cell_blk hb1 12).trans (by simp [tc12])
    clear tc0 tc1 tc2 tc3 tc4 tc5 tc6 tc7 tc8 tc9 tc10 tc11 tc12 tc13 tc14 tc15 tc16 hb1
    have hmx := run_max8
    go_wp2_with fail
    go_ret
    exact ⟨ret_int (by rw [HV.out]; rfl), bthen (by go_grown) h1 (by simp)⟩

set_option maxRecDepth 100000 in
set_option maxHeartbeats 2000000 in
theorem spec_SlotNeed (t : Tm) (w : World) :
    Calls Try.prog 106 #[.agg (tmC t).toArray] w fun e w' => e = .returned (.int .i64 (slotNeed t)) ∧ Below w.heap.size w w' := by
  obtain ⟨tc0, tc1, tc2, tc3, tc4, tc5, tc6, tc7, tc8, tc9, tc10, tc11, tc12, tc13, tc14, tc15, tc16⟩ := tm_at t
  have hb0 : (w.alloc (.cells (tmC t).toArray 73)).heap[w.heap.size]? = some (.cells (tmC t).toArray 73 (0, 0)) := alloc_at _ _ _ rfl
  have HB := hide hb0
  clear hb0
  cases hok : tmOk t
  · have HV := hide (show slotNeed t = 0 by unfold slotNeed; rw [hok]; rfl)
    go_enter Try.func106, Try.ntmps106
    go_wp2_with (refine wpList_load_row rfl 73 _ rfl w.heap.size rfl 73 (tmC t).toArray (0, 0) _ HB.out Try.underlying73 rfl (tmC_info t) ?_)
    refine (spec_TimingOk_is t false hok _).mono ?_
    rintro e w1 ⟨rfl, h1⟩
    go_wp2_with fail
    go_ret
    exact ⟨ret_int (by rw [HV.out]), bthen (by go_grown) h1 (by simp)⟩
  · have HV := hide (show slotNeed t = need t by unfold slotNeed; rw [hok]; rfl)
    have bd := tmOk_bd hok
    go_enter Try.func106, Try.ntmps106
    go_wp2_with (refine wpList_load_row rfl 73 _ rfl w.heap.size rfl 73 (tmC t).toArray (0, 0) _ HB.out Try.underlying73 rfl (tmC_info t) ?_)
    refine (spec_TimingOk_is t true hok _).mono ?_
    rintro e w1 ⟨rfl, h1⟩
    have hb1 := h1.block w.heap.size (by simp)
    rw [alloc_at _ _ _ rfl] at hb1
    obtain ⟨⟨a0, b0⟩, ⟨a1, b1⟩, ⟨a2, b2⟩, ⟨a3, b3⟩, ⟨a4, b4⟩, ⟨a5, b5⟩, ⟨a6, b6⟩, ⟨a7, b7⟩, ⟨a8, b8⟩, ⟨a9, b9⟩, ⟨a10, b10⟩, ⟨a11, b11⟩, ⟨a12, b12⟩, ⟨a13, b13⟩, ⟨a14, b14⟩, ⟨a15, b15⟩, ⟨a16, b16⟩⟩ := bd
    have c0 : w1.cell? ⟨w.heap.size, 0, none⟩ = some (.int .i64 t.rcd) := (cell_blk hb1 0).trans (by simp [tc0])
    have c1 : w1.cell? ⟨w.heap.size, 1, none⟩ = some (.int .i64 t.rp) := (cell_blk hb1 1).trans (by simp [tc1])
    have c2 : w1.cell? ⟨w.heap.size, 2, none⟩ = some (.int .i64 t.ras) := (cell_blk hb1 2).trans (by simp [tc2])
    have c4 : w1.cell? ⟨w.heap.size, 4, none⟩ = some (.int .i64 t.rrdl) := (cell_blk hb1 4).trans (by simp [tc4])
    have c5 : w1.cell? ⟨w.heap.size, 5, none⟩ = some (.int .i64 t.faw) := (cell_blk hb1 5).trans (by simp [tc5])
    have c7 : w1.cell? ⟨w.heap.size, 7, none⟩ = some (.int .i64 t.ccdl) := (cell_blk hb1 7).trans (by simp [tc7])
    have c8 : w1.cell? ⟨w.heap.size, 8, none⟩ = some (.int .i64 t.rtp) := (cell_blk hb1 8).trans (by simp [tc8])
    have c9 : w1.cell? ⟨w.heap.size, 9, none⟩ = some (.int .i64 t.wr) := (cell_blk hb1 9).trans (by simp [tc9])
    have c11 : w1.cell? ⟨w.heap.size, 11, none⟩ = some (.int .i64 t.wtrl) := (cell_blk hb1 11).trans (by simp [tc11])
    have c12 : w1.cell? ⟨w.heap.size, 12, none⟩ = some (.int .i64 t.rtw) := (cell_blk hb1 12).trans (by simp [tc12])
    clear tc0 tc1 tc2 tc3 tc4 tc5 tc6 tc7 tc8 tc9 tc10 tc11 tc12 tc13 tc14 tc15 tc16 hb1
    have hmx := run_max5; have hmy := run_max4
    go_wp2_with fail
    go_ret
    exact ⟨ret_int (by rw [HV.out]; rfl), bthen (by go_grown) h1 (by simp)⟩
end Go.Proofs.Ytahfbhfmhccgoaa
