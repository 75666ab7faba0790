/- A struct of many one-cell fields, copied field by field: the cells are whatever. -/
import Derived.Test.YtahfbhfmhccgoaaBetween
import Derived.Great.Walk
import Derived.Great.Frames
import Derived.Laws.Rows
import Derived.Laws.Tables
import Derived.Laws.CopyOwn
import Derived.Deep.DeepCutAuto
import Derived.Deep.RegionHeld3
set_option linter.unusedSimpArgs false
set_option linter.unusedVariables false
namespace Go.Proofs.Ytahfbhfmhccgoaa
open Go.RowKit Go.ChangeShapes Go.WideShapes Go.ChangeAt Go.Joins Go.Deep
open Go.ChangeMaps (open_string shut_string)
theorem load_cell (w : World) (b o : Nat) (v : Value) (hc : w.cell? ⟨b, o, none⟩ = some v) : (Instr.loadAt 3 (.pointer (some ⟨b, o, none⟩))).run Try.prog w = .ok v w := by
  have hu := Try.underlying3
  simp [go_sem, Instr.loadAt, Instr.sureAddr, hc]
theorem store_cell (w : World) (b o : Nat) (u : Value) (z : Int) (hc : w.cell? ⟨b, o, none⟩ = some u) (hf : w.frozen? ⟨b, o, none⟩ = false) : (Instr.storeAt 3 (.pointer (some ⟨b, o, none⟩)) (.int .i64 z)).run Try.prog w = .ok () (w.setCell ⟨b, o, none⟩ (.int .i64 z)) := by
  simp [go_sem, Instr.storeAt, Instr.sureAddr, hc, hf]

theorem wpList_skipTo {ops : Array Oper} {rest : List Oper} {o : Oper} {a : Act} {w : World} {Q : Exit → Act → World → Prop} (hg : o.guard = none) (hdst : o.dst = none)
    (w' : World) (hrun : (execOp a.eval o).run Try.prog w = .ok .skip w') (h : wpList Try.prog ops Q rest a w') : wpList Try.prog ops Q (o :: rest) a w := by
  refine wpList_plain hg fun K hK => ?_
  unfold Oper.wp
  rw [hrun]
  unfold Oper.upon
  rw [hdst]
  exact hK _ _ h
theorem yieldsIf_load_row {ops : Array Oper} {S : World → Prop} {op : Oper} {a : Act} (hw : Region.wanted op (yielded ops a.tmps) = true) (ty : TypeId) (x : Operand) (ho : op.op = .load ty x)
    (b : Nat) (hx : a.eval x = .pointer (some ⟨b, 0, none⟩)) (t : TypeId) (cs : Array Value) (fr : Nat × Nat) (fs : Array Field) (hS : ∀ w, S w → w.heap[b]? = some (.cells cs t fr))
    (hu : Try.prog.underlying ty = some (.struct fs)) (hi : (Try.prog.info? ty).map (·.size) = some cs.size) : YieldsIf Try.prog ops S op (.agg cs) a :=
  .inl ⟨hw, fun w hw' => by
    unfold execOp
    simp only [ho, hx, Instr.loadAt, Instr.sureAddr, Sem.run_bind, Sem.run_pure, Result.andThen_ok, run_loadVar_row w b t ty cs fr _ (hS w hw') hu rfl hi]⟩
theorem wp_start {I : Act → World → Prop} {c : Code} {Q : Exit → Act → World → Prop} {a : Act} {w : World} (hI : I a w) (h : ∀ a w, I a w → c.wp Try.prog Q a w) : c.wp Try.prog Q a w := h a w hI
/-- What is known in the middle of a copy, j fields done: the frame's size and three of its slots, the two rows, the result's row. -/
structure Copying (N : Nat) (T1 T2 : TypeId) (cs zs : List Value) (w0 : World) (b1 b2 b3 : Nat) (j : Nat) (a : Act) (w : World) : Prop where
  size : a.tmps.size = N
  defers : a.defers = []
  e1 : a.eval (.tmp 1) = .pointer (some ⟨b1, 0, none⟩)
  e2 : a.eval (.tmp 2) = .pointer (some ⟨b2, 0, none⟩)
  e3 : a.eval (.tmp 3) = .pointer (some ⟨b3, 0, none⟩)
  r1 : w.heap[b1]? = some (.cells cs.toArray T1 (0, 0))
  r2 : w.heap[b2]? = some (.cells zs.toArray T2 (0, 0))
  r3 : w.heap[b3]? = some (.cells (cs.take j ++ zs.drop j).toArray T2 (0, 0))
  below : Below w0.heap.size w0 w

theorem copy_step {N : Nat} {T1 T2 : TypeId} {cs zs : List Value} {w0 : World} {b1 b2 b3 : Nat} {j : Nat} {a : Act} {w : World} {id : Nat} {o1 o2 o3 o4 : Oper} {Q : Exit → Act → World → Prop} (d : Nat) (z : Int)
    (I : Copying N T1 T2 cs zs w0 b1 b2 b3 j a w) (hz : cs[j]? = some (.int .i64 z)) (hl : zs.length = cs.length) (hb1 : b1 ≠ b3) (hb2 : b2 ≠ b3) (hb3 : w0.heap.size ≤ b3)
    (hd : 3 < d) (hN : d + 2 < N)
    (g1 : o1.guard = none) (p1 : o1.op = .fieldAddr T1 (.tmp 1) j) (q1 : o1.dst = some d) (g2 : o2.guard = none) (p2 : o2.op = .load 3 (.tmp d)) (q2 : o2.dst = some (d + 1))
    (g3 : o3.guard = none) (p3 : o3.op = .fieldAddr T2 (.tmp 3) j) (q3 : o3.dst = some (d + 2)) (g4 : o4.guard = none) (p4 : o4.op = .store 3 (.tmp (d + 2)) (.tmp (d + 1))) (q4 : o4.dst = none)
    (f1 : ∀ (w : World) (b : Nat), (Instr.fieldAt T1 (.pointer (some ⟨b, 0, none⟩)) j).run Try.prog w = .ok (.pointer (some ⟨b, j, none⟩)) w)
    (f2 : ∀ (w : World) (b : Nat), (Instr.fieldAt T2 (.pointer (some ⟨b, 0, none⟩)) j).run Try.prog w = .ok (.pointer (some ⟨b, j, none⟩)) w)
    (h : ∀ a' w', Copying N T1 T2 cs zs w0 b1 b2 b3 (j + 1) a' w' → Q .normal a' w') : (Code.region id #[o1, o2, o3, o4] false).wp Try.prog Q a w := by
  obtain ⟨s, df, e1, e2, e3, r1, r2, r3, bl⟩ := I
  have hj : j < cs.length := (List.getElem?_eq_some_iff.1 hz).1
  refine wp_region_lit ?_
  refine Go.Great.wpList_readTo g1 (some d) q1 (.pointer (some ⟨b1, j, none⟩)) (by simp only [execOp, p1, e1, Sem.run_bind, f1, Result.andThen_ok]; rfl) ?_
  have s1 : (a.put (some d) (.pointer (some ⟨b1, j, none⟩))).tmps.size = N := by rw [Act.size_put, s]
  refine Go.Great.wpList_readTo g2 (some (d + 1)) q2 (.int .i64 z) (by
    simp only [execOp, p2, Act.eval_put_same a d _ (by omega)]
    rw [Sem.run_bind, load_cell w b1 j (.int .i64 z) (by rw [cell_blk r1, List.getElem?_toArray]; exact hz)]; rfl) ?_
  refine Go.Great.wpList_readTo g3 (some (d + 2)) q3 (.pointer (some ⟨b3, j, none⟩)) (by
    simp only [execOp, p3]
    rw [Act.eval_put_ne _ _ _ _ (by omega), Act.eval_put_ne _ _ _ _ (by omega), e3, Sem.run_bind, f2]; rfl) ?_
  refine wpList_skipTo g4 q4 (w.setCell ⟨b3, j, none⟩ (.int .i64 z)) (by
    simp only [execOp, p4]
    rw [Act.eval_put_same _ _ _ (by rw [Act.size_put, Act.size_put]; omega), Act.eval_put_ne _ _ _ _ (by omega), Act.eval_put_same _ _ _ (by rw [Act.size_put]; omega), Sem.run_bind,
      store_cell w b3 j ((cs.take j ++ zs.drop j)[j]'(by simp; omega)) z (by rw [cell_blk r3, List.getElem?_toArray]; exact List.getElem?_eq_getElem _) (free_blk r3 j)]; rfl) ?_
  show Q .normal _ _
  have hrow := set_blk r3 (o := j) (.int .i64 z)
  have hnext : (cs.take j ++ zs.drop j).toArray.setIfInBounds j (.int .i64 z) = (cs.take (j + 1) ++ zs.drop (j + 1)).toArray := by
    rw [List.setIfInBounds_toArray, over_next cs zs j cs.length hj rfl hl _ hz]
  rw [hnext] at hrow
  refine h _ _ ⟨?_, ?_, ?_, ?_, ?_, ?_, ?_, hrow, ?_⟩
  · rw [Act.size_put, Act.size_put, Act.size_put, s]
  · rw [Act.defers_put', Act.defers_put', Act.defers_put', df]
  · rw [Act.eval_put_ne _ _ _ _ (by omega), Act.eval_put_ne _ _ _ _ (by omega), Act.eval_put_ne _ _ _ _ (by omega), e1]
  · rw [Act.eval_put_ne _ _ _ _ (by omega), Act.eval_put_ne _ _ _ _ (by omega), Act.eval_put_ne _ _ _ _ (by omega), e2]
  · rw [Act.eval_put_ne _ _ _ _ (by omega), Act.eval_put_ne _ _ _ _ (by omega), Act.eval_put_ne _ _ _ _ (by omega), e3]
  · rw [heap_set_other _ _ _ _ _ hb1]; exact r1
  · rw [heap_set_other _ _ _ _ _ hb2]; exact r2
  · exact bl.setCell hb3 _
structure Tm where
  (rcd rp ras rrds rrdl faw ccds ccdl rtp wr wtrs wtrl rtw rfc cke xp xs : Int)
def tmL (t : Tm) : List Int := [t.rcd, t.rp, t.ras, t.rrds, t.rrdl, t.faw, t.ccds, t.ccdl, t.rtp, t.wr, t.wtrs, t.wtrl, t.rtw, t.rfc, t.cke, t.xp, t.xs]
def tmAll (t : Tm) : Bool := (tmL t).all fun z => btw z 1 64
def tmOrd (t : Tm) : Bool := decide (t.rcd ≤ t.ras) && (decide (t.rrds ≤ t.rrdl) && (decide (t.ccds ≤ t.ccdl) && decide (t.wtrs ≤ t.wtrl)))
def tmOk (t : Tm) : Bool := tmAll t && tmOrd t
theorem tmOk_bd {t : Tm} (h : tmOk t = true) : (1 ≤ t.rcd ∧ t.rcd ≤ 64) ∧ (1 ≤ t.rp ∧ t.rp ≤ 64) ∧ (1 ≤ t.ras ∧ t.ras ≤ 64) ∧ (1 ≤ t.rrds ∧ t.rrds ≤ 64) ∧ (1 ≤ t.rrdl ∧ t.rrdl ≤ 64) ∧ (1 ≤ t.faw ∧ t.faw ≤ 64) ∧ (1 ≤ t.ccds ∧ t.ccds ≤ 64) ∧ (1 ≤ t.ccdl ∧ t.ccdl ≤ 64) ∧ (1 ≤ t.rtp ∧ t.rtp ≤ 64) ∧ (1 ≤ t.wr ∧ t.wr ≤ 64) ∧ (1 ≤ t.wtrs ∧ t.wtrs ≤ 64) ∧ (1 ≤ t.wtrl ∧ t.wtrl ≤ 64) ∧ (1 ≤ t.rtw ∧ t.rtw ≤ 64) ∧ (1 ≤ t.rfc ∧ t.rfc ≤ 64) ∧ (1 ≤ t.cke ∧ t.cke ≤ 64) ∧ (1 ≤ t.xp ∧ t.xp ≤ 64) ∧ (1 ≤ t.xs ∧ t.xs ≤ 64) := by
  have h1 : tmAll t = true := by unfold tmOk at h; simp at h; exact h.1
  simpa [tmAll, tmL, btw_true] using h1
theorem tmOk_ord {t : Tm} (h : tmOk t = true) : t.rcd ≤ t.ras ∧ t.rrds ≤ t.rrdl ∧ t.ccds ≤ t.ccdl ∧ t.wtrs ≤ t.wtrl := by
  have h1 : tmOrd t = true := by unfold tmOk at h; simp at h; exact h.2
  simpa [tmOrd] using h1

def tmC (t : Tm) : List Value := (tmL t).map (Value.int .i64)
def zeros17 : List Value := List.replicate 17 (.int .i64 0)
abbrev tmA (t : Tm) : Array Value := (tmC t).toArray
theorem tmC_one (t : Tm) : ((tmC t).toArray.all fun x => x.oneCell') = true := by simp [tmC, tmL, Value.oneCell']
theorem tmC_len (t : Tm) : (tmC t).length = 17 := rfl
set_option maxRecDepth 100000 in
set_option maxHeartbeats 1000000 in
theorem laws_toTiming (t : Tm) (w : World) :
    Calls Try.prog 54 #[.agg (tmC t).toArray] w fun e w' => e = .returned (.agg (tmC t).toArray) ∧ Below w.heap.size w w' := by
  go_enter Try.func54, Try.ntmps54
  go_upto_region 2 with fail
  refine wp_start (I := fun a x => Copying 56 82 73 (tmC t) zeros17 w w.heap.size (w.heap.size + 1) (w.heap.size + 1 + 1) 0 a x)
    ⟨rfl, rfl, rfl, rfl, rfl, by rw [alloc_lt _ _ _ (by simp; omega), alloc_lt _ _ _ (by simp), alloc_at _ _ _ rfl], by rw [alloc_lt _ _ _ (by simp), alloc_at _ _ _ (by simp)]; rfl, by rw [alloc_at _ _ _ (by simp)]; rfl, by go_grown⟩ ?_
  intro a0 x0 I0
  refine copy_step 4 _ I0 rfl rfl (by omega) (by omega) (by omega) (by omega) (by omega) rfl rfl rfl rfl rfl rfl rfl rfl rfl rfl rfl rfl (fun _ _ => by kernel_rfl) (fun _ _ => by kernel_rfl) ?_
  clear I0
  intro a1 x1 I1
  go_upto_region 3 with fail
  refine copy_step 7 _ I1 rfl rfl (by omega) (by omega) (by omega) (by omega) (by omega) rfl rfl rfl rfl rfl rfl rfl rfl rfl rfl rfl rfl (fun _ _ => by kernel_rfl) (fun _ _ => by kernel_rfl) ?_
  clear I1
  intro a2 x2 I2
  go_upto_region 4 with fail
  refine copy_step 10 _ I2 rfl rfl (by omega) (by omega) (by omega) (by omega) (by omega) rfl rfl rfl rfl rfl rfl rfl rfl rfl rfl rfl rfl (fun _ _ => by kernel_rfl) (fun _ _ => by kernel_rfl) ?_
  clear I2
  intro a3 x3 I3
  go_upto_region 5 with fail
  refine copy_step 13 _ I3 rfl rfl (by omega) (by omega) (by omega) (by omega) (by omega) rfl rfl rfl rfl rfl rfl rfl rfl rfl rfl rfl rfl (fun _ _ => by kernel_rfl) (fun _ _ => by kernel_rfl) ?_
  clear I3
  intro a4 x4 I4
  go_upto_region 6 with fail
  refine copy_step 16 _ I4 rfl rfl (by omega) (by omega) (by omega) (by omega) (by omega) rfl rfl rfl rfl rfl rfl rfl rfl rfl rfl rfl rfl (fun _ _ => by kernel_rfl) (fun _ _ => by kernel_rfl) ?_
  clear I4
  intro a5 x5 I5
  go_upto_region 7 with fail
  refine copy_step 19 _ I5 rfl rfl (by omega) (by omega) (by omega) (by omega) (by omega) rfl rfl rfl rfl rfl rfl rfl rfl rfl rfl rfl rfl (fun _ _ => by kernel_rfl) (fun _ _ => by kernel_rfl) ?_
  clear I5
  intro a6 x6 I6
  go_upto_region 8 with fail
  refine copy_step 22 _ I6 rfl rfl (by omega) (by omega) (by omega) (by omega) (by omega) rfl rfl rfl rfl rfl rfl rfl rfl rfl rfl rfl rfl (fun _ _ => by kernel_rfl) (fun _ _ => by kernel_rfl) ?_
  clear I6
  intro a7 x7 I7
  go_upto_region 9 with fail
  refine copy_step 25 _ I7 rfl rfl (by omega) (by omega) (by omega) (by omega) (by omega) rfl rfl rfl rfl rfl rfl rfl rfl rfl rfl rfl rfl (fun _ _ => by kernel_rfl) (fun _ _ => by kernel_rfl) ?_
  clear I7
  intro a8 x8 I8
  go_upto_region 10 with fail
  refine copy_step 28 _ I8 rfl rfl (by omega) (by omega) (by omega) (by omega) (by omega) rfl rfl rfl rfl rfl rfl rfl rfl rfl rfl rfl rfl (fun _ _ => by kernel_rfl) (fun _ _ => by kernel_rfl) ?_
  clear I8
  intro a9 x9 I9
  go_upto_region 11 with fail
  refine copy_step 31 _ I9 rfl rfl (by omega) (by omega) (by omega) (by omega) (by omega) rfl rfl rfl rfl rfl rfl rfl rfl rfl rfl rfl rfl (fun _ _ => by kernel_rfl) (fun _ _ => by kernel_rfl) ?_
  clear I9
  intro a10 x10 I10
  go_upto_region 12 with fail
  refine copy_step 34 _ I10 rfl rfl (by omega) (by omega) (by omega) (by omega) (by omega) rfl rfl rfl rfl rfl rfl rfl rfl rfl rfl rfl rfl (fun _ _ => by kernel_rfl) (fun _ _ => by kernel_rfl) ?_
  clear I10
  intro a11 x11 I11
  go_upto_region 13 with fail
  refine copy_step 37 _ I11 rfl rfl (by omega) (by omega) (by omega) (by omega) (by omega) rfl rfl rfl rfl rfl rfl rfl rfl rfl rfl rfl rfl (fun _ _ => by kernel_rfl) (fun _ _ => by kernel_rfl) ?_
  clear I11
  intro a12 x12 I12
  go_upto_region 14 with fail
  refine copy_step 40 _ I12 rfl rfl (by omega) (by omega) (by omega) (by omega) (by omega) rfl rfl rfl rfl rfl rfl rfl rfl rfl rfl rfl rfl (fun _ _ => by kernel_rfl) (fun _ _ => by kernel_rfl) ?_
  clear I12
  intro a13 x13 I13
  go_upto_region 15 with fail
  refine copy_step 43 _ I13 rfl rfl (by omega) (by omega) (by omega) (by omega) (by omega) rfl rfl rfl rfl rfl rfl rfl rfl rfl rfl rfl rfl (fun _ _ => by kernel_rfl) (fun _ _ => by kernel_rfl) ?_
  clear I13
  intro a14 x14 I14
  go_upto_region 16 with fail
  refine copy_step 46 _ I14 rfl rfl (by omega) (by omega) (by omega) (by omega) (by omega) rfl rfl rfl rfl rfl rfl rfl rfl rfl rfl rfl rfl (fun _ _ => by kernel_rfl) (fun _ _ => by kernel_rfl) ?_
  clear I14
  intro a15 x15 I15
  go_upto_region 17 with fail
  refine copy_step 49 _ I15 rfl rfl (by omega) (by omega) (by omega) (by omega) (by omega) rfl rfl rfl rfl rfl rfl rfl rfl rfl rfl rfl rfl (fun _ _ => by kernel_rfl) (fun _ _ => by kernel_rfl) ?_
  clear I15
  intro a16 x16 I16
  go_upto_region 18 with fail
  refine copy_step 52 _ I16 rfl rfl (by omega) (by omega) (by omega) (by omega) (by omega) rfl rfl rfl rfl rfl rfl rfl rfl rfl rfl rfl rfl (fun _ _ => by kernel_rfl) (fun _ _ => by kernel_rfl) ?_
  clear I16
  intro a17 x17 I17
  go_upto_region 19 with fail
  obtain ⟨s, df, e1, e2, e3, r1, r2, r3, bl⟩ := I17
  rw [List.take_of_length_le (by rw [tmC_len]; omega), List.drop_eq_nil_of_le (by simp [zeros17]), List.append_nil] at r3
  have hsz : (Try.prog.info? 73).map (·.size) = some (tmC t).toArray.size := by rw [List.size_toArray, tmC_len]; kernel_rfl
  refine wp_region_lit ?_
  refine wpList_load_row rfl 73 (.tmp 3) rfl (w.heap.size + 1 + 1) e3 73 (tmC t).toArray (0, 0) _ r3 Try.underlying73 rfl hsz ?_
  refine wpList_store_row rfl 73 (.tmp 2) (.tmp 55) rfl (w.heap.size + 1) (tmC t).toArray ((Act.eval_put_ne _ _ _ _ (by omega)).trans e2) (Act.eval_put_same _ _ _ (by omega)) 73 zeros17.toArray r2 hsz (by simp [zeros17, tmC_len]) (tmC_one t) ?_
  refine wpList_nil ?_
  have r2' := setRow_heap x17 (w.heap.size + 1) zeros17.toArray (tmC t).toArray _ _ r2
  have bl' := below_setRow bl (show w.heap.size ≤ w.heap.size + 1 by omega) (tmC t).toArray
  go_step
  go_step
  go_step
  refine bodyPost_ret (results_cell_row rfl _ _ (w.heap.size + 1) 73 (tmC t).toArray (0, 0) _ ?_ r2' Try.underlying73 rfl hsz) ?_ ?_
  · show ((a17.put (some 55) _).put none _).eval (.tmp 2) = _
    exact (Act.eval_put_ne _ _ _ _ (by omega)).trans e2
  · exact df
  · exact ⟨rfl, bl'⟩
end Go.Proofs.Ytahfbhfmhccgoaa
