/- For every timing, every power state and every time the program's WakeTime returns what the reference's returns. No condition. -/
import Derived.Test.YtlaoeaecbdmebaaWakeT2
import Derived.Test.YtlaoeaecbdmebaaAgg17
set_option linter.unusedSimpArgs false
set_option linter.unusedVariables false
namespace Go.Proofs.Ytlaoeaecbdmebaa
open Go.RowKit Go.ChangeShapes Go.WideShapes Go.ChangeAt Go.Joins Go.Deep
open Go.ChangeMaps (open_string shut_string)
set_option maxRecDepth 100000 in
set_option maxHeartbeats 4000000 in
theorem FnExactWakeTime_walk0 (t : Tm) (s c i now : Int) (w : World) :
    Calls Try.prog 14 #[.agg (tmC t).toArray, .agg #[.int .i64 s, .int .i64 c, .int .i64 i], .int .i64 now] w fun e w' => e = .returned (.bool true) ∧ Below w.heap.size w w' := by
  have hb0 : ((w.alloc (.cells (tmC t).toArray 89)).alloc (.cells #[.int .i64 s, .int .i64 c, .int .i64 i] 94)).heap[w.heap.size]? = some (.cells (tmC t).toArray 89 (0, 0)) := by rw [alloc_lt _ _ _ (by simp), alloc_at _ _ _ rfl]
  have hb1 : ((w.alloc (.cells (tmC t).toArray 89)).alloc (.cells #[.int .i64 s, .int .i64 c, .int .i64 i] 94)).heap[w.heap.size + 1]? = some (.cells #[.int .i64 s, .int .i64 c, .int .i64 i] 94 (0, 0)) := alloc_at _ _ _ (by simp)
  have HB := hide (And.intro hb0 hb1)
  clear hb0 hb1
  go_enter Try.func14, Try.ntmps14
  go_wp2_with fail
  refine wp_region_held_drew (S := fun v => v.heap[w.heap.size]? = some (.cells (tmC t).toArray 89 (0, 0)) ∧ v.heap[w.heap.size + 1]? = some (.cells #[.int .i64 s, .int .i64 c, .int .i64 i] 94 (0, 0)) ∧ Below w.heap.size w v) (by kernel_rfl) (⟨HB.out.1, HB.out.2, (by repeat' (first | (with_reducible exact Below.refl _ _) | (with_reducible assumption) | (with_reducible refine bdrawn ?_ _) | (with_reducible refine Below.alloc ?_ ?_ _) | (with_reducible refine Below.drew ?_) | (with_reducible refine Below.setCell ?_ ?_ _) | go_size))⟩) (fun hSx => ?_)
  refine wpAnyH_take (i := 0) rfl (by kernel_rfl) (by kernel_rfl) (by kernel_rfl) (fun _ _ _ h => h) (yieldsIf_load_row (by rfl) 89 _ rfl w.heap.size rfl 89 (tmA t) (0, 0) _ (fun _ h => h.1) Try.underlying89 (tmC_info' t)) (by assumption) ?_
  try simp only [Act.put, List.getElem_toArray, List.getElem_cons_zero, List.getElem_cons_succ, List.setIfInBounds_toArray, List.set_cons_zero, List.set_cons_succ]
  refine wpAnyH_take (i := 2) rfl (by kernel_rfl) (by kernel_rfl) (by kernel_rfl) (fun _ _ _ h => h) (yieldsIf_load_row (by rfl) 94 _ rfl (w.heap.size + 1) rfl 94 (#[.int .i64 s, .int .i64 c, .int .i64 i]) (0, 0) _ (fun _ h => h.2.1) Try.underlying94 (by kernel_rfl)) (by assumption) ?_
  try simp only [Act.put, List.getElem_toArray, List.getElem_cons_zero, List.getElem_cons_succ, List.setIfInBounds_toArray, List.set_cons_zero, List.set_cons_succ]
  refine wpAnyH_take (i := 4) (v := ?_) rfl (by kernel_rfl) (by kernel_rfl) (by kernel_rfl) (fun _ _ _ h => h) (Or.inl ⟨by rfl, ?_⟩) (by assumption) ?_
  rotate_left
  · intro w _; go_simp; try with_reducible rfl
  try simp only [Act.put, List.getElem_toArray, List.getElem_cons_zero, List.getElem_cons_succ, List.setIfInBounds_toArray, List.set_cons_zero, List.set_cons_succ]
  refine wpAnyH_ready (rs := [1]) (by kernel_rfl) (by simp) ?_
  refine AllReadyH.cons rfl (fun K hK => ?_) AllReadyH.nil
  go_simp
  refine (laws_toTiming t _).mono ?_
  rintro e y1 ⟨rfl, hy1⟩
  refine hK.out _ _ (⟨(hy1.block _ (lt_blk hSx.1)).trans hSx.1, (hy1.block _ (lt_blk hSx.2.1)).trans hSx.2.1, bthen hSx.2.2 hy1 hSx.2.2.size⟩) (fun hSy => ?_)
  clear hSx hK K
  have hSx := hSy; clear hSy
  try simp only [Act.put, List.getElem_toArray, List.getElem_cons_zero, List.getElem_cons_succ, List.setIfInBounds_toArray, List.set_cons_zero, List.set_cons_succ]
  refine wpAnyH_ready (rs := [3]) (by kernel_rfl) (by simp) ?_
  refine AllReadyH.cons rfl (fun K hK => ?_) AllReadyH.nil
  go_simp
  refine (laws_toPower _ _ _ _).mono ?_
  rintro e y2 ⟨rfl, hy2⟩
  refine hK.out _ _ (⟨(hy2.block _ (lt_blk hSx.1)).trans hSx.1, (hy2.block _ (lt_blk hSx.2.1)).trans hSx.2.1, bthen hSx.2.2 hy2 hSx.2.2.size⟩) (fun hSy => ?_)
  clear hSx hK K
  have hSx := hSy; clear hSy
  try simp only [Act.put, List.getElem_toArray, List.getElem_cons_zero, List.getElem_cons_succ, List.setIfInBounds_toArray, List.set_cons_zero, List.set_cons_succ]
  refine wpAnyH_ready (rs := [5]) (by kernel_rfl) (by simp) ?_
  refine AllReadyH.cons rfl (fun K hK => ?_) AllReadyH.nil
  go_simp
  refine (spec_WakeTime t _ _ _ _ _).mono ?_
  rintro e y3 ⟨rfl, hy3⟩
  refine hK.out _ _ (⟨(hy3.block _ (lt_blk hSx.1)).trans hSx.1, (hy3.block _ (lt_blk hSx.2.1)).trans hSx.2.1, bthen hSx.2.2 hy3 hSx.2.2.size⟩) (fun hSy => ?_)
  clear hSx hK K
  have hSx := hSy; clear hSy
  try simp only [Act.put, List.getElem_toArray, List.getElem_cons_zero, List.getElem_cons_succ, List.setIfInBounds_toArray, List.set_cons_zero, List.set_cons_succ]
  refine wpAnyH_take (i := 6) (v := ?_) rfl (by kernel_rfl) (by kernel_rfl) (by kernel_rfl) (fun _ _ _ h => h) (Or.inl ⟨by rfl, ?_⟩) (by assumption) ?_
  rotate_left
  · intro w _; go_simp; try with_reducible rfl
  try simp only [Act.put, List.getElem_toArray, List.getElem_cons_zero, List.getElem_cons_succ, List.setIfInBounds_toArray, List.set_cons_zero, List.set_cons_succ]
  refine wpAnyH_done (by kernel_rfl) ?_ _
  obtain ⟨x3, rfl⟩ : ∃ W : World, W = y3 := ⟨_, rfl⟩
  have HS := hide hSx
  clear hSx hy1 hy2 hy3
  go_wp2_with fail
  refine wp_region_held_drew (S := fun v => v.heap[w.heap.size]? = some (.cells (tmC t).toArray 89 (0, 0)) ∧ v.heap[w.heap.size + 1]? = some (.cells #[.int .i64 s, .int .i64 c, .int .i64 i] 94 (0, 0)) ∧ Below w.heap.size w v) (by kernel_rfl) (⟨HS.out.1, HS.out.2.1, HS.out.2.2.drew⟩) (fun hSx => ?_)
  refine wpAnyH_take (i := 0) rfl (by kernel_rfl) (by kernel_rfl) (by kernel_rfl) (fun _ _ _ h => h) (yieldsIf_load_row (by rfl) 89 _ rfl w.heap.size rfl 89 (tmA t) (0, 0) _ (fun _ h => h.1) Try.underlying89 (tmC_info' t)) (by assumption) ?_
  try simp only [Act.put, List.getElem_toArray, List.getElem_cons_zero, List.getElem_cons_succ, List.setIfInBounds_toArray, List.set_cons_zero, List.set_cons_succ]
  refine wpAnyH_take (i := 2) rfl (by kernel_rfl) (by kernel_rfl) (by kernel_rfl) (fun _ _ _ h => h) (yieldsIf_load_row (by rfl) 94 _ rfl (w.heap.size + 1) rfl 94 (#[.int .i64 s, .int .i64 c, .int .i64 i]) (0, 0) _ (fun _ h => h.2.1) Try.underlying94 (by kernel_rfl)) (by assumption) ?_
  try simp only [Act.put, List.getElem_toArray, List.getElem_cons_zero, List.getElem_cons_succ, List.setIfInBounds_toArray, List.set_cons_zero, List.set_cons_succ]
  refine wpAnyH_take (i := 4) (v := ?_) rfl (by kernel_rfl) (by kernel_rfl) (by kernel_rfl) (fun _ _ _ h => h) (Or.inl ⟨by rfl, ?_⟩) (by assumption) ?_
  rotate_left
  · intro w _; go_simp; try with_reducible rfl
  try simp only [Act.put, List.getElem_toArray, List.getElem_cons_zero, List.getElem_cons_succ, List.setIfInBounds_toArray, List.set_cons_zero, List.set_cons_succ]
  refine wpAnyH_ready (rs := [1]) (by kernel_rfl) (by simp) ?_
  refine AllReadyH.cons rfl (fun K hK => ?_) AllReadyH.nil
  go_simp
  refine (laws_toTiming t _).mono ?_
  rintro e y1 ⟨rfl, hy1⟩
  refine hK.out _ _ (⟨(hy1.block _ (lt_blk hSx.1)).trans hSx.1, (hy1.block _ (lt_blk hSx.2.1)).trans hSx.2.1, bthen hSx.2.2 hy1 hSx.2.2.size⟩) (fun hSy => ?_)
  clear hSx hK K
  have hSx := hSy; clear hSy
  try simp only [Act.put, List.getElem_toArray, List.getElem_cons_zero, List.getElem_cons_succ, List.setIfInBounds_toArray, List.set_cons_zero, List.set_cons_succ]
  refine wpAnyH_ready (rs := [3]) (by kernel_rfl) (by simp) ?_
  refine AllReadyH.cons rfl (fun K hK => ?_) AllReadyH.nil
  go_simp
  refine (laws_toPower _ _ _ _).mono ?_
  rintro e y2 ⟨rfl, hy2⟩
  refine hK.out _ _ (⟨(hy2.block _ (lt_blk hSx.1)).trans hSx.1, (hy2.block _ (lt_blk hSx.2.1)).trans hSx.2.1, bthen hSx.2.2 hy2 hSx.2.2.size⟩) (fun hSy => ?_)
  clear hSx hK K
  have hSx := hSy; clear hSy
  try simp only [Act.put, List.getElem_toArray, List.getElem_cons_zero, List.getElem_cons_succ, List.setIfInBounds_toArray, List.set_cons_zero, List.set_cons_succ]
  refine wpAnyH_ready (rs := [5]) (by kernel_rfl) (by simp) ?_
  refine AllReadyH.cons rfl (fun K hK => ?_) AllReadyH.nil
  go_simp
  refine (impl_WakeTime t _ _ _ _ _).mono ?_
  rintro e y3 ⟨rfl, hy3⟩
  refine hK.out _ _ (⟨(hy3.block _ (lt_blk hSx.1)).trans hSx.1, (hy3.block _ (lt_blk hSx.2.1)).trans hSx.2.1, bthen hSx.2.2 hy3 hSx.2.2.size⟩) (fun hSy => ?_)
  clear hSx hK K
  have hSx := hSy; clear hSy
  try simp only [Act.put, List.getElem_toArray, List.getElem_cons_zero, List.getElem_cons_succ, List.setIfInBounds_toArray, List.set_cons_zero, List.set_cons_succ]
  refine wpAnyH_take (i := 6) (v := ?_) rfl (by kernel_rfl) (by kernel_rfl) (by kernel_rfl) (fun _ _ _ h => h) (Or.inl ⟨by rfl, ?_⟩) (by assumption) ?_
  rotate_left
  · intro w _; go_simp; try with_reducible rfl
  try simp only [Act.put, List.getElem_toArray, List.getElem_cons_zero, List.getElem_cons_succ, List.setIfInBounds_toArray, List.set_cons_zero, List.set_cons_succ]
  refine wpAnyH_done (by kernel_rfl) ?_ _
  have HS2 := hide hSx
  clear hSx hy1 hy2 hy3
  go_wp2_with fail
  go_ret
  exact ⟨rfl, HS2.out.2.2⟩
theorem FnExactWakeTime_walk (x0 x1 x2 x3 x4 x5 x6 x7 x8 x9 x10 x11 x12 x13 x14 x15 x16 s c i now : Int) (w : World) :
    Calls Try.prog 14 #[.agg #[.int .i64 x0, .int .i64 x1, .int .i64 x2, .int .i64 x3, .int .i64 x4, .int .i64 x5, .int .i64 x6, .int .i64 x7, .int .i64 x8, .int .i64 x9, .int .i64 x10, .int .i64 x11, .int .i64 x12, .int .i64 x13, .int .i64 x14, .int .i64 x15, .int .i64 x16], .agg #[.int .i64 s, .int .i64 c, .int .i64 i], .int .i64 now] w fun e w' => e = .returned (.bool true) ∧ Below w.heap.size w w' := FnExactWakeTime_walk0 ⟨x0, x1, x2, x3, x4, x5, x6, x7, x8, x9, x10, x11, x12, x13, x14, x15, x16⟩ s c i now w

set_option maxRecDepth 100000 in
theorem FnExactWakeTime_lifted (os : Os) (started : os.Started) (H : Type) (enc : TypeId × Value → H) :
    ReturnsInHanded {} Try.checked os 14 .any (Rows.fnExactWakeTimeSpec.pre6 enc Try.prog Try.f14 Rows.fnExactWakeTimeRow.domain false) (Rows.fnExactWakeTimeSpec.post enc Try.prog Try.f14 false true false false) := by
  refine returnsInHanded_of_change (C := Try.checked) try_own started (by kernel_rfl) Try.func14
    (ChangeSpec.witness6 (enc := enc) (C := Try.checked) false ⟨#[], #[.agg #[.int .i64 0, .int .i64 0, .int .i64 0, .int .i64 0, .int .i64 0, .int .i64 0, .int .i64 0, .int .i64 0, .int .i64 0, .int .i64 0, .int .i64 0, .int .i64 0, .int .i64 0, .int .i64 0, .int .i64 0, .int .i64 0, .int .i64 0], .agg #[.int .i64 0, .int .i64 0, .int .i64 0], .int .i64 0], []⟩ 8 (by kernel_rfl) (by kernel_rfl) (by kernel_rfl) (by kernel_rfl)) ?_
  intro W base args ds gs before hval0 hW _ _
  have hval : ∀ (j : Nat) t v, Try.f14.params[j]? = some t → args[j]? = some v → Value.okWide Try.prog W .any base t v := hval0
  have hW' := hW
  obtain ⟨p, q, hA0, hV, rfl, hfz, hnd⟩ := hW
  have hA : DataW.TrodAll enc Try.prog W 0 (fun _ => true) true Try.f14.params.toList args.toList ds p := hA0
  rw [Try.params14] at hA hval
  obtain ⟨v0, vs0, d0, ds0, p0, q0, hargs, rfl, rfl, h0, r0⟩ := trodAll_cons hA
  obtain ⟨v1, vs1, d1, ds1, p1, q1, rfl, rfl, rfl, h1, r1⟩ := trodAll_cons r0
  obtain ⟨v2, vs2, d2, ds2, p2, q2, rfl, rfl, rfl, h2, r2⟩ := trodAll_cons r1
  obtain ⟨rfl, rfl, rfl⟩ := trodAll_nil r2
  obtain rfl : args = #[v0, v1, v2] := by cases args; simp_all
  obtain ⟨rfl, rfl⟩ := trodVars_none hV
  have k0 := h0
  have lt0 : ∀ x ∈ p0, x.block < W.heap.size := by obtain ⟨m, hm⟩ := k0; exact DataW.trod_lt m _ _ _ hm
  have k1 := h1
  have lt1 : ∀ x ∈ p1, x.block < W.heap.size := by obtain ⟨m, hm⟩ := k1; exact DataW.trod_lt m _ _ _ hm
  have k2 := h2
  have lt2 : ∀ x ∈ p2, x.block < W.heap.size := by obtain ⟨m, hm⟩ := k2; exact DataW.trod_lt m _ _ _ hm
  obtain ⟨v0_0, v0_1, v0_2, v0_3, v0_4, v0_5, v0_6, v0_7, v0_8, v0_9, v0_10, v0_11, v0_12, v0_13, v0_14, v0_15, v0_16, y0_0, y0_1, y0_2, y0_3, y0_4, y0_5, y0_6, y0_7, y0_8, y0_9, y0_10, y0_11, y0_12, y0_13, y0_14, y0_15, y0_16, m0, rfl, rfl, _, hy0_0, hy0_1, hy0_2, hy0_3, hy0_4, hy0_5, hy0_6, hy0_7, hy0_8, hy0_9, hy0_10, hy0_11, hy0_12, hy0_13, hy0_14, hy0_15, hy0_16⟩ := open_agg17 Try.underlying89 (by kernel_rfl) (by kernel_rfl) (hval 0 89 v0 rfl rfl) h0
  obtain ⟨x0_0, e_x0_0, rfl, w_x0_0⟩ := DataW.trod_int Try.underlying3 hy0_0
  obtain ⟨x0_1, e_x0_1, rfl, w_x0_1⟩ := DataW.trod_int Try.underlying3 hy0_1
  obtain ⟨x0_2, e_x0_2, rfl, w_x0_2⟩ := DataW.trod_int Try.underlying3 hy0_2
  obtain ⟨x0_3, e_x0_3, rfl, w_x0_3⟩ := DataW.trod_int Try.underlying3 hy0_3
  obtain ⟨x0_4, e_x0_4, rfl, w_x0_4⟩ := DataW.trod_int Try.underlying3 hy0_4
  obtain ⟨x0_5, e_x0_5, rfl, w_x0_5⟩ := DataW.trod_int Try.underlying3 hy0_5
  obtain ⟨x0_6, e_x0_6, rfl, w_x0_6⟩ := DataW.trod_int Try.underlying3 hy0_6
  obtain ⟨x0_7, e_x0_7, rfl, w_x0_7⟩ := DataW.trod_int Try.underlying3 hy0_7
  obtain ⟨x0_8, e_x0_8, rfl, w_x0_8⟩ := DataW.trod_int Try.underlying3 hy0_8
  obtain ⟨x0_9, e_x0_9, rfl, w_x0_9⟩ := DataW.trod_int Try.underlying3 hy0_9
  obtain ⟨x0_10, e_x0_10, rfl, w_x0_10⟩ := DataW.trod_int Try.underlying3 hy0_10
  obtain ⟨x0_11, e_x0_11, rfl, w_x0_11⟩ := DataW.trod_int Try.underlying3 hy0_11
  obtain ⟨x0_12, e_x0_12, rfl, w_x0_12⟩ := DataW.trod_int Try.underlying3 hy0_12
  obtain ⟨x0_13, e_x0_13, rfl, w_x0_13⟩ := DataW.trod_int Try.underlying3 hy0_13
  obtain ⟨x0_14, e_x0_14, rfl, w_x0_14⟩ := DataW.trod_int Try.underlying3 hy0_14
  obtain ⟨x0_15, e_x0_15, rfl, w_x0_15⟩ := DataW.trod_int Try.underlying3 hy0_15
  obtain ⟨x0_16, e_x0_16, rfl, w_x0_16⟩ := DataW.trod_int Try.underlying3 hy0_16
  obtain ⟨v1_0, v1_1, v1_2, y1_0, y1_1, y1_2, m1, rfl, rfl, _, hy1_0, hy1_1, hy1_2⟩ := open_agg3 Try.underlying94 (by kernel_rfl) (by kernel_rfl) (hval 1 94 v1 rfl rfl) h1
  obtain ⟨x1_0, e_x1_0, rfl, w_x1_0⟩ := DataW.trod_int Try.underlying3 hy1_0
  obtain ⟨x1_1, e_x1_1, rfl, w_x1_1⟩ := DataW.trod_int Try.underlying3 hy1_1
  obtain ⟨x1_2, e_x1_2, rfl, w_x1_2⟩ := DataW.trod_int Try.underlying3 hy1_2
  obtain ⟨x2, rfl, rfl, rfl, w_x2⟩ := open_int Try.underlying3 (hval 2 3 v2 rfl rfl) h2
  simp only [List.cons.injEq, and_true] at e_x0_0; subst e_x0_0
  simp only [List.cons.injEq, and_true] at e_x0_1; subst e_x0_1
  simp only [List.cons.injEq, and_true] at e_x0_2; subst e_x0_2
  simp only [List.cons.injEq, and_true] at e_x0_3; subst e_x0_3
  simp only [List.cons.injEq, and_true] at e_x0_4; subst e_x0_4
  simp only [List.cons.injEq, and_true] at e_x0_5; subst e_x0_5
  simp only [List.cons.injEq, and_true] at e_x0_6; subst e_x0_6
  simp only [List.cons.injEq, and_true] at e_x0_7; subst e_x0_7
  simp only [List.cons.injEq, and_true] at e_x0_8; subst e_x0_8
  simp only [List.cons.injEq, and_true] at e_x0_9; subst e_x0_9
  simp only [List.cons.injEq, and_true] at e_x0_10; subst e_x0_10
  simp only [List.cons.injEq, and_true] at e_x0_11; subst e_x0_11
  simp only [List.cons.injEq, and_true] at e_x0_12; subst e_x0_12
  simp only [List.cons.injEq, and_true] at e_x0_13; subst e_x0_13
  simp only [List.cons.injEq, and_true] at e_x0_14; subst e_x0_14
  simp only [List.cons.injEq, and_true] at e_x0_15; subst e_x0_15
  simp only [List.cons.injEq, and_true] at e_x0_16; subst e_x0_16
  simp only [List.cons.injEq, and_true] at e_x1_0; subst e_x1_0
  simp only [List.cons.injEq, and_true] at e_x1_1; subst e_x1_1
  simp only [List.cons.injEq, and_true] at e_x1_2; subst e_x1_2
  clear hA0 hval0
  refine (FnExactWakeTime_walk x0_0 x0_1 x0_2 x0_3 x0_4 x0_5 x0_6 x0_7 x0_8 x0_9 x0_10 x0_11 x0_12 x0_13 x0_14 x0_15 x0_16 x1_0 x1_1 x1_2 x2 W ).mono fun e W' ⟨he, bel⟩ => ?_
  subst he
  exact ⟨_, rfl, _, _, _, [], _, [], hW', trodAll_mk1 (shut_bool Try.underlying4 _), (trodAll_cons_mk (Below.trod try_laidOut (by kernel_rfl) (of_decide_eq_true (by kernel_rfl)) k0 bel lt0) (trodAll_cons_mk (Below.trod try_laidOut (by kernel_rfl) (of_decide_eq_true (by kernel_rfl)) k1 bel lt1) (trodAll_cons_mk (Below.trod try_laidOut (by kernel_rfl) (of_decide_eq_true (by kernel_rfl)) k2 bel lt2) trodAll_mk0))), rfl, bel.frame _, fun h => by cases h⟩

theorem FnExactWakeTime_holds : Rows.FnExactWakeTimeSaid :=
  OpenClaim.holds_of_wide 14 Try.f14 rfl rfl rfl rfl rfl rfl rfl ⟨rfl, rfl, rfl, rfl, rfl⟩ rfl rfl rfl rfl rfl (by kernel_rfl) Try.func14 (by kernel_rfl)
    (of_decide_eq_true (by kernel_rfl)) (by unfold Func.isWrapper; rw [if_neg (of_decide_eq_false (by kernel_rfl))]; exact ⟨rfl, rfl⟩)
    (fun os started H enc _ => FnExactWakeTime_lifted os started H enc)
#print axioms FnExactWakeTime_holds
end Go.Proofs.Ytlaoeaecbdmebaa
