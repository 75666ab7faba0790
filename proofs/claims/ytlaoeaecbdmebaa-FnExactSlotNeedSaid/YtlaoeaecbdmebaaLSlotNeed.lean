/- For every timing the program's SlotNeed returns what the reference's returns. No condition. -/
import Derived.Test.YtlaoeaecbdmebaaNeed
import Derived.Test.YtlaoeaecbdmebaaAgg17
set_option linter.unusedSimpArgs false
set_option linter.unusedVariables false
namespace Go.Proofs.Ytlaoeaecbdmebaa
open Go.RowKit Go.ChangeShapes Go.WideShapes Go.ChangeAt Go.Joins Go.Deep
open Go.ChangeMaps (open_string shut_string)

set_option maxRecDepth 100000 in
set_option maxHeartbeats 4000000 in
theorem FnExactSlotNeed_walk0 (t : Tm) (w : World) :
    Calls Try.prog 13 #[.agg (tmC t).toArray] w fun e w' => e = .returned (.bool true) ∧ Below w.heap.size w w' := by
  obtain ⟨tc0, tc1, tc2, tc3, tc4, tc5, tc6, tc7, tc8, tc9, tc10, tc11, tc12, tc13, tc14, tc15, tc16⟩ := tm_at t
  go_enter Try.func13, Try.ntmps13
  go_wp2_with fail
  refine (laws_toTiming t _).mono ?_
  rintro e w1 ⟨rfl, h1⟩
  have hb1 := h1.block w.heap.size (by simp)
  rw [alloc_at _ _ _ rfl] at hb1
  have hB1 : Below w.heap.size w w1 := bthen (by go_grown) h1 (by simp)
  have hs1 := hB1.size
  have hl1 : w.heap.size < w1.heap.size := by have := h1.size; simp at this; omega
  go_wp2_with fail
  refine (spec_SlotNeed t _).mono ?_
  rintro e w2 ⟨rfl, h2⟩
  have hb2 := (h2.block w.heap.size hl1).trans hb1
  have hB2 : Below w.heap.size w w2 := bthen hB1 h2 hs1
  have c0 : w2.cell? ⟨w.heap.size, 0, none⟩ = some (.int .i64 t.rcd) := (cell_blk hb2 0).trans rfl
  have c1 : w2.cell? ⟨w.heap.size, 1, none⟩ = some (.int .i64 t.rp) := (cell_blk hb2 1).trans rfl
  have c2 : w2.cell? ⟨w.heap.size, 2, none⟩ = some (.int .i64 t.ras) := (cell_blk hb2 2).trans rfl
  have c3 : w2.cell? ⟨w.heap.size, 3, none⟩ = some (.int .i64 t.rrds) := (cell_blk hb2 3).trans rfl
  have c4 : w2.cell? ⟨w.heap.size, 4, none⟩ = some (.int .i64 t.rrdl) := (cell_blk hb2 4).trans rfl
  have c5 : w2.cell? ⟨w.heap.size, 5, none⟩ = some (.int .i64 t.faw) := (cell_blk hb2 5).trans rfl
  have c6 : w2.cell? ⟨w.heap.size, 6, none⟩ = some (.int .i64 t.ccds) := (cell_blk hb2 6).trans rfl
  have c7 : w2.cell? ⟨w.heap.size, 7, none⟩ = some (.int .i64 t.ccdl) := (cell_blk hb2 7).trans rfl
  have c8 : w2.cell? ⟨w.heap.size, 8, none⟩ = some (.int .i64 t.rtp) := (cell_blk hb2 8).trans rfl
  have c9 : w2.cell? ⟨w.heap.size, 9, none⟩ = some (.int .i64 t.wr) := (cell_blk hb2 9).trans rfl
  have c10 : w2.cell? ⟨w.heap.size, 10, none⟩ = some (.int .i64 t.wtrs) := (cell_blk hb2 10).trans rfl
  have c11 : w2.cell? ⟨w.heap.size, 11, none⟩ = some (.int .i64 t.wtrl) := (cell_blk hb2 11).trans rfl
  have c12 : w2.cell? ⟨w.heap.size, 12, none⟩ = some (.int .i64 t.rtw) := (cell_blk hb2 12).trans rfl
  have c13 : w2.cell? ⟨w.heap.size, 13, none⟩ = some (.int .i64 t.rfc) := (cell_blk hb2 13).trans rfl
  have c14 : w2.cell? ⟨w.heap.size, 14, none⟩ = some (.int .i64 t.cke) := (cell_blk hb2 14).trans rfl
  have c15 : w2.cell? ⟨w.heap.size, 15, none⟩ = some (.int .i64 t.xp) := (cell_blk hb2 15).trans rfl
  have c16 : w2.cell? ⟨w.heap.size, 16, none⟩ = some (.int .i64 t.xs) := (cell_blk hb2 16).trans rfl
  have hs2 := hB2.size
  have hl2 : w.heap.size < w2.heap.size := by have := h2.size; omega
  clear hb2
  go_wp2_with fail
  refine (laws_toTiming t _).mono ?_
  rintro e w3 ⟨rfl, h3⟩
  have hB3 : Below w.heap.size w w3 := bthen hB2 h3 hs2
  go_wp2_with fail
  refine (impl_SlotNeed t _).mono ?_
  rintro e w4 ⟨rfl, h4⟩
  have hB4 : Below w.heap.size w w4 := bthen hB3 h4 hB3.size
  go_wp2_with fail
  go_ret
  exact ⟨rfl, hB4⟩
theorem FnExactSlotNeed_walk (x0 x1 x2 x3 x4 x5 x6 x7 x8 x9 x10 x11 x12 x13 x14 x15 x16 : Int) (w : World) :
    Calls Try.prog 13 #[.agg #[.int .i64 x0, .int .i64 x1, .int .i64 x2, .int .i64 x3, .int .i64 x4, .int .i64 x5, .int .i64 x6, .int .i64 x7, .int .i64 x8, .int .i64 x9, .int .i64 x10, .int .i64 x11, .int .i64 x12, .int .i64 x13, .int .i64 x14, .int .i64 x15, .int .i64 x16]] w fun e w' => e = .returned (.bool true) ∧ Below w.heap.size w w' := FnExactSlotNeed_walk0 ⟨x0, x1, x2, x3, x4, x5, x6, x7, x8, x9, x10, x11, x12, x13, x14, x15, x16⟩ w

set_option maxRecDepth 100000 in
theorem FnExactSlotNeed_lifted (os : Os) (started : os.Started) (H : Type) (enc : TypeId × Value → H) :
    ReturnsInHanded {} Try.checked os 13 .any (Rows.fnExactSlotNeedSpec.pre6 enc Try.prog Try.f13 Rows.fnExactSlotNeedRow.domain false) (Rows.fnExactSlotNeedSpec.post enc Try.prog Try.f13 false true false false) := by
  refine returnsInHanded_of_change (C := Try.checked) try_own started (by kernel_rfl) Try.func13
    (ChangeSpec.witness6 (enc := enc) (C := Try.checked) false ⟨#[], #[.agg #[.int .i64 0, .int .i64 0, .int .i64 0, .int .i64 0, .int .i64 0, .int .i64 0, .int .i64 0, .int .i64 0, .int .i64 0, .int .i64 0, .int .i64 0, .int .i64 0, .int .i64 0, .int .i64 0, .int .i64 0, .int .i64 0, .int .i64 0]], []⟩ 8 (by kernel_rfl) (by kernel_rfl) (by kernel_rfl) (by kernel_rfl)) ?_
  intro W base args ds gs before hval0 hW _ _
  have hval : ∀ (j : Nat) t v, Try.f13.params[j]? = some t → args[j]? = some v → Value.okWide Try.prog W .any base t v := hval0
  have hW' := hW
  obtain ⟨p, q, hA0, hV, rfl, hfz, hnd⟩ := hW
  have hA : DataW.TrodAll enc Try.prog W 0 (fun _ => true) true Try.f13.params.toList args.toList ds p := hA0
  rw [Try.params13] at hA hval
  obtain ⟨v0, vs0, d0, ds0, p0, q0, hargs, rfl, rfl, h0, r0⟩ := trodAll_cons hA
  obtain ⟨rfl, rfl, rfl⟩ := trodAll_nil r0
  obtain rfl : args = #[v0] := by cases args; simp_all
  obtain ⟨rfl, rfl⟩ := trodVars_none hV
  have k0 := h0
  have lt0 : ∀ x ∈ p0, x.block < W.heap.size := by obtain ⟨m, hm⟩ := k0; exact DataW.trod_lt m _ _ _ hm
  obtain ⟨v0_0, v0_1, v0_2, v0_3, v0_4, v0_5, v0_6, v0_7, v0_8, v0_9, v0_10, v0_11, v0_12, v0_13, v0_14, v0_15, v0_16, y0_0, y0_1, y0_2, y0_3, y0_4, y0_5, y0_6, y0_7, y0_8, y0_9, y0_10, y0_11, y0_12, y0_13, y0_14, y0_15, y0_16, m0, rfl, rfl, _, hy0_0, hy0_1, hy0_2, hy0_3, hy0_4, hy0_5, hy0_6, hy0_7, hy0_8, hy0_9, hy0_10, hy0_11, hy0_12, hy0_13, hy0_14, hy0_15, hy0_16⟩ := open_agg17 Try.underlying89 (by kernel_rfl) (by kernel_rfl) (hval 0 89 v0 rfl rfl) h0
  obtain ⟨x0_0, e_x0_0, rfl, w_x0_0⟩ := DataW.trod_int Try.underlying3 hy0_0
  obtain ⟨x0_1, e_x0_1, rfl, w_x0_1⟩ := DataW.trod_int Try.underlying3 hy0_1
  obtain ⟨x0_2, e_x0_2, rfl, w_x0_2⟩ := DataW.trod_int Try.underlying3 hy0_2
  obtain ⟨x0_3, e_x0_3, rfl, w_x0_3⟩ := DataW.trod_int Try.underlying3 hy0_3
  obtain ⟨x0_4, e_x0_4, rfl, w_x0_4⟩ := DataW.trod_int Try.underlying3 hy0_4
  obtain ⟨x0_5, e_x0_5, rfl, w_x0_5⟩ := DataW.trod_int Try.underlying3 hy0_5
  obtain ⟨x0_6, e_x0_6, rfl, w_x0_6⟩ := DataW.trod_int Try.underlying3 hy0_6
  obtain ⟨x0_7, e_x0_7, rfl, w_x0_7⟩ := DataW.trod_int Try.underlying3 hy0_7
  obtain ⟨x0_8, e_x0_8, rfl, w_x0_8⟩ := DataW.trod_int Try.underlying3 hy0_8
  obtain ⟨x0_9, e_x0_9, rfl, w_x0_9⟩ := DataW.trod_int Try.underlying3 hy0_9
  obtain ⟨x0_10, e_x0_10, rfl, w_x0_10⟩ := DataW.trod_int Try.underlying3 hy0_10
  obtain ⟨x0_11, e_x0_11, rfl, w_x0_11⟩ := DataW.trod_int Try.underlying3 hy0_11
  obtain ⟨x0_12, e_x0_12, rfl, w_x0_12⟩ := DataW.trod_int Try.underlying3 hy0_12
  obtain ⟨x0_13, e_x0_13, rfl, w_x0_13⟩ := DataW.trod_int Try.underlying3 hy0_13
  obtain ⟨x0_14, e_x0_14, rfl, w_x0_14⟩ := DataW.trod_int Try.underlying3 hy0_14
  obtain ⟨x0_15, e_x0_15, rfl, w_x0_15⟩ := DataW.trod_int Try.underlying3 hy0_15
  obtain ⟨x0_16, e_x0_16, rfl, w_x0_16⟩ := DataW.trod_int Try.underlying3 hy0_16
  simp only [List.cons.injEq, and_true] at e_x0_0; subst e_x0_0
  simp only [List.cons.injEq, and_true] at e_x0_1; subst e_x0_1
  simp only [List.cons.injEq, and_true] at e_x0_2; subst e_x0_2
  simp only [List.cons.injEq, and_true] at e_x0_3; subst e_x0_3
  simp only [List.cons.injEq, and_true] at e_x0_4; subst e_x0_4
  simp only [List.cons.injEq, and_true] at e_x0_5; subst e_x0_5
  simp only [List.cons.injEq, and_true] at e_x0_6; subst e_x0_6
  simp only [List.cons.injEq, and_true] at e_x0_7; subst e_x0_7
  simp only [List.cons.injEq, and_true] at e_x0_8; subst e_x0_8
  simp only [List.cons.injEq, and_true] at e_x0_9; subst e_x0_9
  simp only [List.cons.injEq, and_true] at e_x0_10; subst e_x0_10
  simp only [List.cons.injEq, and_true] at e_x0_11; subst e_x0_11
  simp only [List.cons.injEq, and_true] at e_x0_12; subst e_x0_12
  simp only [List.cons.injEq, and_true] at e_x0_13; subst e_x0_13
  simp only [List.cons.injEq, and_true] at e_x0_14; subst e_x0_14
  simp only [List.cons.injEq, and_true] at e_x0_15; subst e_x0_15
  simp only [List.cons.injEq, and_true] at e_x0_16; subst e_x0_16
  clear hA0 hval0
  refine (FnExactSlotNeed_walk x0_0 x0_1 x0_2 x0_3 x0_4 x0_5 x0_6 x0_7 x0_8 x0_9 x0_10 x0_11 x0_12 x0_13 x0_14 x0_15 x0_16 W ).mono fun e W' ⟨he, bel⟩ => ?_
  subst he
  exact ⟨_, rfl, _, _, _, [], _, [], hW', trodAll_mk1 (shut_bool Try.underlying4 _), (trodAll_cons_mk (Below.trod try_laidOut (by kernel_rfl) (of_decide_eq_true (by kernel_rfl)) k0 bel lt0) trodAll_mk0), rfl, bel.frame _, fun h => by cases h⟩

theorem FnExactSlotNeed_holds : Rows.FnExactSlotNeedSaid :=
  OpenClaim.holds_of_wide 13 Try.f13 rfl rfl rfl rfl rfl rfl rfl ⟨rfl, rfl, rfl, rfl, rfl⟩ rfl rfl rfl rfl rfl (by kernel_rfl) Try.func13 (by kernel_rfl)
    (of_decide_eq_true (by kernel_rfl)) (by unfold Func.isWrapper; rw [if_neg (of_decide_eq_false (by kernel_rfl))]; exact ⟨rfl, rfl⟩)
    (fun os started H enc _ => FnExactSlotNeed_lifted os started H enc)
#print axioms FnExactSlotNeed_holds
end Go.Proofs.Ytlaoeaecbdmebaa
