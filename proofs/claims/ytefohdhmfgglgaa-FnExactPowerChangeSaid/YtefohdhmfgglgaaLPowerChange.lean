/- For every power state, kind of command and time the program's PowerChange returns what the reference's returns. No condition. -/
import Derived.Test.YtefohdhmfgglgaaPower
set_option linter.unusedSimpArgs false
set_option linter.unusedVariables false
namespace Go.Proofs.Ytefohdhmfgglgaa
open Go.RowKit Go.ChangeShapes Go.WideShapes Go.ChangeAt Go.Joins Go.Deep
open Go.ChangeMaps (open_string shut_string)

set_option maxHeartbeats 400000 in
theorem FnExactPowerChange_walk (s t i k now : Int) (w : World) :
    Calls Try.prog 10 #[.agg #[.int .i64 s, .int .i64 t, .int .i64 i], .int .i64 k, .int .i64 now] w fun e w' => e = .returned (.bool true) ∧ Below w.heap.size w w' := by
  go_enter Try.func10, Try.ntmps10
  go_wp2_with fail
  refine (laws_toPower _ _ _ _).mono ?_
  rintro e w1 ⟨rfl, h1⟩
  have s1 := h1.size
  try simp only [World.size_alloc, World.size_setCell, World.size_drew, World.heap_drewN] at s1
  have B1_1 := h1
  have z1_0 : w.heap.size < w1.heap.size := by omega
  have q1_0 := fun o => (bcell B1_1).1 (w.heap.size) o (by go_size)
  have f1_0 := fun o => (bcell B1_1).2 (w.heap.size) o (by go_size)
  have H1 : Below w.heap.size w w1 := bthen (by go_grown) h1 (by go_size)
  have C1 := (bcell H1).1; have F1 := (bcell H1).2
  go_wp2_with fail
  refine (spec_PowerChange _ _ _ _ _ _).mono ?_
  rintro e w2 ⟨rfl, h2⟩
  have s2 := h2.size
  try simp only [World.size_alloc, World.size_setCell, World.size_drew, World.heap_drewN] at s2
  have B2_1 := bnext (by first | (with_reducible exact B1_1) | exact (bgrow B1_1 (by go_size) (by go_grown))) h2 (by go_size)
  have z2_0 : w.heap.size < w2.heap.size := by omega
  have q2_0 := fun o => (bcell B2_1).1 (w.heap.size) o (by go_size)
  have f2_0 := fun o => (bcell B2_1).2 (w.heap.size) o (by go_size)
  have H2 : Below w.heap.size w w2 := bthen (by go_grown) h2 (by go_size)
  have C2 := (bcell H2).1; have F2 := (bcell H2).2
  rw [powChanged_eq]
  go_wp2_with fail
  refine (laws_toPower _ _ _ _).mono ?_
  rintro e w3 ⟨rfl, h3⟩
  have s3 := h3.size
  try simp only [World.size_alloc, World.size_setCell, World.size_drew, World.heap_drewN] at s3
  have B3_1 := bnext (by first | (with_reducible exact B2_1) | exact (bgrow B2_1 (by go_size) (by go_grown))) h3 (by go_size)
  have B3_3 := h3
  have z3_0 : w.heap.size < w3.heap.size := by omega
  have q3_0 := fun o => (bcell B3_1).1 (w.heap.size) o (by go_size)
  have f3_0 := fun o => (bcell B3_1).2 (w.heap.size) o (by go_size)
  have z3_1 : w2.heap.size < w3.heap.size := by omega
  have q3_1 := fun o => (bcell B3_3).1 (w2.heap.size) o (by go_size)
  have f3_1 := fun o => (bcell B3_3).2 (w2.heap.size) o (by go_size)
  have H3 : Below w.heap.size w w3 := bthen (by go_grown) h3 (by go_size)
  have C3 := (bcell H3).1; have F3 := (bcell H3).2
  go_wp2_with fail
  refine (impl_PowerChange _ _ _ _ _ _).mono ?_
  rintro e w4 ⟨rfl, h4⟩
  have s4 := h4.size
  try simp only [World.size_alloc, World.size_setCell, World.size_drew, World.heap_drewN] at s4
  have B4_1 := bnext (by first | (with_reducible exact B3_1) | exact (bgrow B3_1 (by go_size) (by go_grown))) h4 (by go_size)
  have B4_3 := bnext (by first | (with_reducible exact B3_3) | exact (bgrow B3_3 (by go_size) (by go_grown))) h4 (by go_size)
  have z4_0 : w.heap.size < w4.heap.size := by omega
  have q4_0 := fun o => (bcell B4_1).1 (w.heap.size) o (by go_size)
  have f4_0 := fun o => (bcell B4_1).2 (w.heap.size) o (by go_size)
  have z4_1 : w2.heap.size < w4.heap.size := by omega
  have q4_1 := fun o => (bcell B4_3).1 (w2.heap.size) o (by go_size)
  have f4_1 := fun o => (bcell B4_3).2 (w2.heap.size) o (by go_size)
  have H4 : Below w.heap.size w w4 := bthen (by go_grown) h4 (by go_size)
  have C4 := (bcell H4).1; have F4 := (bcell H4).2
  rw [powChanged_eq]
  go_wp2_with fail
  refine (laws_eqPower _ _ _ _).mono ?_
  rintro e w5 ⟨rfl, h5⟩
  have s5 := h5.size
  try simp only [World.size_alloc, World.size_setCell, World.size_drew, World.heap_drewN] at s5
  have B5_1 := bnext (by first | (with_reducible exact B4_1) | exact (bgrow B4_1 (by go_size) (by go_grown))) h5 (by go_size)
  have B5_3 := bnext (by first | (with_reducible exact B4_3) | exact (bgrow B4_3 (by go_size) (by go_grown))) h5 (by go_size)
  have B5_5 := h5
  have z5_0 : w.heap.size < w5.heap.size := by omega
  have q5_0 := fun o => (bcell B5_1).1 (w.heap.size) o (by go_size)
  have f5_0 := fun o => (bcell B5_1).2 (w.heap.size) o (by go_size)
  have z5_1 : w2.heap.size < w5.heap.size := by omega
  have q5_1 := fun o => (bcell B5_3).1 (w2.heap.size) o (by go_size)
  have f5_1 := fun o => (bcell B5_3).2 (w2.heap.size) o (by go_size)
  have z5_2 : w4.heap.size < w5.heap.size := by omega
  have q5_2 := fun o => (bcell B5_5).1 (w4.heap.size) o (by go_size)
  have f5_2 := fun o => (bcell B5_5).2 (w4.heap.size) o (by go_size)
  have H5 : Below w.heap.size w w5 := bthen (by go_grown) h5 (by go_size)
  have C5 := (bcell H5).1; have F5 := (bcell H5).2
  go_wp2_with fail
  go_outline
  all_goals go_ret
  all_goals exact ⟨rfl, by go_grown⟩

set_option maxRecDepth 100000 in
theorem FnExactPowerChange_lifted (os : Os) (started : os.Started) (H : Type) (enc : TypeId × Value → H) :
    ReturnsInHanded {} Try.checked os 10 .any (Rows.fnExactPowerChangeSpec.pre6 enc Try.prog Try.f10 Rows.fnExactPowerChangeRow.domain false) (Rows.fnExactPowerChangeSpec.post enc Try.prog Try.f10 false true false false) := by
  refine returnsInHanded_of_change (C := Try.checked) try_own started (by kernel_rfl) Try.func10
    (ChangeSpec.witness6 (enc := enc) (C := Try.checked) false ⟨#[], #[.agg #[.int .i64 0, .int .i64 0, .int .i64 0], .int .i64 0, .int .i64 0], []⟩ 8 (by kernel_rfl) (by kernel_rfl) (by kernel_rfl) (by kernel_rfl)) ?_
  intro W base args ds gs before hval0 hW _ _
  have hval : ∀ (j : Nat) t v, Try.f10.params[j]? = some t → args[j]? = some v → Value.okWide Try.prog W .any base t v := hval0
  have hW' := hW
  obtain ⟨p, q, hA0, hV, rfl, hfz, hnd⟩ := hW
  have hA : DataW.TrodAll enc Try.prog W 0 (fun _ => true) true Try.f10.params.toList args.toList ds p := hA0
  rw [Try.params10] at hA hval
  obtain ⟨v0, vs0, d0, ds0, p0, q0, hargs, rfl, rfl, h0, r0⟩ := trodAll_cons hA
  obtain ⟨v1, vs1, d1, ds1, p1, q1, rfl, rfl, rfl, h1, r1⟩ := trodAll_cons r0
  obtain ⟨v2, vs2, d2, ds2, p2, q2, rfl, rfl, rfl, h2, r2⟩ := trodAll_cons r1
  obtain ⟨rfl, rfl, rfl⟩ := trodAll_nil r2
  obtain rfl : args = #[v0, v1, v2] := by cases args; simp_all
  obtain ⟨rfl, rfl⟩ := trodVars_none hV
  have k0 := h0
  have lt0 : ∀ x ∈ p0, x.block < W.heap.size := by obtain ⟨m, hm⟩ := k0; exact DataW.trod_lt m _ _ _ hm
  have k1 := h1
  have lt1 : ∀ x ∈ p1, x.block < W.heap.size := by obtain ⟨m, hm⟩ := k1; exact DataW.trod_lt m _ _ _ hm
  have k2 := h2
  have lt2 : ∀ x ∈ p2, x.block < W.heap.size := by obtain ⟨m, hm⟩ := k2; exact DataW.trod_lt m _ _ _ hm
  obtain ⟨v0_0, v0_1, v0_2, y0_0, y0_1, y0_2, m0, rfl, rfl, _, hy0_0, hy0_1, hy0_2⟩ := open_agg3 Try.underlying35 (by kernel_rfl) (by kernel_rfl) (hval 0 35 v0 rfl rfl) h0
  obtain ⟨x0_0, e_x0_0, rfl, w_x0_0⟩ := DataW.trod_int Try.underlying3 hy0_0
  obtain ⟨x0_1, e_x0_1, rfl, w_x0_1⟩ := DataW.trod_int Try.underlying3 hy0_1
  obtain ⟨x0_2, e_x0_2, rfl, w_x0_2⟩ := DataW.trod_int Try.underlying3 hy0_2
  obtain ⟨x1, rfl, rfl, rfl, w_x1⟩ := open_int Try.underlying3 (hval 1 3 v1 rfl rfl) h1
  obtain ⟨x2, rfl, rfl, rfl, w_x2⟩ := open_int Try.underlying3 (hval 2 3 v2 rfl rfl) h2
  simp only [List.cons.injEq, and_true] at e_x0_0; subst e_x0_0
  simp only [List.cons.injEq, and_true] at e_x0_1; subst e_x0_1
  simp only [List.cons.injEq, and_true] at e_x0_2; subst e_x0_2
  clear hA0 hval0
  refine (FnExactPowerChange_walk x0_0 x0_1 x0_2 x1 x2 W ).mono fun e W' ⟨he, bel⟩ => ?_
  subst he
  exact ⟨_, rfl, _, _, _, [], _, [], hW', trodAll_mk1 (shut_bool Try.underlying4 _), (trodAll_cons_mk (Below.trod try_laidOut (by kernel_rfl) (of_decide_eq_true (by kernel_rfl)) k0 bel lt0) (trodAll_cons_mk (Below.trod try_laidOut (by kernel_rfl) (of_decide_eq_true (by kernel_rfl)) k1 bel lt1) (trodAll_cons_mk (Below.trod try_laidOut (by kernel_rfl) (of_decide_eq_true (by kernel_rfl)) k2 bel lt2) trodAll_mk0))), rfl, bel.frame _, fun h => by cases h⟩

theorem FnExactPowerChange_holds : Rows.FnExactPowerChangeSaid :=
  OpenClaim.holds_of_wide 10 Try.f10 rfl rfl rfl rfl rfl rfl rfl ⟨rfl, rfl, rfl, rfl, rfl⟩ rfl rfl rfl rfl rfl (by kernel_rfl) Try.func10 (by kernel_rfl)
    (of_decide_eq_true (by kernel_rfl)) (by unfold Func.isWrapper; rw [if_neg (of_decide_eq_false (by kernel_rfl))]; exact ⟨rfl, rfl⟩)
    (fun os started H enc _ => FnExactPowerChange_lifted os started H enc)
#print axioms FnExactPowerChange_holds
end Go.Proofs.Ytefohdhmfgglgaa
