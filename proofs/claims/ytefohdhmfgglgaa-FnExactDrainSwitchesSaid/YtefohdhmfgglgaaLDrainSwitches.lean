/- For every drain and list of counts the program's DrainSwitches returns what the reference's returns, and leaves the list as it was. No condition. -/
import Derived.Test.YtefohdhmfgglgaaSwitches
set_option linter.unusedSimpArgs false
set_option linter.unusedVariables false
namespace Go.Proofs.Ytefohdhmfgglgaa
open Go.RowKit Go.ChangeShapes Go.WideShapes Go.ChangeAt Go.Joins Go.Deep
open Go.ChangeMaps (open_string shut_string)

set_option maxHeartbeats 800000 in
theorem FnExactDrainSwitches_walk (on : Bool) (lo hi : Int) (a : Option Addr) (n c : Nat) (zs : List Int) (w : World) (ha : IsInts .i64 w a n c zs) :
    Calls Try.prog 11 #[.agg #[.bool on, .int .i64 lo, .int .i64 hi], .slice a n c] w fun e w' => e = .returned (.bool true) ∧ Below w.heap.size w w' := by
  have hm : c ≤ 9223372036854775807 := ha.2.2.1
  have hc := ha.2.1
  have hw := hide ha.2.2.2.1
  by_cases hs : n ≤ 1048576
  · have HA := hide ha
    clear ha
    go_enter Try.func11, Try.ntmps11
    go_wp2_with fail
    refine (laws_toDrain _ _ _ _).mono ?_
    rintro e w1 ⟨rfl, h1⟩
    have s1 := h1.size
    try simp only [World.size_alloc, World.size_setCell, World.size_drew, World.heap_drewN] at s1
    have B1_1 := h1
    have z1_0 : w.heap.size < w1.heap.size := by omega
    have q1_0 := fun o => (bcell B1_1).1 (w.heap.size) o (by go_size)
    have f1_0 := fun o => (bcell B1_1).2 (w.heap.size) o (by go_size)
    have H1 : Below w.heap.size w w1 := bthen (by go_grown) h1 (by go_size)
    have C1 := (bcell H1).1; have F1 := (bcell H1).2
    go_wp2_with fail
    refine (laws_toIntS a n c zs _ (HA.out.below H1 (Nat.le_refl _)) hs).mono ?_
    rintro e w2 ⟨a2, c2, rfl, o2, h2⟩
    have s2 := h2.size
    try simp only [World.size_alloc, World.size_setCell, World.size_drew, World.heap_drewN] at s2
    have B2_1 := bnext (by first | (with_reducible exact B1_1) | exact (bgrow B1_1 (by go_size) (by go_grown))) h2 (by go_size)
    have z2_0 : w.heap.size < w2.heap.size := by omega
    have q2_0 := fun o => (bcell B2_1).1 (w.heap.size) o (by go_size)
    have f2_0 := fun o => (bcell B2_1).2 (w.heap.size) o (by go_size)
    have H2 : Below w.heap.size w w2 := bthen (by go_grown) h2 (by go_size)
    have C2 := (bcell H2).1; have F2 := (bcell H2).2
    have I2 := hide (isInts_own o2 hw.out); clear o2
    go_wp2_with fail
    refine (spec_DrainSwitches _ _ _ _ _ _ _ _ (I2.out) hs).mono ?_
    rintro e w3 ⟨rfl, h3⟩
    have s3 := h3.size
    try simp only [World.size_alloc, World.size_setCell, World.size_drew, World.heap_drewN] at s3
    have B3_1 := bnext (by first | (with_reducible exact B2_1) | exact (bgrow B2_1 (by go_size) (by go_grown))) h3 (by go_size)
    have z3_0 : w.heap.size < w3.heap.size := by omega
    have q3_0 := fun o => (bcell B3_1).1 (w.heap.size) o (by go_size)
    have f3_0 := fun o => (bcell B3_1).2 (w.heap.size) o (by go_size)
    have H3 : Below w.heap.size w w3 := bthen (by go_grown) h3 (by go_size)
    have C3 := (bcell H3).1; have F3 := (bcell H3).2
    go_wp2_with fail
    refine (laws_toIntS a n c zs _ (HA.out.below H3 (Nat.le_refl _)) hs).mono ?_
    rintro e w4 ⟨a4, c4, rfl, o4, h4⟩
    have s4 := h4.size
    try simp only [World.size_alloc, World.size_setCell, World.size_drew, World.heap_drewN] at s4
    have B4_1 := bnext (by first | (with_reducible exact B3_1) | exact (bgrow B3_1 (by go_size) (by go_grown))) h4 (by go_size)
    have z4_0 : w.heap.size < w4.heap.size := by omega
    have q4_0 := fun o => (bcell B4_1).1 (w.heap.size) o (by go_size)
    have f4_0 := fun o => (bcell B4_1).2 (w.heap.size) o (by go_size)
    have H4 : Below w.heap.size w w4 := bthen (by go_grown) h4 (by go_size)
    have C4 := (bcell H4).1; have F4 := (bcell H4).2
    have I4 := hide (isInts_own o4 hw.out); clear o4
    go_wp2_with fail
    refine (laws_toDrain _ _ _ _).mono ?_
    rintro e w5 ⟨rfl, h5⟩
    have s5 := h5.size
    try simp only [World.size_alloc, World.size_setCell, World.size_drew, World.heap_drewN] at s5
    have B5_1 := bnext (by first | (with_reducible exact B4_1) | exact (bgrow B4_1 (by go_size) (by go_grown))) h5 (by go_size)
    have z5_0 : w.heap.size < w5.heap.size := by omega
    have q5_0 := fun o => (bcell B5_1).1 (w.heap.size) o (by go_size)
    have f5_0 := fun o => (bcell B5_1).2 (w.heap.size) o (by go_size)
    have H5 : Below w.heap.size w w5 := bthen (by go_grown) h5 (by go_size)
    have C5 := (bcell H5).1; have F5 := (bcell H5).2
    have J5 := hide (I4.out.below h5 (Nat.le_refl _))
    go_wp2_with fail
    refine (impl_DrainSwitches _ _ _ _ _ _ _ _ (J5.out) hs).mono ?_
    rintro e w6 ⟨rfl, h6⟩
    have s6 := h6.size
    try simp only [World.size_alloc, World.size_setCell, World.size_drew, World.heap_drewN] at s6
    have B6_1 := bnext (by first | (with_reducible exact B5_1) | exact (bgrow B5_1 (by go_size) (by go_grown))) h6 (by go_size)
    have z6_0 : w.heap.size < w6.heap.size := by omega
    have q6_0 := fun o => (bcell B6_1).1 (w.heap.size) o (by go_size)
    have f6_0 := fun o => (bcell B6_1).2 (w.heap.size) o (by go_size)
    have H6 : Below w.heap.size w w6 := bthen (by go_grown) h6 (by go_size)
    have C6 := (bcell H6).1; have F6 := (bcell H6).2
    have J6 := hide (J5.out.below h6 (Nat.le_refl _))
    go_wp2_with fail
    refine (laws_toIntS a n c zs _ (HA.out.below H6 (Nat.le_refl _)) hs).mono ?_
    rintro e w7 ⟨a7, c7, rfl, o7, h7⟩
    have s7 := h7.size
    try simp only [World.size_alloc, World.size_setCell, World.size_drew, World.heap_drewN] at s7
    have B7_1 := bnext (by first | (with_reducible exact B6_1) | exact (bgrow B6_1 (by go_size) (by go_grown))) h7 (by go_size)
    have z7_0 : w.heap.size < w7.heap.size := by omega
    have q7_0 := fun o => (bcell B7_1).1 (w.heap.size) o (by go_size)
    have f7_0 := fun o => (bcell B7_1).2 (w.heap.size) o (by go_size)
    have H7 : Below w.heap.size w w7 := bthen (by go_grown) h7 (by go_size)
    have C7 := (bcell H7).1; have F7 := (bcell H7).2
    have I7 := hide (isInts_own o7 hw.out); clear o7; have J7 := hide (J6.out.below h7 (Nat.le_refl _))
    go_wp2_with fail
    refine (laws_eqIntS _ _ _ _ _ _ _ (J7.out) (I7.out)).mono ?_
    rintro e w8 ⟨rfl, h8⟩
    have s8 := h8.size
    try simp only [World.size_alloc, World.size_setCell, World.size_drew, World.heap_drewN] at s8
    have B8_1 := bnext (by first | (with_reducible exact B7_1) | exact (bgrow B7_1 (by go_size) (by go_grown))) h8 (by go_size)
    have z8_0 : w.heap.size < w8.heap.size := by omega
    have q8_0 := fun o => (bcell B8_1).1 (w.heap.size) o (by go_size)
    have f8_0 := fun o => (bcell B8_1).2 (w.heap.size) o (by go_size)
    have H8 : Below w.heap.size w w8 := bthen (by go_grown) h8 (by go_size)
    have C8 := (bcell H8).1; have F8 := (bcell H8).2
    go_wp2_with fail
    go_ret
    exact ⟨rfl, by go_grown⟩
  · go_enter Try.func11, Try.ntmps11
    go_wp2_with fail
    go_ret
    exact ⟨rfl, by go_grown⟩

set_option maxRecDepth 100000 in
theorem FnExactDrainSwitches_lifted (os : Os) (started : os.Started) (H : Type) (enc : TypeId × Value → H) :
    ReturnsInHanded {} Try.checked os 11 .any (Rows.fnExactDrainSwitchesSpec.pre6 enc Try.prog Try.f11 Rows.fnExactDrainSwitchesRow.domain false) (Rows.fnExactDrainSwitchesSpec.post enc Try.prog Try.f11 false true false false) := by
  refine returnsInHanded_of_change (C := Try.checked) try_own started (by kernel_rfl) Try.func11
    (ChangeSpec.witness6 (enc := enc) (C := Try.checked) false ⟨#[], #[.agg #[.bool false, .int .i64 0, .int .i64 0], .slice none 0 0], []⟩ 8 (by kernel_rfl) (by kernel_rfl) (by kernel_rfl) (by kernel_rfl)) ?_
  intro W base args ds gs before hval0 hW _ _
  have hval : ∀ (j : Nat) t v, Try.f11.params[j]? = some t → args[j]? = some v → Value.okWide Try.prog W .any base t v := hval0
  have hW' := hW
  obtain ⟨p, q, hA0, hV, rfl, hfz, hnd⟩ := hW
  have hA : DataW.TrodAll enc Try.prog W 0 (fun _ => true) true Try.f11.params.toList args.toList ds p := hA0
  rw [Try.params11] at hA hval
  obtain ⟨v0, vs0, d0, ds0, p0, q0, hargs, rfl, rfl, h0, r0⟩ := trodAll_cons hA
  obtain ⟨v1, vs1, d1, ds1, p1, q1, rfl, rfl, rfl, h1, r1⟩ := trodAll_cons r0
  obtain ⟨rfl, rfl, rfl⟩ := trodAll_nil r1
  obtain rfl : args = #[v0, v1] := by cases args; simp_all
  obtain ⟨rfl, rfl⟩ := trodVars_none hV
  have k0 := h0
  have lt0 : ∀ x ∈ p0, x.block < W.heap.size := by obtain ⟨m, hm⟩ := k0; exact DataW.trod_lt m _ _ _ hm
  have k1 := h1
  have lt1 : ∀ x ∈ p1, x.block < W.heap.size := by obtain ⟨m, hm⟩ := k1; exact DataW.trod_lt m _ _ _ hm
  obtain ⟨v0_0, v0_1, v0_2, y0_0, y0_1, y0_2, m0, rfl, rfl, _, hy0_0, hy0_1, hy0_2⟩ := open_agg3 Try.underlying23 (by kernel_rfl) (by kernel_rfl) (hval 0 23 v0 rfl rfl) h0
  obtain ⟨x0_0, e_x0_0, rfl⟩ := DataW.trod_bool Try.underlying4 hy0_0
  obtain ⟨x0_1, e_x0_1, rfl, w_x0_1⟩ := DataW.trod_int Try.underlying3 hy0_1
  obtain ⟨x0_2, e_x0_2, rfl, w_x0_2⟩ := DataW.trod_int Try.underlying3 hy0_2
  obtain ⟨b_x1, m_x1, l_x1, rfl⟩ := okWide_slice Try.underlying53 (hval 1 53 v1 rfl rfl)
  obtain ⟨fu1, h1⟩ := h1
  obtain ⟨a_x1, n_x1, c_x1, x1, e_x1, w_x1⟩ := isInts_of Try.underlying53 Try.underlying3 (by kernel_rfl) h1
  simp only [List.cons.injEq, and_true] at e_x0_0; subst e_x0_0
  simp only [List.cons.injEq, and_true] at e_x0_1; subst e_x0_1
  simp only [List.cons.injEq, and_true] at e_x0_2; subst e_x0_2
  simp only [Value.cells, List.cons.injEq, and_true] at e_x1
  obtain ⟨q1, q2, q3⟩ : b_x1 = a_x1 ∧ m_x1 = n_x1 ∧ l_x1 = c_x1 := by simpa using e_x1
  replace q1 := q1.symm; replace q2 := q2.symm; replace q3 := q3.symm; subst q1 q2 q3
  clear hA0 hval0
  refine (FnExactDrainSwitches_walk x0_0 x0_1 x0_2 a_x1 n_x1 c_x1 x1 W w_x1).mono fun e W' ⟨he, bel⟩ => ?_
  subst he
  exact ⟨_, rfl, _, _, _, [], _, [], hW', trodAll_mk1 (shut_bool Try.underlying4 _), (trodAll_cons_mk (Below.trod try_laidOut (by kernel_rfl) (of_decide_eq_true (by kernel_rfl)) k0 bel lt0) (trodAll_cons_mk (Below.trod try_laidOut (by kernel_rfl) (of_decide_eq_true (by kernel_rfl)) k1 bel lt1) trodAll_mk0)), rfl, bel.frame _, fun h => by cases h⟩

theorem FnExactDrainSwitches_holds : Rows.FnExactDrainSwitchesSaid :=
  OpenClaim.holds_of_wide 11 Try.f11 rfl rfl rfl rfl rfl rfl rfl ⟨rfl, rfl, rfl, rfl, rfl⟩ rfl rfl rfl rfl rfl (by kernel_rfl) Try.func11 (by kernel_rfl)
    (of_decide_eq_true (by kernel_rfl)) (by unfold Func.isWrapper; rw [if_neg (of_decide_eq_false (by kernel_rfl))]; exact ⟨rfl, rfl⟩)
    (fun os started H enc _ => FnExactDrainSwitches_lifted os started H enc)
#print axioms FnExactDrainSwitches_holds
end Go.Proofs.Ytefohdhmfgglgaa
