/- For all slots, every tenant and every time the program's NextSlot returns what the reference's returns, and leaves its argument as it was. No condition. -/
import Derived.Test.YtlkameobhmccmaaSlots2
set_option linter.unusedSimpArgs false
set_option linter.unusedVariables false
namespace Go.Proofs.Ytlkameobhmccmaa
open Go.RowKit Go.ChangeShapes Go.WideShapes Go.ChangeAt Go.Joins Go.Deep
open Go.ChangeMaps (open_string shut_string)

set_option maxHeartbeats 1000000 in
theorem FnExactNextSlot_walk (a : Option Addr) (n c : Nat) (zs : List Int) (l : Int) (tn t : Int) (w : World) (ha : IsInts .i64 w a n c zs) :
    Calls Try.prog 7 #[.agg #[.slice a n c, .int .i64 l], .int .i64 tn, .int .i64 t] w fun e w' => e = .returned (.bool true) ∧ Below w.heap.size w w' := by
  have hm : c ≤ 9223372036854775807 := ha.2.2.1
  have hc := ha.2.1
  have hw := hide ha.2.2.2.1
  by_cases hs : n ≤ 1048576
  · have HA := hide ha
    clear ha
    go_enter Try.func7, Try.ntmps7
    have g9 : (0 : Int) ≤ 1048576 - (n : Int) := by omega
    go_wp2_with fail
    refine (laws_szSlots _ _ _ _ _ _ (by omega) (by omega) (by omega)).mono ?_
    rintro e w1 ⟨rfl, h1⟩
    have s1 := h1.size
    try simp only [World.size_alloc, World.size_setCell, World.size_drew, World.heap_drewN] at s1
    have B1_1 := h1
    have z1_0 : w.heap.size < w1.heap.size := by omega
    have q1_0 := fun o => (bcell B1_1).1 (w.heap.size) o (by go_size)
    have f1_0 := fun o => (bcell B1_1).2 (w.heap.size) o (by go_size)
    have H1 : Below w.heap.size w w1 := bthen (by go_grown) h1 (by go_size)
    have C1 := (bcell H1).1; have F1 := (bcell H1).2
    go_wp2_with fail
    refine (laws_toSlots _ _ _ _ _ _ (HA.out.below H1 (Nat.le_refl _)) hs).mono ?_
    rintro e w2 ⟨a2, c2, rfl, o2, h2⟩
    have s2 := h2.size
    try simp only [World.size_alloc, World.size_setCell, World.size_drew, World.heap_drewN] at s2
    have B2_1 := bnext (by first | (with_reducible exact B1_1) | exact (bgrow B1_1 (by go_size) (by go_grown))) h2 (by go_size)
    have z2_0 : w.heap.size < w2.heap.size := by omega
    have q2_0 := fun o => (bcell B2_1).1 (w.heap.size) o (by go_size)
    have f2_0 := fun o => (bcell B2_1).2 (w.heap.size) o (by go_size)
    have H2 : Below w.heap.size w w2 := bthen (by go_grown) h2 (by go_size)
    have C2 := (bcell H2).1; have F2 := (bcell H2).2
    have p := hide (Owned.of_own o2)
    clear o2
    go_wp2_with fail
    refine (spec_NextSlot _ _ _ _ _ _ _ _ (isInts_own p.out.1 hw.out) hs).mono ?_
    rintro e w3 ⟨rfl, h3⟩
    have s3 := h3.size
    try simp only [World.size_alloc, World.size_setCell, World.size_drew, World.heap_drewN] at s3
    have B3_1 := bnext (by first | (with_reducible exact B2_1) | exact (bgrow B2_1 (by go_size) (by go_grown))) h3 (by go_size)
    have z3_0 : w.heap.size < w3.heap.size := by omega
    have q3_0 := fun o => (bcell B3_1).1 (w.heap.size) o (by go_size)
    have f3_0 := fun o => (bcell B3_1).2 (w.heap.size) o (by go_size)
    have H3 : Below w.heap.size w w3 := bthen (by go_grown) h3 (by go_size)
    have C3 := (bcell H3).1; have F3 := (bcell H3).2
    have P3 : Below w2.heap.size w2 w3 := bthen (by go_grown) h3 (by go_size)
    replace p := hide (p.out.below P3 (by omega))
    go_wp2_with fail
    refine (laws_toSlots _ _ _ _ _ _ (HA.out.below H3 (Nat.le_refl _)) hs).mono ?_
    rintro e w4 ⟨a4, c4, rfl, o4, h4⟩
    have s4 := h4.size
    try simp only [World.size_alloc, World.size_setCell, World.size_drew, World.heap_drewN] at s4
    have B4_1 := bnext (by first | (with_reducible exact B3_1) | exact (bgrow B3_1 (by go_size) (by go_grown))) h4 (by go_size)
    have z4_0 : w.heap.size < w4.heap.size := by omega
    have q4_0 := fun o => (bcell B4_1).1 (w.heap.size) o (by go_size)
    have f4_0 := fun o => (bcell B4_1).2 (w.heap.size) o (by go_size)
    have H4 : Below w.heap.size w w4 := bthen (by go_grown) h4 (by go_size)
    have C4 := (bcell H4).1; have F4 := (bcell H4).2
    have P4 : Below w3.heap.size w3 w4 := bthen (by go_grown) h4 (by go_size)
    replace p := hide (p.out.below P4 (by omega))
    have x := hide (Owned.of_own o4)
    clear o4
    go_wp2_with fail
    refine (impl_NextSlot _ _ _ _ _ _ _ _ ((isInts_own x.out.1 hw.out).below (B := w4.heap.size) (by go_grown) (Nat.le_refl _)) hs).mono ?_
    rintro e w5 ⟨rfl, h5⟩
    have s5 := h5.size
    try simp only [World.size_alloc, World.size_setCell, World.size_drew, World.heap_drewN] at s5
    have B5_1 := bnext (by first | (with_reducible exact B4_1) | exact (bgrow B4_1 (by go_size) (by go_grown))) h5 (by go_size)
    have B5_5 := h5
    have z5_0 : w.heap.size < w5.heap.size := by omega
    have q5_0 := fun o => (bcell B5_1).1 (w.heap.size) o (by go_size)
    have f5_0 := fun o => (bcell B5_1).2 (w.heap.size) o (by go_size)
    have z5_1 : w4.heap.size < w5.heap.size := by omega
    have q5_1 := fun o => (bcell B5_5).1 (w4.heap.size) o (by go_size)
    have f5_1 := fun o => (bcell B5_5).2 (w4.heap.size) o (by go_size)
    have H5 : Below w.heap.size w w5 := bthen (by go_grown) h5 (by go_size)
    have C5 := (bcell H5).1; have F5 := (bcell H5).2
    have P5 : Below w4.heap.size w4 w5 := bthen (by go_grown) h5 (by go_size)
    replace p := hide (p.out.below P5 (by omega))
    replace x := hide (x.out.below P5 (by omega))
    go_wp2_with fail
    go_region_held3 (fun v => v.cell? ⟨w.heap.size, 0, none⟩ = some (.slice a n c) ∧ v.cell? ⟨w.heap.size, 1, none⟩ = some (.int .i64 l) ∧ v.cell? ⟨w4.heap.size, 0, none⟩ = some (.slice a4 n c4) ∧ v.cell? ⟨w4.heap.size, 1, none⟩ = some (.int .i64 l)) (go_keep) (first | (go_at_call 17; refine (laws_toSlots _ _ _ _ _ _ (HA.out.below (B := w.heap.size) (bthen H5 (Below.refl _ _).drew (Nat.le_refl _)) (Nat.le_refl _)) hs).mono ?_; rintro e w6 ⟨a6, c6, rfl, o6, h6⟩; have s6 := h6.size; (try simp only [World.size_alloc, World.size_setCell, World.size_drew, World.heap_drewN] at s6); have B6_1 := bnext (by first | (with_reducible exact B5_1) | exact (bgrow B5_1 (by go_size) (by go_grown))) h6 (by go_size); have B6_5 := bnext (by first | (with_reducible exact B5_5) | exact (bgrow B5_5 (by go_size) (by go_grown))) h6 (by go_size); have z6_0 : w.heap.size < w6.heap.size := (by omega); have q6_0 := fun o => (bcell B6_1).1 (w.heap.size) o (by go_size); have f6_0 := fun o => (bcell B6_1).2 (w.heap.size) o (by go_size); have z6_1 : w4.heap.size < w6.heap.size := (by omega); have q6_1 := fun o => (bcell B6_5).1 (w4.heap.size) o (by go_size); have f6_1 := fun o => (bcell B6_5).2 (w4.heap.size) o (by go_size); have H6 : Below w.heap.size w w6 := bthen (by go_grown) h6 (by go_size); have C6 := (bcell H6).1; have F6 := (bcell H6).2; have P6 : Below w5.heap.size w5 w6 := bthen (by go_grown) h6 (by go_size); replace p := hide (p.out.below P6 (by omega)); replace x := hide (x.out.below P6 (by omega)); have y := hide (Owned.of_own o6); clear o6) | (go_at_call 19; refine (laws_eqSlots _ _ _ _ _ _ _ _ (isInts_own x.out.1 hw.out) (isInts_own y.out.1 hw.out)).mono ?_; rintro e w7 ⟨rfl, h7⟩; have s7 := h7.size; (try simp only [World.size_alloc, World.size_setCell, World.size_drew, World.heap_drewN] at s7); have B7_1 := bnext (by first | (with_reducible exact B6_1) | exact (bgrow B6_1 (by go_size) (by go_grown))) h7 (by go_size); have B7_5 := bnext (by first | (with_reducible exact B6_5) | exact (bgrow B6_5 (by go_size) (by go_grown))) h7 (by go_size); have z7_0 : w.heap.size < w7.heap.size := (by omega); have q7_0 := fun o => (bcell B7_1).1 (w.heap.size) o (by go_size); have f7_0 := fun o => (bcell B7_1).2 (w.heap.size) o (by go_size); have z7_1 : w4.heap.size < w7.heap.size := (by omega); have q7_1 := fun o => (bcell B7_5).1 (w4.heap.size) o (by go_size); have f7_1 := fun o => (bcell B7_5).2 (w4.heap.size) o (by go_size); have H7 : Below w.heap.size w w7 := bthen (by go_grown) h7 (by go_size); have C7 := (bcell H7).1; have F7 := (bcell H7).2; have P7 : Below w6.heap.size w6 w7 := bthen (by go_grown) h7 (by go_size); replace p := hide (p.out.below P7 (by omega)); replace x := hide (x.out.below P7 (by omega)); replace y := hide (y.out.below P7 (by omega))))
    go_wp2_with fail
    go_ret
    exact ⟨rfl, by go_grown⟩
  · go_enter Try.func7, Try.ntmps7
    go_wp2_with fail
    refine (laws_szSlots_no _ _ _ _ _ _ (by omega) (by omega) (by omega) ⟨hc, hm⟩).mono ?_
    rintro e w1 ⟨rfl, h1⟩
    go_wp2_with fail
    go_ret
    exact ⟨rfl, bthen (by go_grown) h1 (by go_size)⟩

set_option maxRecDepth 100000 in
theorem FnExactNextSlot_lifted (os : Os) (started : os.Started) (H : Type) (enc : TypeId × Value → H) :
    ReturnsInHanded {} Try.checked os 7 .any (Rows.fnExactNextSlotSpec.pre6 enc Try.prog Try.f7 Rows.fnExactNextSlotRow.domain false) (Rows.fnExactNextSlotSpec.post enc Try.prog Try.f7 false true false false) := by
  refine returnsInHanded_of_change (C := Try.checked) try_own started (by kernel_rfl) Try.func7
    (ChangeSpec.witness6 (enc := enc) (C := Try.checked) false ⟨#[], #[.agg #[.slice none 0 0, .int .i64 0], .int .i64 0, .int .i64 0], []⟩ 8 (by kernel_rfl) (by kernel_rfl) (by kernel_rfl) (by kernel_rfl)) ?_
  intro W base args ds gs before hval0 hW _ _
  have hval : ∀ (j : Nat) t v, Try.f7.params[j]? = some t → args[j]? = some v → Value.okWide Try.prog W .any base t v := hval0
  have hW' := hW
  obtain ⟨p, q, hA0, hV, rfl, hfz, hnd⟩ := hW
  have hA : DataW.TrodAll enc Try.prog W 0 (fun _ => true) true Try.f7.params.toList args.toList ds p := hA0
  rw [Try.params7] at hA hval
  obtain ⟨v0, vs0, d0, ds0, p0, q0, hargs, rfl, rfl, h0, r0⟩ := trodAll_cons hA
  obtain ⟨v1, vs1, d1, ds1, p1, q1, rfl, rfl, rfl, h1, r1⟩ := trodAll_cons r0
  obtain ⟨v2, vs2, d2, ds2, p2, q2, rfl, rfl, rfl, h2, r2⟩ := trodAll_cons r1
  obtain ⟨rfl, rfl, rfl⟩ := trodAll_nil r2
  obtain rfl : args = #[v0, v1, v2] := by cases args; simp_all
  obtain ⟨rfl, rfl⟩ := trodVars_none hV
  have k0 := h0
  have lt0 : ∀ x ∈ p0, x.block < W.heap.size := by obtain ⟨m, hm⟩ := k0; exact DataW.trod_lt m _ _ _ hm
  have k1 := h1
  have lt1 : ∀ x ∈ p1, x.block < W.heap.size := by obtain ⟨m, hm⟩ := k1; exact DataW.trod_lt m _ _ _ hm
  have k2 := h2
  have lt2 : ∀ x ∈ p2, x.block < W.heap.size := by obtain ⟨m, hm⟩ := k2; exact DataW.trod_lt m _ _ _ hm
  obtain ⟨v0_0, v0_1, y0_0, y0_1, m0, rfl, rfl, _, hy0_0, hy0_1⟩ := open_agg2 Try.underlying24 (by kernel_rfl) (by kernel_rfl) (hval 0 24 v0 rfl rfl) h0
  obtain ⟨a_x0_0, n_x0_0, c_x0_0, x0_0, e_x0_0, w_x0_0⟩ := isInts_of Try.underlying22 Try.underlying3 (by kernel_rfl) hy0_0
  obtain ⟨x0_1, e_x0_1, rfl, w_x0_1⟩ := DataW.trod_int Try.underlying3 hy0_1
  obtain ⟨x1, rfl, rfl, rfl, w_x1⟩ := open_int Try.underlying3 (hval 1 3 v1 rfl rfl) h1
  obtain ⟨x2, rfl, rfl, rfl, w_x2⟩ := open_int Try.underlying3 (hval 2 3 v2 rfl rfl) h2
  simp only [List.cons.injEq, and_true] at e_x0_0; subst e_x0_0
  simp only [List.cons.injEq, and_true] at e_x0_1; subst e_x0_1
  clear hA0 hval0
  refine (FnExactNextSlot_walk a_x0_0 n_x0_0 c_x0_0 x0_0 x0_1 x1 x2 W w_x0_0).mono fun e W' ⟨he, bel⟩ => ?_
  subst he
  exact ⟨_, rfl, _, _, _, [], _, [], hW', trodAll_mk1 (shut_bool Try.underlying4 _), (trodAll_cons_mk (Below.trod try_laidOut (by kernel_rfl) (of_decide_eq_true (by kernel_rfl)) k0 bel lt0) (trodAll_cons_mk (Below.trod try_laidOut (by kernel_rfl) (of_decide_eq_true (by kernel_rfl)) k1 bel lt1) (trodAll_cons_mk (Below.trod try_laidOut (by kernel_rfl) (of_decide_eq_true (by kernel_rfl)) k2 bel lt2) trodAll_mk0))), rfl, bel.frame _, fun h => by cases h⟩

theorem FnExactNextSlot_holds : Rows.FnExactNextSlotSaid :=
  OpenClaim.holds_of_wide 7 Try.f7 rfl rfl rfl rfl rfl rfl rfl ⟨rfl, rfl, rfl, rfl, rfl⟩ rfl rfl rfl rfl rfl (by kernel_rfl) Try.func7 (by kernel_rfl)
    (of_decide_eq_true (by kernel_rfl)) (by unfold Func.isWrapper; rw [if_neg (of_decide_eq_false (by kernel_rfl))]; exact ⟨rfl, rfl⟩)
    (fun os started H enc _ => FnExactNextSlot_lifted os started H enc)
#print axioms FnExactNextSlot_holds
end Go.Proofs.Ytlkameobhmccmaa
