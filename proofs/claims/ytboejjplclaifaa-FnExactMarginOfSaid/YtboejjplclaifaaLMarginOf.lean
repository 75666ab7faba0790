/- For every list of delays and every delay the program's MarginOf returns what the reference's returns, and leaves the list as it was. No condition. -/
import Derived.Test.YtboejjplclaifaaMargin
set_option linter.unusedSimpArgs false
set_option linter.unusedVariables false
namespace Go.Proofs.Ytboejjplclaifaa
open Go.RowKit Go.ChangeShapes Go.WideShapes Go.ChangeAt Go.Joins Go.Deep
open Go.ChangeMaps (open_string shut_string)

set_option maxHeartbeats 800000 in
theorem FnExactMarginOf_walk (a : Option Addr) (n c : Nat) (zs : List Bool) (dl : Int) (w : World) (ha : IsBools w a n c zs) :
    Calls Try.prog 3 #[.slice a n c, .int .i64 dl] w fun e w' => e = .returned (.bool true) ∧ Below w.heap.size w w' := by
  have hm : c ≤ 9223372036854775807 := ha.2.2.1
  have hc := ha.2.1
  by_cases hs : n ≤ 1048576
  · have HA := hide ha
    clear ha
    go_enter Try.func3, Try.ntmps3
    go_wp2_with fail
    refine (laws_toBoolS a n c zs _ HA.out hs).mono ?_
    rintro e w1 ⟨a1, c1, rfl, o1, h1⟩
    have s1 := h1.size
    try simp only [World.size_alloc, World.size_setCell, World.size_drew, World.heap_drewN] at s1
    have H1 : Below w.heap.size w w1 := bthen (by go_grown) h1 (by go_size)
    have C1 := (bcell H1).1; have F1 := (bcell H1).2
    have I1 := hide (isBools_own o1); clear o1
    go_wp2_with fail
    refine (spec_MarginOf _ _ _ _ _ _ I1.out hs).mono ?_
    rintro e w2 ⟨rfl, h2⟩
    have s2 := h2.size
    try simp only [World.size_alloc, World.size_setCell, World.size_drew, World.heap_drewN] at s2
    have H2 : Below w.heap.size w w2 := bthen (by go_grown) h2 (by go_size)
    have C2 := (bcell H2).1; have F2 := (bcell H2).2
    go_wp2_with fail
    refine (laws_toBoolS a n c zs _ (HA.out.below H2 (Nat.le_refl _)) hs).mono ?_
    rintro e w3 ⟨a3, c3, rfl, o3, h3⟩
    have s3 := h3.size
    try simp only [World.size_alloc, World.size_setCell, World.size_drew, World.heap_drewN] at s3
    have H3 : Below w.heap.size w w3 := bthen (by go_grown) h3 (by go_size)
    have C3 := (bcell H3).1; have F3 := (bcell H3).2
    have I3 := hide (isBools_own o3); clear o3
    go_wp2_with fail
    refine (impl_MarginOf _ _ _ _ _ _ I3.out hs).mono ?_
    rintro e w4 ⟨rfl, h4⟩
    have s4 := h4.size
    try simp only [World.size_alloc, World.size_setCell, World.size_drew, World.heap_drewN] at s4
    have H4 : Below w.heap.size w w4 := bthen (by go_grown) h4 (by go_size)
    have C4 := (bcell H4).1; have F4 := (bcell H4).2
    have I4 := hide (I3.out.below h4 (Nat.le_refl _))
    go_wp2_with fail
    refine (laws_toBoolS a n c zs _ (HA.out.below H4 (Nat.le_refl _)) hs).mono ?_
    rintro e w5 ⟨a5, c5, rfl, o5, h5⟩
    have s5 := h5.size
    try simp only [World.size_alloc, World.size_setCell, World.size_drew, World.heap_drewN] at s5
    have H5 : Below w.heap.size w w5 := bthen (by go_grown) h5 (by go_size)
    have C5 := (bcell H5).1; have F5 := (bcell H5).2
    have I5 := hide (isBools_own o5); clear o5; have J5 := hide (I4.out.below h5 (Nat.le_refl _))
    go_wp2_with fail
    refine (laws_eqBoolS _ _ _ _ _ _ _ J5.out I5.out).mono ?_
    rintro e w6 ⟨rfl, h6⟩
    have s6 := h6.size
    try simp only [World.size_alloc, World.size_setCell, World.size_drew, World.heap_drewN] at s6
    have H6 : Below w.heap.size w w6 := bthen (by go_grown) h6 (by go_size)
    have C6 := (bcell H6).1; have F6 := (bcell H6).2
    go_wp2_with fail
    go_ret
    exact ⟨rfl, by go_grown⟩
  · go_enter Try.func3, Try.ntmps3
    go_wp2_with fail
    go_ret
    exact ⟨rfl, by go_grown⟩

set_option maxRecDepth 100000 in
theorem FnExactMarginOf_lifted (os : Os) (started : os.Started) (H : Type) (enc : TypeId × Value → H) :
    ReturnsInHanded {} Try.checked os 3 .any (Rows.fnExactMarginOfSpec.pre6 enc Try.prog Try.f3 Rows.fnExactMarginOfRow.domain false) (Rows.fnExactMarginOfSpec.post enc Try.prog Try.f3 false true false false) := by
  refine returnsInHanded_of_change (C := Try.checked) try_own started (by kernel_rfl) Try.func3
    (ChangeSpec.witness6 (enc := enc) (C := Try.checked) false ⟨#[], #[.slice none 0 0, .int .i64 0], []⟩ 8 (by kernel_rfl) (by kernel_rfl) (by kernel_rfl) (by kernel_rfl)) ?_
  intro W base args ds gs before hval0 hW _ _
  have hval : ∀ (j : Nat) t v, Try.f3.params[j]? = some t → args[j]? = some v → Value.okWide Try.prog W .any base t v := hval0
  have hW' := hW
  obtain ⟨p, q, hA0, hV, rfl, hfz, hnd⟩ := hW
  have hA : DataW.TrodAll enc Try.prog W 0 (fun _ => true) true Try.f3.params.toList args.toList ds p := hA0
  rw [Try.params3] at hA hval
  obtain ⟨v0, vs0, d0, ds0, p0, q0, hargs, rfl, rfl, h0, r0⟩ := trodAll_cons hA
  obtain ⟨v1, vs1, d1, ds1, p1, q1, rfl, rfl, rfl, h1, r1⟩ := trodAll_cons r0
  obtain ⟨rfl, rfl, rfl⟩ := trodAll_nil r1
  obtain rfl : args = #[v0, v1] := by cases args; simp_all
  obtain ⟨rfl, rfl⟩ := trodVars_none hV
  have k0 := h0
  have lt0 : ∀ x ∈ p0, x.block < W.heap.size := by obtain ⟨m, hm⟩ := k0; exact DataW.trod_lt m _ _ _ hm
  have k1 := h1
  have lt1 : ∀ x ∈ p1, x.block < W.heap.size := by obtain ⟨m, hm⟩ := k1; exact DataW.trod_lt m _ _ _ hm
  obtain ⟨b_x0, m_x0, l_x0, rfl⟩ := okWide_slice Try.underlying22 (hval 0 22 v0 rfl rfl)
  obtain ⟨fu0, h0⟩ := h0
  obtain ⟨a_x0, n_x0, c_x0, x0, e_x0, w_x0⟩ := isBools_of Try.underlying22 Try.underlying4 (by kernel_rfl) h0
  obtain ⟨x1, rfl, rfl, rfl, w_x1⟩ := open_int Try.underlying3 (hval 1 3 v1 rfl rfl) h1
  simp only [Value.cells, List.cons.injEq, and_true] at e_x0
  obtain ⟨q1, q2, q3⟩ : b_x0 = a_x0 ∧ m_x0 = n_x0 ∧ l_x0 = c_x0 := by simpa using e_x0
  replace q1 := q1.symm; replace q2 := q2.symm; replace q3 := q3.symm; subst q1 q2 q3
  clear hA0 hval0
  refine (FnExactMarginOf_walk a_x0 n_x0 c_x0 x0 x1 W w_x0).mono fun e W' ⟨he, bel⟩ => ?_
  subst he
  exact ⟨_, rfl, _, _, _, [], _, [], hW', trodAll_mk1 (shut_bool Try.underlying4 _), (trodAll_cons_mk (Below.trod try_laidOut (by kernel_rfl) (of_decide_eq_true (by kernel_rfl)) k0 bel lt0) (trodAll_cons_mk (Below.trod try_laidOut (by kernel_rfl) (of_decide_eq_true (by kernel_rfl)) k1 bel lt1) trodAll_mk0)), rfl, bel.frame _, fun h => by cases h⟩

theorem FnExactMarginOf_holds : Rows.FnExactMarginOfSaid :=
  OpenClaim.holds_of_wide 3 Try.f3 rfl rfl rfl rfl rfl rfl rfl ⟨rfl, rfl, rfl, rfl, rfl⟩ rfl rfl rfl rfl rfl (by kernel_rfl) Try.func3 (by kernel_rfl)
    (of_decide_eq_true (by kernel_rfl)) (by unfold Func.isWrapper; rw [if_neg (of_decide_eq_false (by kernel_rfl))]; exact ⟨rfl, rfl⟩)
    (fun os started H enc _ => FnExactMarginOf_lifted os started H enc)
#print axioms FnExactMarginOf_holds
end Go.Proofs.Ytboejjplclaifaa
