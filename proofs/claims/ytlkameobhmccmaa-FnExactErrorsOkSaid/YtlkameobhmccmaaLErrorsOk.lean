/- For every list of entries the program's ErrorsOk returns what the reference's returns, and leaves its argument as it was. No condition. -/
import Derived.Test.YtlkameobhmccmaaErrors3
set_option linter.unusedSimpArgs false
set_option linter.unusedVariables false
namespace Go.Proofs.Ytlkameobhmccmaa
open Go.RowKit Go.ChangeShapes Go.WideShapes Go.ChangeAt Go.Joins Go.Deep
open Go.ChangeMaps (open_string shut_string)

theorem isStructs_own {α : Type} {f : α → List Value} {sz : Nat} {w : World} {B : Nat} {E : TypeId} {a : Option Addr} {n c : Nat} {xs : List α} (hf : ∀ x, (f x).length = sz) (hsz : 0 < sz) (h : w.ownsRow B E sz (.slice a n c) n (xs.flatMap f)) : IsStructs f sz w a n c xs := by
  obtain ⟨hl, h⟩ := h
  have hlen : xs.length = n := Nat.eq_of_mul_eq_mul_right hsz (by rw [← flat_len hf, hl])
  rcases h with ⟨he, rfl⟩ | ⟨g, cap, cur, he, _, hg, hn, hc, hs, ht⟩
  · injection he with e1 e2 e3
    subst e1 e3
    obtain rfl : xs = [] := List.eq_nil_of_length_eq_zero hlen
    exact ⟨rfl, Nat.le_refl _, Nat.zero_le _, RowIn.nil _ _⟩
  · injection he with e1 e2 e3
    subst e1 e3
    refine ⟨hlen, hn, hc, fun i v hv => ⟨g, 0, rfl, ?_⟩⟩
    rw [← ht] at hv
    simp only [Nat.zero_add, World.cell?, hg]
    rw [List.getElem?_take] at hv
    split at hv
    · simpa using hv
    · cases hv

theorem sz_below (a : Option Addr) (n c : Nat) (l : Int) (w : World) (h0 : 0 ≤ l) (h1 : (n : Int) ≤ l) (h2 : l ≤ 1048576) :
    Calls Try.prog 26 #[.slice a n c, .int .i64 l] w fun e w' => e = .returned (.int .i64 (l - n)) ∧ Below w.heap.size w w' :=
  (laws_szErrorEntryS a n c l w h0 h1 h2).mono fun _ _ h => ⟨h.1, h.2 ▸ Below.refl _ _⟩

set_option maxHeartbeats 1000000 in
theorem FnExactErrorsOk_walk (a : Option Addr) (n c : Nat) (es : List En) (w : World) (ha : IsStructs enF 3 w a n c es) :
    Calls Try.prog 6 #[.slice a n c] w fun e w' => e = .returned (.bool true) ∧ Below w.heap.size w w' := by
  have hm : c ≤ 9223372036854775807 := ha.2.2.1
  have hc := ha.2.1
  by_cases hs : n ≤ 1048576
  · have HA := hide ha
    clear ha
    go_enter Try.func6, Try.ntmps6
    have g9 : (0 : Int) ≤ 1048576 - (n : Int) := by omega
    go_wp2_with fail
    refine (sz_below _ _ _ _ _ (by omega) (by omega) (by omega)).mono ?_
    rintro e w1 ⟨rfl, h1⟩
    have s1 := h1.size
    try simp only [World.size_alloc, World.size_setCell, World.size_drew, World.heap_drewN] at s1
    have H1 : Below w.heap.size w w1 := bthen (by go_grown) h1 (by go_size)
    have C1 := (bcell H1).1; have F1 := (bcell H1).2
    go_wp2_with fail
    refine (laws_toErrorEntryS _ _ _ _ _ (HA.out.below H1 (Nat.le_refl _)) hs).mono ?_
    rintro e w2 ⟨a2, c2, rfl, o2, h2⟩
    have s2 := h2.size
    try simp only [World.size_alloc, World.size_setCell, World.size_drew, World.heap_drewN] at s2
    have H2 : Below w.heap.size w w2 := bthen (by go_grown) h2 (by go_size)
    have C2 := (bcell H2).1; have F2 := (bcell H2).2
    have p := hide (Owned.of_own o2)
    clear o2
    go_wp2_with fail
    refine (spec_ErrorsOk _ _ _ _ _ (isStructs_own enF_len (by omega) p.out.1) hs).mono ?_
    rintro e w3 ⟨rfl, h3⟩
    have s3 := h3.size
    try simp only [World.size_alloc, World.size_setCell, World.size_drew, World.heap_drewN] at s3
    have H3 : Below w.heap.size w w3 := bthen (by go_grown) h3 (by go_size)
    have C3 := (bcell H3).1; have F3 := (bcell H3).2
    have P3 : Below w2.heap.size w2 w3 := bthen (by go_grown) h3 (by go_size)
    replace p := hide (p.out.below P3 (by omega))
    go_wp2_with fail
    refine (laws_toErrorEntryS _ _ _ _ _ (HA.out.below H3 (Nat.le_refl _)) hs).mono ?_
    rintro e w4 ⟨a4, c4, rfl, o4, h4⟩
    have s4 := h4.size
    try simp only [World.size_alloc, World.size_setCell, World.size_drew, World.heap_drewN] at s4
    have H4 : Below w.heap.size w w4 := bthen (by go_grown) h4 (by go_size)
    have C4 := (bcell H4).1; have F4 := (bcell H4).2
    have P4 : Below w3.heap.size w3 w4 := bthen (by go_grown) h4 (by go_size)
    replace p := hide (p.out.below P4 (by omega))
    have x := hide (Owned.of_own o4)
    clear o4
    go_wp2_with fail
    refine (impl_ErrorsOk _ _ _ _ _ (isStructs_own enF_len (by omega) x.out.1) hs).mono ?_
    rintro e w5 ⟨rfl, h5⟩
    have s5 := h5.size
    try simp only [World.size_alloc, World.size_setCell, World.size_drew, World.heap_drewN] at s5
    have H5 : Below w.heap.size w w5 := bthen (by go_grown) h5 (by go_size)
    have C5 := (bcell H5).1; have F5 := (bcell H5).2
    have P5 : Below w4.heap.size w4 w5 := bthen (by go_grown) h5 (by go_size)
    replace p := hide (p.out.below P5 (by omega))
    replace x := hide (x.out.below P5 (by omega))
    go_wp2_with fail
    refine (laws_toErrorEntryS _ _ _ _ _ (HA.out.below H5 (Nat.le_refl _)) hs).mono ?_
    rintro e w6 ⟨a6, c6, rfl, o6, h6⟩
    have s6 := h6.size
    try simp only [World.size_alloc, World.size_setCell, World.size_drew, World.heap_drewN] at s6
    have H6 : Below w.heap.size w w6 := bthen (by go_grown) h6 (by go_size)
    have C6 := (bcell H6).1; have F6 := (bcell H6).2
    have P6 : Below w5.heap.size w5 w6 := bthen (by go_grown) h6 (by go_size)
    replace p := hide (p.out.below P6 (by omega))
    replace x := hide (x.out.below P6 (by omega))
    have y := hide (Owned.of_own o6)
    clear o6
    go_wp2_with fail
    refine (laws_eqErrorEntryS _ _ _ _ _ _ _ (isStructs_own enF_len (by omega) x.out.1) (isStructs_own enF_len (by omega) y.out.1)).mono ?_
    rintro e w7 ⟨rfl, h7⟩
    have s7 := h7.size
    try simp only [World.size_alloc, World.size_setCell, World.size_drew, World.heap_drewN] at s7
    have H7 : Below w.heap.size w w7 := bthen (by go_grown) h7 (by go_size)
    have C7 := (bcell H7).1; have F7 := (bcell H7).2
    have P7 : Below w6.heap.size w6 w7 := bthen (by go_grown) h7 (by go_size)
    replace p := hide (p.out.below P7 (by omega))
    replace x := hide (x.out.below P7 (by omega))
    replace y := hide (y.out.below P7 (by omega))
    go_wp2_with fail
    go_ret
    exact ⟨rfl, by go_grown⟩
  · go_enter Try.func6, Try.ntmps6
    go_wp2_with fail
    refine (laws_szErrorEntryS_no _ _ _ _ _ (by omega) (by omega) (by omega) ⟨hc, hm⟩).mono ?_
    rintro e w1 ⟨rfl, rfl⟩
    go_wp2_with fail
    go_ret
    exact ⟨rfl, by go_grown⟩

set_option maxRecDepth 100000 in
theorem FnExactErrorsOk_lifted (os : Os) (started : os.Started) (H : Type) (enc : TypeId × Value → H) :
    ReturnsInHanded {} Try.checked os 6 .any (Rows.fnExactErrorsOkSpec.pre6 enc Try.prog Try.f6 Rows.fnExactErrorsOkRow.domain false) (Rows.fnExactErrorsOkSpec.post enc Try.prog Try.f6 false true false false) := by
  refine returnsInHanded_of_change (C := Try.checked) try_own started (by kernel_rfl) Try.func6
    (ChangeSpec.witness6 (enc := enc) (C := Try.checked) false ⟨#[], #[.slice none 0 0], []⟩ 8 (by kernel_rfl) (by kernel_rfl) (by kernel_rfl) (by kernel_rfl)) ?_
  intro W base args ds gs before hval0 hW _ _
  have hval : ∀ (j : Nat) t v, Try.f6.params[j]? = some t → args[j]? = some v → Value.okWide Try.prog W .any base t v := hval0
  have hW' := hW
  obtain ⟨p, q, hA0, hV, rfl, hfz, hnd⟩ := hW
  have hA : DataW.TrodAll enc Try.prog W 0 (fun _ => true) true Try.f6.params.toList args.toList ds p := hA0
  rw [Try.params6] at hA hval
  obtain ⟨v0, vs0, d0, ds0, p0, q0, hargs, rfl, rfl, h0, r0⟩ := trodAll_cons hA
  obtain ⟨rfl, rfl, rfl⟩ := trodAll_nil r0
  obtain rfl : args = #[v0] := by cases args; simp_all
  obtain ⟨rfl, rfl⟩ := trodVars_none hV
  have k0 := h0
  have lt0 : ∀ x ∈ p0, x.block < W.heap.size := by obtain ⟨m, hm⟩ := k0; exact DataW.trod_lt m _ _ _ hm
  obtain ⟨b_x0, m_x0, l_x0, rfl⟩ := okWide_slice Try.underlying43 (hval 0 43 v0 rfl rfl)
  obtain ⟨fu0, h0⟩ := h0
  obtain ⟨a_x0, n_x0, c_x0, x0, e_x0, w_x0⟩ := isErrorEntrys_of h0
  simp only [Value.cells, List.cons.injEq, and_true] at e_x0
  obtain ⟨q1, q2, q3⟩ : b_x0 = a_x0 ∧ m_x0 = n_x0 ∧ l_x0 = c_x0 := by simpa using e_x0
  replace q1 := q1.symm; replace q2 := q2.symm; replace q3 := q3.symm; subst q1 q2 q3
  clear hA0 hval0
  refine (FnExactErrorsOk_walk a_x0 n_x0 c_x0 x0 W w_x0).mono fun e W' ⟨he, bel⟩ => ?_
  subst he
  exact ⟨_, rfl, _, _, _, [], _, [], hW', trodAll_mk1 (shut_bool Try.underlying4 _), (trodAll_cons_mk (Below.trod try_laidOut (by kernel_rfl) (of_decide_eq_true (by kernel_rfl)) k0 bel lt0) trodAll_mk0), rfl, bel.frame _, fun h => by cases h⟩

theorem FnExactErrorsOk_holds : Rows.FnExactErrorsOkSaid :=
  OpenClaim.holds_of_wide 6 Try.f6 rfl rfl rfl rfl rfl rfl rfl ⟨rfl, rfl, rfl, rfl, rfl⟩ rfl rfl rfl rfl rfl (by kernel_rfl) Try.func6 (by kernel_rfl)
    (of_decide_eq_true (by kernel_rfl)) (by unfold Func.isWrapper; rw [if_neg (of_decide_eq_false (by kernel_rfl))]; exact ⟨rfl, rfl⟩)
    (fun os started H enc _ => FnExactErrorsOk_lifted os started H enc)
#print axioms FnExactErrorsOk_holds
end Go.Proofs.Ytlkameobhmccmaa
