/- For every list of weights the program's SharesNew returns what the reference's returns, in memory of its own, and leaves the list as it was. No condition. -/
import Derived.Test.YtlaoeaecbdmebaaShares
import Derived.Test.YtlaoeaecbdmebaaIntMarks
set_option linter.unusedSimpArgs false
set_option linter.unusedVariables false
namespace Go.Proofs.Ytlaoeaecbdmebaa
open Go.RowKit Go.ChangeShapes Go.WideShapes Go.ChangeAt Go.Joins Go.Deep
open Go.ChangeMaps (open_string shut_string)

set_option maxHeartbeats 2000000 in
theorem FnExactSharesNew_walk (a : Option Addr) (n c : Nat) (zs : List Int) (w : World) (ha : IsInts .i64 w a n c zs) :
    Calls Try.prog 5 #[.slice a n c] w fun e w' => e = .returned (.bool true) ∧ Below w.heap.size w w' := by
  have hm : c ≤ 9223372036854775807 := ha.2.2.1
  have hc := ha.2.1
  have hw := hide ha.2.2.2.1
  by_cases hs : n ≤ 1048576
  · have HA := hide ha
    clear ha
    go_enter Try.func5, Try.ntmps5
    go_wp2_with fail
    refine (laws_toIntS a n c zs _ HA.out hs).mono ?_
    rintro e w1 ⟨a1, c1, rfl, o1, h1⟩
    have s1 := h1.size
    try simp only [World.size_alloc, World.size_setCell, World.size_drew, World.heap_drewN] at s1
    have H1 : Below w.heap.size w w1 := bthen (by go_grown) h1 (by go_size)
    have C1 := (bcell H1).1; have F1 := (bcell H1).2
    have p := hide (Owned.of_own o1)
    clear o1
    go_wp2_with fail
    refine (spec_SharesNew _ _ _ zs _ (isInts_own p.out.1 hw.out) hs).mono ?_
    rintro e w2 ⟨nr, ar, cr, rfl, o2, nl2, hnr, h2⟩
    have s2 := h2.size
    try simp only [World.size_alloc, World.size_setCell, World.size_drew, World.heap_drewN] at s2
    have H2 : Below w.heap.size w w2 := bthen (by go_grown) h2 (by go_size)
    have C2 := (bcell H2).1; have F2 := (bcell H2).2
    have P2 : Below w1.heap.size w1 w2 := bthen (by go_grown) h2 (by go_size)
    replace p := hide (p.out.below P2 (by omega))
    have r := hide (Owned.of_own o2)
    clear o2
    go_wp2_with fail
    refine (laws_toIntS a n c zs _ (HA.out.below H2 (Nat.le_refl _)) hs).mono ?_
    rintro e w3 ⟨a3, c3, rfl, o3, h3⟩
    have s3 := h3.size
    try simp only [World.size_alloc, World.size_setCell, World.size_drew, World.heap_drewN] at s3
    have H3 : Below w.heap.size w w3 := bthen (by go_grown) h3 (by go_size)
    have C3 := (bcell H3).1; have F3 := (bcell H3).2
    have P3 : Below w2.heap.size w2 w3 := bthen (by go_grown) h3 (by go_size)
    replace p := hide (p.out.below P3 (by omega))
    replace r := hide (r.out.below P3 (by omega))
    have x := hide (Owned.of_own o3)
    clear o3
    go_wp2_with fail
    refine (impl_SharesNew _ _ _ zs _ (isInts_own x.out.1 hw.out) hs).mono ?_
    rintro e w4 ⟨ng, ag, cg, rfl, o4, nk4, hng, h4⟩
    have s4 := h4.size
    try simp only [World.size_alloc, World.size_setCell, World.size_drew, World.heap_drewN] at s4
    have H4 : Below w.heap.size w w4 := bthen (by go_grown) h4 (by go_size)
    have C4 := (bcell H4).1; have F4 := (bcell H4).2
    have P4 : Below w3.heap.size w3 w4 := bthen (by go_grown) h4 (by go_size)
    replace p := hide (p.out.below P4 (by omega))
    replace r := hide (r.out.below P4 (by omega))
    replace x := hide (x.out.below P4 (by omega))
    have g := hide (Owned.of_own o4)
    clear o4
    obtain rfl : nr = ng := (by rw [← nl2, ← nk4])
    go_wp2_with fail
    refine (laws_eqShareS _ _ _ _ _ _ _ (isStructs_own shF_len (by omega) g.out.1) (isStructs_own shF_len (by omega) r.out.1)).mono ?_
    rintro e w5 ⟨rfl, h5⟩
    have s5 := h5.size
    try simp only [World.size_alloc, World.size_setCell, World.size_drew, World.heap_drewN] at s5
    have H5 : Below w.heap.size w w5 := bthen (by go_grown) h5 (by go_size)
    have C5 := (bcell H5).1; have F5 := (bcell H5).2
    have P5 : Below w4.heap.size w4 w5 := bthen (by go_grown) h5 (by go_size)
    replace p := hide (p.out.below P5 (by omega))
    replace r := hide (r.out.below P5 (by omega))
    replace x := hide (x.out.below P5 (by omega))
    replace g := hide (g.out.below P5 (by omega))
    go_wp2_with fail
    refine (laws_toIntS a n c zs _ (HA.out.below H5 (Nat.le_refl _)) hs).mono ?_
    rintro e w6 ⟨a6, c6, rfl, o6, h6⟩
    have s6 := h6.size
    try simp only [World.size_alloc, World.size_setCell, World.size_drew, World.heap_drewN] at s6
    have H6 : Below w.heap.size w w6 := bthen (by go_grown) h6 (by go_size)
    have C6 := (bcell H6).1; have F6 := (bcell H6).2
    have P6 : Below w5.heap.size w5 w6 := bthen (by go_grown) h6 (by go_size)
    replace p := hide (p.out.below P6 (by omega))
    replace r := hide (r.out.below P6 (by omega))
    replace x := hide (x.out.below P6 (by omega))
    replace g := hide (g.out.below P6 (by omega))
    have y := hide (Owned.of_own o6)
    clear o6
    go_wp2_with fail
    refine (laws_eqIntS _ _ _ _ _ _ _ (isInts_own x.out.1 hw.out) (isInts_own y.out.1 hw.out)).mono ?_
    rintro e w7 ⟨rfl, h7⟩
    have s7 := h7.size
    try simp only [World.size_alloc, World.size_setCell, World.size_drew, World.heap_drewN] at s7
    have H7 : Below w.heap.size w w7 := bthen (by go_grown) h7 (by go_size)
    have C7 := (bcell H7).1; have F7 := (bcell H7).2
    have P7 : Below w6.heap.size w6 w7 := bthen (by go_grown) h7 (by go_size)
    replace p := hide (p.out.below P7 (by omega))
    replace r := hide (r.out.below P7 (by omega))
    replace x := hide (x.out.below P7 (by omega))
    replace g := hide (g.out.below P7 (by omega))
    replace y := hide (y.out.below P7 (by omega))
    go_wp2_with fail
    refine (laws_markIntS _ _ _ _ _ _ _ _ (by omega) hs x.out).mono ?_
    rintro e w8 ⟨rfl, o8, v8⟩
    have h8 := Save.below v8 (by omega)
    have s8 := h8.size
    try simp only [World.size_alloc, World.size_setCell, World.size_drew, World.heap_drewN] at s8
    have H8 : Below w.heap.size w w8 := bthen (by go_grown) h8 (by go_size)
    have C8 := (bcell H8).1; have F8 := (bcell H8).2
    replace p := hide (p.out.save v8 (by omega))
    replace r := hide (r.out.save v8 (by omega))
    replace x := hide o8
    replace g := hide (g.out.save v8 (by omega))
    replace y := hide (y.out.save v8 (by omega))
    have h9 : (0 : Int) ≤ (n : Int) := by omega
    go_wp2_with fail
    refine (laws_eqShareS _ _ _ _ _ _ _ (isStructs_own shF_len (by omega) g.out.1) (isStructs_own shF_len (by omega) r.out.1)).mono ?_
    rintro e w9 ⟨rfl, h9⟩
    have s9 := h9.size
    try simp only [World.size_alloc, World.size_setCell, World.size_drew, World.heap_drewN] at s9
    have H9 : Below w.heap.size w w9 := bthen (by go_grown) h9 (by go_size)
    have C9 := (bcell H9).1; have F9 := (bcell H9).2
    have P9 : Below w8.heap.size w8 w9 := bthen (by go_grown) h9 (by go_size)
    replace p := hide (p.out.below P9 (by omega))
    replace r := hide (r.out.below P9 (by omega))
    replace x := hide (x.out.below P9 (by omega))
    replace g := hide (g.out.below P9 (by omega))
    replace y := hide (y.out.below P9 (by omega))
    go_wp2_with fail
    refine (laws_markShareS _ _ _ _ _ _ _ _ (by omega) (by omega) g.out).mono ?_
    rintro e w10 ⟨rfl, o10, v10⟩
    have h10 := Save.below v10 (by omega)
    have s10 := h10.size
    try simp only [World.size_alloc, World.size_setCell, World.size_drew, World.heap_drewN] at s10
    have H10 : Below w.heap.size w w10 := bthen (by go_grown) h10 (by go_size)
    have C10 := (bcell H10).1; have F10 := (bcell H10).2
    replace p := hide (p.out.save v10 (by omega))
    replace r := hide (r.out.save v10 (by omega))
    replace x := hide (x.out.save v10 (by omega))
    replace g := hide o10
    replace y := hide (y.out.save v10 (by omega))
    go_wp2_with fail
    refine (laws_heldShareS _ _ _ _ _ (by omega) (by omega) (isStructs_own shF_len (by omega) g.out.1)).mono ?_
    rintro e w11 ⟨rfl, h11⟩
    have s11 := h11.size
    try simp only [World.size_alloc, World.size_setCell, World.size_drew, World.heap_drewN] at s11
    have H11 : Below w.heap.size w w11 := bthen (by go_grown) h11 (by go_size)
    have C11 := (bcell H11).1; have F11 := (bcell H11).2
    have P11 : Below w10.heap.size w10 w11 := bthen (by go_grown) h11 (by go_size)
    replace p := hide (p.out.below P11 (by omega))
    replace r := hide (r.out.below P11 (by omega))
    replace x := hide (x.out.below P11 (by omega))
    replace g := hide (g.out.below P11 (by omega))
    replace y := hide (y.out.below P11 (by omega))
    go_wp2_with fail
    refine (laws_toIntS a n c zs _ (HA.out.below H11 (Nat.le_refl _)) hs).mono ?_
    rintro e w12 ⟨a12, c12, rfl, o12, h12⟩
    have s12 := h12.size
    try simp only [World.size_alloc, World.size_setCell, World.size_drew, World.heap_drewN] at s12
    have H12 : Below w.heap.size w w12 := bthen (by go_grown) h12 (by go_size)
    have C12 := (bcell H12).1; have F12 := (bcell H12).2
    have P12 : Below w11.heap.size w11 w12 := bthen (by go_grown) h12 (by go_size)
    replace p := hide (p.out.below P12 (by omega))
    replace r := hide (r.out.below P12 (by omega))
    replace x := hide (x.out.below P12 (by omega))
    replace g := hide (g.out.below P12 (by omega))
    replace y := hide (y.out.below P12 (by omega))
    have z := hide (Owned.of_own o12)
    clear o12
    go_wp2_with fail
    refine (impl_SharesNew _ _ _ zs _ (isInts_own z.out.1 hw.out) hs).mono ?_
    rintro e w13 ⟨nh, ah, ch, rfl, o13, nm13, hnh, h13⟩
    have s13 := h13.size
    try simp only [World.size_alloc, World.size_setCell, World.size_drew, World.heap_drewN] at s13
    have H13 : Below w.heap.size w w13 := bthen (by go_grown) h13 (by go_size)
    have C13 := (bcell H13).1; have F13 := (bcell H13).2
    have P13 : Below w12.heap.size w12 w13 := bthen (by go_grown) h13 (by go_size)
    replace p := hide (p.out.below P13 (by omega))
    replace r := hide (r.out.below P13 (by omega))
    replace x := hide (x.out.below P13 (by omega))
    replace g := hide (g.out.below P13 (by omega))
    replace y := hide (y.out.below P13 (by omega))
    replace z := hide (z.out.below P13 (by omega))
    have h := hide (Owned.of_own o13)
    clear o13
    obtain rfl : nr = nh := (by rw [← nl2, ← nm13])
    go_wp2_with fail
    refine (laws_eqShareS _ _ _ _ _ _ _ (isStructs_own shF_len (by omega) h.out.1) (isStructs_own shF_len (by omega) r.out.1)).mono ?_
    rintro e w14 ⟨rfl, h14⟩
    have s14 := h14.size
    try simp only [World.size_alloc, World.size_setCell, World.size_drew, World.heap_drewN] at s14
    have H14 : Below w.heap.size w w14 := bthen (by go_grown) h14 (by go_size)
    have C14 := (bcell H14).1; have F14 := (bcell H14).2
    have P14 : Below w13.heap.size w13 w14 := bthen (by go_grown) h14 (by go_size)
    replace p := hide (p.out.below P14 (by omega))
    replace r := hide (r.out.below P14 (by omega))
    replace x := hide (x.out.below P14 (by omega))
    replace g := hide (g.out.below P14 (by omega))
    replace y := hide (y.out.below P14 (by omega))
    replace z := hide (z.out.below P14 (by omega))
    replace h := hide (h.out.below P14 (by omega))
    go_wp2_with fail
    refine (laws_heldShareS _ _ _ _ _ (by omega) (by omega) (isStructs_own shF_len (by omega) g.out.1)).mono ?_
    rintro e w15 ⟨rfl, h15⟩
    have s15 := h15.size
    try simp only [World.size_alloc, World.size_setCell, World.size_drew, World.heap_drewN] at s15
    have H15 : Below w.heap.size w w15 := bthen (by go_grown) h15 (by go_size)
    have C15 := (bcell H15).1; have F15 := (bcell H15).2
    have P15 : Below w14.heap.size w14 w15 := bthen (by go_grown) h15 (by go_size)
    replace p := hide (p.out.below P15 (by omega))
    replace r := hide (r.out.below P15 (by omega))
    replace x := hide (x.out.below P15 (by omega))
    replace g := hide (g.out.below P15 (by omega))
    replace y := hide (y.out.below P15 (by omega))
    replace z := hide (z.out.below P15 (by omega))
    replace h := hide (h.out.below P15 (by omega))
    go_wp2_with fail
    go_ret
    exact ⟨rfl, by go_grown⟩
  · go_enter Try.func5, Try.ntmps5
    go_wp2_with fail
    go_ret
    exact ⟨rfl, by go_grown⟩

set_option maxRecDepth 100000 in
theorem FnExactSharesNew_lifted (os : Os) (started : os.Started) (H : Type) (enc : TypeId × Value → H) :
    ReturnsInHanded {} Try.checked os 5 .any (Rows.fnExactSharesNewSpec.pre6 enc Try.prog Try.f5 Rows.fnExactSharesNewRow.domain false) (Rows.fnExactSharesNewSpec.post enc Try.prog Try.f5 false true false false) := by
  refine returnsInHanded_of_change (C := Try.checked) try_own started (by kernel_rfl) Try.func5
    (ChangeSpec.witness6 (enc := enc) (C := Try.checked) false ⟨#[], #[.slice none 0 0], []⟩ 8 (by kernel_rfl) (by kernel_rfl) (by kernel_rfl) (by kernel_rfl)) ?_
  intro W base args ds gs before hval0 hW _ _
  have hval : ∀ (j : Nat) t v, Try.f5.params[j]? = some t → args[j]? = some v → Value.okWide Try.prog W .any base t v := hval0
  have hW' := hW
  obtain ⟨p, q, hA0, hV, rfl, hfz, hnd⟩ := hW
  have hA : DataW.TrodAll enc Try.prog W 0 (fun _ => true) true Try.f5.params.toList args.toList ds p := hA0
  rw [Try.params5] at hA hval
  obtain ⟨v0, vs0, d0, ds0, p0, q0, hargs, rfl, rfl, h0, r0⟩ := trodAll_cons hA
  obtain ⟨rfl, rfl, rfl⟩ := trodAll_nil r0
  obtain rfl : args = #[v0] := by cases args; simp_all
  obtain ⟨rfl, rfl⟩ := trodVars_none hV
  have k0 := h0
  have lt0 : ∀ x ∈ p0, x.block < W.heap.size := by obtain ⟨m, hm⟩ := k0; exact DataW.trod_lt m _ _ _ hm
  obtain ⟨b_x0, m_x0, l_x0, rfl⟩ := okWide_slice Try.underlying26 (hval 0 26 v0 rfl rfl)
  obtain ⟨fu0, h0⟩ := h0
  obtain ⟨a_x0, n_x0, c_x0, x0, e_x0, w_x0⟩ := isInts_of Try.underlying26 Try.underlying3 (by kernel_rfl) h0
  simp only [Value.cells, List.cons.injEq, and_true] at e_x0
  obtain ⟨q1, q2, q3⟩ : b_x0 = a_x0 ∧ m_x0 = n_x0 ∧ l_x0 = c_x0 := by simpa using e_x0
  replace q1 := q1.symm; replace q2 := q2.symm; replace q3 := q3.symm; subst q1 q2 q3
  clear hA0 hval0
  refine (FnExactSharesNew_walk a_x0 n_x0 c_x0 x0 W w_x0).mono fun e W' ⟨he, bel⟩ => ?_
  subst he
  exact ⟨_, rfl, _, _, _, [], _, [], hW', trodAll_mk1 (shut_bool Try.underlying4 _), (trodAll_cons_mk (Below.trod try_laidOut (by kernel_rfl) (of_decide_eq_true (by kernel_rfl)) k0 bel lt0) trodAll_mk0), rfl, bel.frame _, fun h => by cases h⟩

theorem FnExactSharesNew_holds : Rows.FnExactSharesNewSaid :=
  OpenClaim.holds_of_wide 5 Try.f5 rfl rfl rfl rfl rfl rfl rfl ⟨rfl, rfl, rfl, rfl, rfl⟩ rfl rfl rfl rfl rfl (by kernel_rfl) Try.func5 (by kernel_rfl)
    (of_decide_eq_true (by kernel_rfl)) (by unfold Func.isWrapper; rw [if_neg (of_decide_eq_false (by kernel_rfl))]; exact ⟨rfl, rfl⟩)
    (fun os started H enc _ => FnExactSharesNew_lifted os started H enc)
#print axioms FnExactSharesNew_holds
end Go.Proofs.Ytlaoeaecbdmebaa
