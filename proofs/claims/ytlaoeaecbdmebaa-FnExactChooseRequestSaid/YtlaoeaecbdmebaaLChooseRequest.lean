/- For every queue, all flags and all numbers the program's ChooseRequest returns what the reference's returns, and leaves its arguments as they were. No condition. -/
import Derived.Test.YtlaoeaecbdmebaaChoose
set_option linter.unusedSimpArgs false
set_option linter.unusedVariables false
namespace Go.Proofs.Ytlaoeaecbdmebaa
open Go.RowKit Go.ChangeShapes Go.WideShapes Go.ChangeAt Go.Joins Go.Deep
open Go.ChangeMaps (open_string shut_string)

set_option maxRecDepth 100000 in
set_option maxHeartbeats 4000000 in
theorem FnExactChooseRequest_walk (a : Option Addr) (n c : Nat) (es : List Rq) (a2 : Option Addr) (n2 c2 : Nat) (able : List Bool) (a3 : Option Addr) (n3 c3 : Nat) (hit : List Bool) (cap now : Int) (w : World) (ha : IsStructs rqF 6 w a n c es) (hb : IsBools w a2 n2 c2 able) (hd : IsBools w a3 n3 c3 hit) :
    Calls Try.prog 11 #[.slice a n c, .slice a2 n2 c2, .slice a3 n3 c3, .int .i64 cap, .int .i64 now] w fun e w' => e = .returned (.bool true) ∧ Below w.heap.size w w' := by
  have hm : c ≤ 9223372036854775807 := ha.2.2.1
  have hc := ha.2.1
  have hm2 : c2 ≤ 9223372036854775807 := hb.2.2.1
  have hc2 := hb.2.1
  have hm3 : c3 ≤ 9223372036854775807 := hd.2.2.1
  have hc3 := hd.2.1
  by_cases hs2 : n2 ≤ 1048576
  · by_cases hs3 : n3 ≤ 1048576
    · by_cases hs : n ≤ 1048576
      · have HA := hide ha; have HB := hide hb; have HD := hide hd
        clear ha hb hd
        have g9 : (0 : Int) ≤ 1048576 - (n : Int) := by omega
        go_enter Try.func11, Try.ntmps11
        go_wp2_with fail
        refine (laws_szRequestS _ _ _ _ _ (by omega) (by omega) (by omega)).mono ?_
        rintro e w1 ⟨rfl, h1⟩
        have s1 := h1.size
        try simp only [World.size_alloc, World.size_setCell, World.size_drew, World.heap_drewN] at s1
        have H1 : Below w.heap.size w w1 := bthen (by go_grown) h1 (by go_size)
        have C1 := (bcell H1).1; have F1 := (bcell H1).2
        go_wp2_with fail
        refine (laws_toRequestS _ _ _ es _ (HA.out.below H1 (Nat.le_refl _)) hs).mono ?_
        rintro e w2 ⟨a2, c2, rfl, o2, h2⟩
        have s2 := h2.size
        try simp only [World.size_alloc, World.size_setCell, World.size_drew, World.heap_drewN] at s2
        have H2 : Below w.heap.size w w2 := bthen (by go_grown) h2 (by go_size)
        have C2 := (bcell H2).1; have F2 := (bcell H2).2
        have p := hide (Owned.of_own o2)
        clear o2
        go_wp2_with fail
        refine (laws_toBoolS _ _ _ able _ (HB.out.below H2 (Nat.le_refl _)) hs2).mono ?_
        rintro e w3 ⟨a3, c3, rfl, o3, h3⟩
        have s3 := h3.size
        try simp only [World.size_alloc, World.size_setCell, World.size_drew, World.heap_drewN] at s3
        have H3 : Below w.heap.size w w3 := bthen (by go_grown) h3 (by go_size)
        have C3 := (bcell H3).1; have F3 := (bcell H3).2
        have P3 : Below w2.heap.size w2 w3 := bthen (by go_grown) h3 (by go_size)
        replace p := hide (p.out.below P3 (by omega))
        have q := hide (Owned.of_own o3)
        clear o3
        go_wp2_with fail
        refine (laws_toBoolS _ _ _ hit _ (HD.out.below H3 (Nat.le_refl _)) hs3).mono ?_
        rintro e w4 ⟨a4, c4, rfl, o4, h4⟩
        have s4 := h4.size
        try simp only [World.size_alloc, World.size_setCell, World.size_drew, World.heap_drewN] at s4
        have H4 : Below w.heap.size w w4 := bthen (by go_grown) h4 (by go_size)
        have C4 := (bcell H4).1; have F4 := (bcell H4).2
        have P4 : Below w3.heap.size w3 w4 := bthen (by go_grown) h4 (by go_size)
        replace p := hide (p.out.below P4 (by omega))
        replace q := hide (q.out.below P4 (by omega))
        have r := hide (Owned.of_own o4)
        clear o4
        go_wp2_with fail
        refine (spec_ChooseRequest _ _ _ es _ _ _ able _ _ _ hit _ _ _ (isStructs_own rqF_len (by omega) p.out.1) (isBools_own q.out.1) (isBools_own r.out.1) hs hs2 hs3).mono ?_
        rintro e w5 ⟨rfl, h5⟩
        have s5 := h5.size
        try simp only [World.size_alloc, World.size_setCell, World.size_drew, World.heap_drewN] at s5
        have H5 : Below w.heap.size w w5 := bthen (by go_grown) h5 (by go_size)
        have C5 := (bcell H5).1; have F5 := (bcell H5).2
        have P5 : Below w4.heap.size w4 w5 := bthen (by go_grown) h5 (by go_size)
        replace p := hide (p.out.below P5 (by omega))
        replace q := hide (q.out.below P5 (by omega))
        replace r := hide (r.out.below P5 (by omega))
        go_wp2_with fail
        refine (laws_toRequestS _ _ _ es _ (HA.out.below H5 (Nat.le_refl _)) hs).mono ?_
        rintro e w6 ⟨a6, c6, rfl, o6, h6⟩
        have s6 := h6.size
        try simp only [World.size_alloc, World.size_setCell, World.size_drew, World.heap_drewN] at s6
        have H6 : Below w.heap.size w w6 := bthen (by go_grown) h6 (by go_size)
        have C6 := (bcell H6).1; have F6 := (bcell H6).2
        have P6 : Below w5.heap.size w5 w6 := bthen (by go_grown) h6 (by go_size)
        replace p := hide (p.out.below P6 (by omega))
        replace q := hide (q.out.below P6 (by omega))
        replace r := hide (r.out.below P6 (by omega))
        have x := hide (Owned.of_own o6)
        clear o6
        go_wp2_with fail
        refine (laws_toBoolS _ _ _ able _ (HB.out.below H6 (Nat.le_refl _)) hs2).mono ?_
        rintro e w7 ⟨a7, c7, rfl, o7, h7⟩
        have s7 := h7.size
        try simp only [World.size_alloc, World.size_setCell, World.size_drew, World.heap_drewN] at s7
        have H7 : Below w.heap.size w w7 := bthen (by go_grown) h7 (by go_size)
        have C7 := (bcell H7).1; have F7 := (bcell H7).2
        have P7 : Below w6.heap.size w6 w7 := bthen (by go_grown) h7 (by go_size)
        replace p := hide (p.out.below P7 (by omega))
        replace q := hide (q.out.below P7 (by omega))
        replace r := hide (r.out.below P7 (by omega))
        replace x := hide (x.out.below P7 (by omega))
        have y := hide (Owned.of_own o7)
        clear o7
        go_wp2_with fail
        refine (laws_toBoolS _ _ _ hit _ (HD.out.below H7 (Nat.le_refl _)) hs3).mono ?_
        rintro e w8 ⟨a8, c8, rfl, o8, h8⟩
        have s8 := h8.size
        try simp only [World.size_alloc, World.size_setCell, World.size_drew, World.heap_drewN] at s8
        have H8 : Below w.heap.size w w8 := bthen (by go_grown) h8 (by go_size)
        have C8 := (bcell H8).1; have F8 := (bcell H8).2
        have P8 : Below w7.heap.size w7 w8 := bthen (by go_grown) h8 (by go_size)
        replace p := hide (p.out.below P8 (by omega))
        replace q := hide (q.out.below P8 (by omega))
        replace r := hide (r.out.below P8 (by omega))
        replace x := hide (x.out.below P8 (by omega))
        replace y := hide (y.out.below P8 (by omega))
        have z := hide (Owned.of_own o8)
        clear o8
        go_wp2_with fail
        refine (impl_ChooseRequest _ _ _ es _ _ _ able _ _ _ hit _ _ _ (isStructs_own rqF_len (by omega) x.out.1) (isBools_own y.out.1) (isBools_own z.out.1) hs hs2 hs3).mono ?_
        rintro e w9 ⟨rfl, h9⟩
        have s9 := h9.size
        try simp only [World.size_alloc, World.size_setCell, World.size_drew, World.heap_drewN] at s9
        have H9 : Below w.heap.size w w9 := bthen (by go_grown) h9 (by go_size)
        have C9 := (bcell H9).1; have F9 := (bcell H9).2
        have P9 : Below w8.heap.size w8 w9 := bthen (by go_grown) h9 (by go_size)
        replace p := hide (p.out.below P9 (by omega))
        replace q := hide (q.out.below P9 (by omega))
        replace r := hide (r.out.below P9 (by omega))
        replace x := hide (x.out.below P9 (by omega))
        replace y := hide (y.out.below P9 (by omega))
        replace z := hide (z.out.below P9 (by omega))
        go_wp2_with fail
        refine (laws_toRequestS _ _ _ es _ (HA.out.below H9 (Nat.le_refl _)) hs).mono ?_
        rintro e w10 ⟨a10, c10, rfl, o10, h10⟩
        have s10 := h10.size
        try simp only [World.size_alloc, World.size_setCell, World.size_drew, World.heap_drewN] at s10
        have H10 : Below w.heap.size w w10 := bthen (by go_grown) h10 (by go_size)
        have C10 := (bcell H10).1; have F10 := (bcell H10).2
        have P10 : Below w9.heap.size w9 w10 := bthen (by go_grown) h10 (by go_size)
        replace p := hide (p.out.below P10 (by omega))
        replace q := hide (q.out.below P10 (by omega))
        replace r := hide (r.out.below P10 (by omega))
        replace x := hide (x.out.below P10 (by omega))
        replace y := hide (y.out.below P10 (by omega))
        replace z := hide (z.out.below P10 (by omega))
        have x2 := hide (Owned.of_own o10)
        clear o10
        go_wp2_with fail
        refine (laws_eqRequestS _ _ _ _ _ _ _ (isStructs_own rqF_len (by omega) x.out.1) (isStructs_own rqF_len (by omega) x2.out.1)).mono ?_
        rintro e w11 ⟨rfl, h11⟩
        have s11 := h11.size
        try simp only [World.size_alloc, World.size_setCell, World.size_drew, World.heap_drewN] at s11
        have H11 : Below w.heap.size w w11 := bthen (by go_grown) h11 (by go_size)
        have C11 := (bcell H11).1; have F11 := (bcell H11).2
        have P11 : Below w10.heap.size w10 w11 := bthen (by go_grown) h11 (by go_size)
        replace p := hide (p.out.below P11 (by omega))
        replace q := hide (q.out.below P11 (by omega))
        replace r := hide (r.out.below P11 (by omega))
        replace x := hide (x.out.below P11 (by omega))
        replace y := hide (y.out.below P11 (by omega))
        replace z := hide (z.out.below P11 (by omega))
        replace x2 := hide (x2.out.below P11 (by omega))
        go_wp2_with fail
        refine (laws_toBoolS _ _ _ able _ (HB.out.below H11 (Nat.le_refl _)) hs2).mono ?_
        rintro e w12 ⟨a12, c12, rfl, o12, h12⟩
        have s12 := h12.size
        try simp only [World.size_alloc, World.size_setCell, World.size_drew, World.heap_drewN] at s12
        have H12 : Below w.heap.size w w12 := bthen (by go_grown) h12 (by go_size)
        have C12 := (bcell H12).1; have F12 := (bcell H12).2
        have P12 : Below w11.heap.size w11 w12 := bthen (by go_grown) h12 (by go_size)
        replace p := hide (p.out.below P12 (by omega))
        replace q := hide (q.out.below P12 (by omega))
        replace r := hide (r.out.below P12 (by omega))
        replace x := hide (x.out.below P12 (by omega))
        replace y := hide (y.out.below P12 (by omega))
        replace z := hide (z.out.below P12 (by omega))
        replace x2 := hide (x2.out.below P12 (by omega))
        have y2 := hide (Owned.of_own o12)
        clear o12
        go_wp2_with fail
        refine (laws_eqBoolS _ _ _ _ _ _ _ (isBools_own y.out.1) (isBools_own y2.out.1)).mono ?_
        rintro e w13 ⟨rfl, h13⟩
        have s13 := h13.size
        try simp only [World.size_alloc, World.size_setCell, World.size_drew, World.heap_drewN] at s13
        have H13 : Below w.heap.size w w13 := bthen (by go_grown) h13 (by go_size)
        have C13 := (bcell H13).1; have F13 := (bcell H13).2
        have P13 : Below w12.heap.size w12 w13 := bthen (by go_grown) h13 (by go_size)
        replace p := hide (p.out.below P13 (by omega))
        replace q := hide (q.out.below P13 (by omega))
        replace r := hide (r.out.below P13 (by omega))
        replace x := hide (x.out.below P13 (by omega))
        replace y := hide (y.out.below P13 (by omega))
        replace z := hide (z.out.below P13 (by omega))
        replace x2 := hide (x2.out.below P13 (by omega))
        replace y2 := hide (y2.out.below P13 (by omega))
        go_wp2_with fail
        refine (laws_toBoolS _ _ _ hit _ (HD.out.below H13 (Nat.le_refl _)) hs3).mono ?_
        rintro e w14 ⟨a14, c14, rfl, o14, h14⟩
        have s14 := h14.size
        try simp only [World.size_alloc, World.size_setCell, World.size_drew, World.heap_drewN] at s14
        have H14 : Below w.heap.size w w14 := bthen (by go_grown) h14 (by go_size)
        have C14 := (bcell H14).1; have F14 := (bcell H14).2
        have P14 : Below w13.heap.size w13 w14 := bthen (by go_grown) h14 (by go_size)
        replace p := hide (p.out.below P14 (by omega))
        replace q := hide (q.out.below P14 (by omega))
        replace r := hide (r.out.below P14 (by omega))
        replace x := hide (x.out.below P14 (by omega))
        replace y := hide (y.out.below P14 (by omega))
        replace z := hide (z.out.below P14 (by omega))
        replace x2 := hide (x2.out.below P14 (by omega))
        replace y2 := hide (y2.out.below P14 (by omega))
        have z2 := hide (Owned.of_own o14)
        clear o14
        go_wp2_with fail
        refine (laws_eqBoolS _ _ _ _ _ _ _ (isBools_own z.out.1) (isBools_own z2.out.1)).mono ?_
        rintro e w15 ⟨rfl, h15⟩
        have s15 := h15.size
        try simp only [World.size_alloc, World.size_setCell, World.size_drew, World.heap_drewN] at s15
        have H15 : Below w.heap.size w w15 := bthen (by go_grown) h15 (by go_size)
        have C15 := (bcell H15).1; have F15 := (bcell H15).2
        have P15 : Below w14.heap.size w14 w15 := bthen (by go_grown) h15 (by go_size)
        replace p := hide (p.out.below P15 (by omega))
        replace q := hide (q.out.below P15 (by omega))
        replace r := hide (r.out.below P15 (by omega))
        replace x := hide (x.out.below P15 (by omega))
        replace y := hide (y.out.below P15 (by omega))
        replace z := hide (z.out.below P15 (by omega))
        replace x2 := hide (x2.out.below P15 (by omega))
        replace y2 := hide (y2.out.below P15 (by omega))
        replace z2 := hide (z2.out.below P15 (by omega))
        go_wp2_with fail
        go_ret
        exact ⟨rfl, by go_grown⟩
      · go_enter Try.func11, Try.ntmps11
        go_wp2_with fail
        refine (laws_szRequestS_no _ _ _ _ _ (by omega) (by omega) (by omega) ⟨hc, hm⟩).mono ?_
        rintro e w1 ⟨rfl, h1⟩
        go_wp2_with fail
        go_ret
        exact ⟨rfl, bthen (by go_grown) h1 (by go_size)⟩
    · go_enter Try.func11, Try.ntmps11
      go_wp2_with fail
      go_ret
      exact ⟨rfl, by go_grown⟩
  · go_enter Try.func11, Try.ntmps11
    go_wp2_with fail
    go_ret
    exact ⟨rfl, by go_grown⟩

set_option maxRecDepth 100000 in
theorem FnExactChooseRequest_lifted (os : Os) (started : os.Started) (H : Type) (enc : TypeId × Value → H) :
    ReturnsInHanded {} Try.checked os 11 .any (Rows.fnExactChooseRequestSpec.pre6 enc Try.prog Try.f11 Rows.fnExactChooseRequestRow.domain false) (Rows.fnExactChooseRequestSpec.post enc Try.prog Try.f11 false true false false) := by
  refine returnsInHanded_of_change (C := Try.checked) try_own started (by kernel_rfl) Try.func11
    (ChangeSpec.witness6 (enc := enc) (C := Try.checked) false ⟨#[], #[.slice none 0 0, .slice none 0 0, .slice none 0 0, .int .i64 0, .int .i64 0], []⟩ 8 (by kernel_rfl) (by kernel_rfl) (by kernel_rfl) (by kernel_rfl)) ?_
  intro W base args ds gs before hval0 hW _ _
  have hval : ∀ (j : Nat) t v, Try.f11.params[j]? = some t → args[j]? = some v → Value.okWide Try.prog W .any base t v := hval0
  have hW' := hW
  obtain ⟨p, q, hA0, hV, rfl, hfz, hnd⟩ := hW
  have hA : DataW.TrodAll enc Try.prog W 0 (fun _ => true) true Try.f11.params.toList args.toList ds p := hA0
  rw [Try.params11] at hA hval
  obtain ⟨v0, vs0, d0, ds0, p0, q0, hargs, rfl, rfl, h0, r0⟩ := trodAll_cons hA
  obtain ⟨v1, vs1, d1, ds1, p1, q1, rfl, rfl, rfl, h1, r1⟩ := trodAll_cons r0
  obtain ⟨v2, vs2, d2, ds2, p2, q2, rfl, rfl, rfl, h2, r2⟩ := trodAll_cons r1
  obtain ⟨v3, vs3, d3, ds3, p3, q3, rfl, rfl, rfl, h3, r3⟩ := trodAll_cons r2
  obtain ⟨v4, vs4, d4, ds4, p4, q4, rfl, rfl, rfl, h4, r4⟩ := trodAll_cons r3
  obtain ⟨rfl, rfl, rfl⟩ := trodAll_nil r4
  obtain rfl : args = #[v0, v1, v2, v3, v4] := by cases args; simp_all
  obtain ⟨rfl, rfl⟩ := trodVars_none hV
  have k0 := h0
  have lt0 : ∀ x ∈ p0, x.block < W.heap.size := by obtain ⟨m, hm⟩ := k0; exact DataW.trod_lt m _ _ _ hm
  have k1 := h1
  have lt1 : ∀ x ∈ p1, x.block < W.heap.size := by obtain ⟨m, hm⟩ := k1; exact DataW.trod_lt m _ _ _ hm
  have k2 := h2
  have lt2 : ∀ x ∈ p2, x.block < W.heap.size := by obtain ⟨m, hm⟩ := k2; exact DataW.trod_lt m _ _ _ hm
  have k3 := h3
  have lt3 : ∀ x ∈ p3, x.block < W.heap.size := by obtain ⟨m, hm⟩ := k3; exact DataW.trod_lt m _ _ _ hm
  have k4 := h4
  have lt4 : ∀ x ∈ p4, x.block < W.heap.size := by obtain ⟨m, hm⟩ := k4; exact DataW.trod_lt m _ _ _ hm
  obtain ⟨b_x0, m_x0, l_x0, rfl⟩ := okWide_slice Try.underlying74 (hval 0 74 v0 rfl rfl)
  obtain ⟨fu0, h0⟩ := h0
  obtain ⟨a_x0, n_x0, c_x0, x0, e_x0, w_x0⟩ := isRequests_of h0
  obtain ⟨b_x1, m_x1, l_x1, rfl⟩ := okWide_slice Try.underlying56 (hval 1 56 v1 rfl rfl)
  obtain ⟨fu1, h1⟩ := h1
  obtain ⟨a_x1, n_x1, c_x1, x1, e_x1, w_x1⟩ := isBools_of Try.underlying56 Try.underlying4 (by kernel_rfl) h1
  obtain ⟨b_x2, m_x2, l_x2, rfl⟩ := okWide_slice Try.underlying56 (hval 2 56 v2 rfl rfl)
  obtain ⟨fu2, h2⟩ := h2
  obtain ⟨a_x2, n_x2, c_x2, x2, e_x2, w_x2⟩ := isBools_of Try.underlying56 Try.underlying4 (by kernel_rfl) h2
  obtain ⟨x3, rfl, rfl, rfl, w_x3⟩ := open_int Try.underlying3 (hval 3 3 v3 rfl rfl) h3
  obtain ⟨x4, rfl, rfl, rfl, w_x4⟩ := open_int Try.underlying3 (hval 4 3 v4 rfl rfl) h4
  simp only [Value.cells, List.cons.injEq, and_true] at e_x0
  obtain ⟨q1, q2, q3⟩ : b_x0 = a_x0 ∧ m_x0 = n_x0 ∧ l_x0 = c_x0 := by simpa using e_x0
  replace q1 := q1.symm; replace q2 := q2.symm; replace q3 := q3.symm; subst q1 q2 q3
  simp only [Value.cells, List.cons.injEq, and_true] at e_x1
  obtain ⟨q1, q2, q3⟩ : b_x1 = a_x1 ∧ m_x1 = n_x1 ∧ l_x1 = c_x1 := by simpa using e_x1
  replace q1 := q1.symm; replace q2 := q2.symm; replace q3 := q3.symm; subst q1 q2 q3
  simp only [Value.cells, List.cons.injEq, and_true] at e_x2
  obtain ⟨q1, q2, q3⟩ : b_x2 = a_x2 ∧ m_x2 = n_x2 ∧ l_x2 = c_x2 := by simpa using e_x2
  replace q1 := q1.symm; replace q2 := q2.symm; replace q3 := q3.symm; subst q1 q2 q3
  clear hA0 hval0
  refine (FnExactChooseRequest_walk a_x0 n_x0 c_x0 x0 a_x1 n_x1 c_x1 x1 a_x2 n_x2 c_x2 x2 x3 x4 W w_x0 w_x1 w_x2).mono fun e W' ⟨he, bel⟩ => ?_
  subst he
  exact ⟨_, rfl, _, _, _, [], _, [], hW', trodAll_mk1 (shut_bool Try.underlying4 _), (trodAll_cons_mk (Below.trod try_laidOut (by kernel_rfl) (of_decide_eq_true (by kernel_rfl)) k0 bel lt0) (trodAll_cons_mk (Below.trod try_laidOut (by kernel_rfl) (of_decide_eq_true (by kernel_rfl)) k1 bel lt1) (trodAll_cons_mk (Below.trod try_laidOut (by kernel_rfl) (of_decide_eq_true (by kernel_rfl)) k2 bel lt2) (trodAll_cons_mk (Below.trod try_laidOut (by kernel_rfl) (of_decide_eq_true (by kernel_rfl)) k3 bel lt3) (trodAll_cons_mk (Below.trod try_laidOut (by kernel_rfl) (of_decide_eq_true (by kernel_rfl)) k4 bel lt4) trodAll_mk0))))), rfl, bel.frame _, fun h => by cases h⟩

theorem FnExactChooseRequest_holds : Rows.FnExactChooseRequestSaid :=
  OpenClaim.holds_of_wide 11 Try.f11 rfl rfl rfl rfl rfl rfl rfl ⟨rfl, rfl, rfl, rfl, rfl⟩ rfl rfl rfl rfl rfl (by kernel_rfl) Try.func11 (by kernel_rfl)
    (of_decide_eq_true (by kernel_rfl)) (by unfold Func.isWrapper; rw [if_neg (of_decide_eq_false (by kernel_rfl))]; exact ⟨rfl, rfl⟩)
    (fun os started H enc _ => FnExactChooseRequest_lifted os started H enc)
#print axioms FnExactChooseRequest_holds
end Go.Proofs.Ytlaoeaecbdmebaa
