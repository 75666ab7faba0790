/- The best delay passes, and no delay in the widest window has a greater margin: for every drawn input FnWindow answers true. No condition. -/
import Derived.Test.YtboejjplclaifaaWindows
import Derived.Test.YtboejjplclaifaaEyes
set_option linter.unusedSimpArgs false
set_option linter.unusedVariables false
namespace Go.Proofs.Ytboejjplclaifaa
open Go.RowKit Go.ChangeShapes Go.WideShapes Go.ChangeAt Go.Joins Go.Deep
open Go.ChangeMaps (open_string shut_string)

theorem ww_none {xs : List Bool} (h : (ww xs).2 = 0) : bestOf (ww xs) = -1 := by unfold bestOf; rw [h]; rfl
theorem bestOf_pos' (A l : Int) (hl : 0 < l) : bestOf (A, l) = A + (l - 1) / 2 := by
  unfold bestOf
  rw [if_neg (by simp; omega)]
theorem two_bools (w : World) (e : TypeId) : IsBools (w.alloc (.cells #[.bool false, .bool true] e)) (some ⟨w.heap.size, 0, none⟩) 2 2 [false, true] :=
  ⟨rfl, Nat.le_refl _, by decide, fun i v hv => ⟨_, 0, rfl, by rw [World.cell?_alloc_new]; simpa using hv⟩⟩
theorem ww_ft : bestOf (ww [false, true]) = 1 := by decide

set_option maxHeartbeats 2000000 in
theorem FnWindow_walk (a : Option Addr) (n c : Nat) (zs : List Int) (w : World) (ha : IsInts .u8 w a n c zs) :
    Calls Try.prog 9 #[.slice a n c] w fun e w' => e = .returned (.bool true) ∧ Below w.heap.size w w' := by
  have hm : c ≤ 9223372036854775807 := ha.2.2.1
  have hc := ha.2.1
  by_cases hs : n ≤ 1048576
  · have HA := hide ha
    clear ha
    have HFT := hide ww_ft
    go_enter Try.func9, Try.ntmps9
    go_wp2_with fail
    refine (laws_big a n c _ hs).mono ?_
    rintro e w' ⟨rfl, rfl⟩
    go_wp2_with fail
    refine (spec_DrawBestDelay a n c zs w HA.out hs).mono ?_
    rintro e v1 ⟨a1, m, c1, ps, hm1, rfl, hown, hpl, hB1⟩
    have I9 := hide (isBools_own hown)
    have HL := hide hpl
    have hmc : m ≤ c1 := I9.out.2.1
    clear hown hpl
    by_cases hz : m ≤ 64 ∧ 0 < (ww ps).2
    · obtain ⟨h64, hz⟩ := hz
      obtain ⟨f, l, e0, hfl, hon, hmax⟩ := ww_inv ps (by rw [HL.out]; exact h64)
      rw [e0] at hz
      have hl : 0 < l := by simpa using hz
      rw [HL.out] at hfl
      have EW := hide e0
      have EM := hide (margin_best (by rw [HL.out]; exact h64) hon hmax hl)
      have EL := hide (fun dl => margin_le (dl := dl) (by rw [HL.out]; exact h64) (f := f) hmax hl)
      obtain ⟨q, hq⟩ : ∃ q : Nat, ((l : Int) - 1) / 2 = (q : Int) := ⟨(l - 1) / 2, by omega⟩
      have hq2 : q < l := by omega
      have HON := hide hon
      clear hon hmax hz e0
      have HB := hide (bestOf_pos' (f : Int) (l : Int) (by omega))
      rw [hq] at EM EL HB
      have HQ := hide hq
      clear hq
      have X1 := hide (fun W (I : IsBools W a1 m c1 ps) => impl_WidestWindow a1 m c1 ps W I (by omega))
      have X2 := hide (fun W (I : IsBools W a1 m c1 ps) => impl_BestDelay a1 m c1 ps W I (by omega))
      have X3 := hide (fun dl W (I : IsBools W a1 m c1 ps) => impl_MarginOf a1 m c1 ps dl W I (by omega))
      have XQ := hide (X3.out ((f : Int) + (q : Int)))
      rw [EM.out] at XQ
      rw [EW.out] at X1 X2
      rw [HB.out] at X2
      simp only at X1
      have l1 : (0 : Int) < (l : Int) := by omega
      obtain ⟨b1, o1, ha1, hlb, hcell⟩ := I9.out.2.2.2.at0 (by rw [List.length_map, HL.out]; omega)
      have hd0 : (ps.map Value.bool)[f + q]? = some (.bool true) := by rw [List.getElem?_map, HON.out q hq2]; rfl
      have hcd := hcell _ _ hd0
      clear hcell hd0
      subst ha1
      have d1 : decide ((f : Int) + (q : Int) < 0) = false := decide_eq_false (by omega)
      have d2 : decide ((m : Int) ≤ (f : Int) + (q : Int)) = false := decide_eq_false (by omega)
      have d3 : decide ((f : Int) + (q : Int) < (f : Int)) = false := decide_eq_false (by omega)
      have d4 : decide ((f : Int) + (l : Int) ≤ (f : Int) + (q : Int)) = false := decide_eq_false (by omega)
      have d5 : decide ((l : Int) ≤ (q : Int)) = false := decide_eq_false (by omega)
      have d7 : decide (l ≤ q) = false := decide_eq_false (by omega)
      have d6 : decide ((q : Int) < 0) = false := decide_eq_false (by omega)
      go_wp2_with fail
      refine (X1.out _ I9.out).mono ?_
      rintro e w1 ⟨rfl, h1⟩
      have s1 := h1.size
      try simp only [World.size_alloc, World.size_setCell, World.size_drew, World.heap_drewN] at s1
      have H1 : Below v1.heap.size v1 w1 := bthen (by go_grown) h1 (by go_size)
      have C1 := (bcell H1).1; have F1 := (bcell H1).2
      have I1 := hide (I9.out.below h1 (Nat.le_refl _))
      go_wp2_with fail
      refine (X2.out _ I1.out).mono ?_
      rintro e w2 ⟨rfl, h2⟩
      have s2 := h2.size
      try simp only [World.size_alloc, World.size_setCell, World.size_drew, World.heap_drewN] at s2
      have H2 : Below v1.heap.size v1 w2 := bthen (by go_grown) h2 (by go_size)
      have C2 := (bcell H2).1; have F2 := (bcell H2).2
      have I2 := hide (I1.out.below h2 (Nat.le_refl _))
      have g1 : (f : Int) + (q : Int) < (m : Int) := by omega
      have g2 : (q : Int) < (l : Int) := by omega
      have g3 : (0 : Int) ≤ (f : Int) + (q : Int) := by omega
      have e9 := (C2 b1 (o1 + (f + q)) hlb).trans hcd
      go_wp2_with fail
      go_loopw [9] (fun i wr => ∃ k : Nat, k ≤ l ∧ i = .int .i64 k ∧ Below v1.heap.size v1 wr) (fun i _ => l - (intOf i).toNat)
      case atStart => exact ⟨0, by omega, rfl, H2⟩
      case round =>
        obtain ⟨k, hk, rfl, hB⟩ := hrel
        have J0 := hide (I9.out.below hB (Nat.le_refl _))
        by_cases hlt : k < l
        · obtain ⟨M, hM⟩ : ∃ M, M = margin ps ((f : Int) + (k : Int)) := ⟨_, rfl⟩
          have hle : M ≤ (q : Int) := by rw [hM]; exact EL.out _
          have XK := hide (X3.out ((f : Int) + (k : Int)) _ J0.out)
          rw [← hM] at XK
          clear hM
          go_wp2_with fail
          refine XK.out.mono ?_
          rintro e u1 ⟨rfl, h1'⟩
          have J1 := hide (J0.out.below h1' (Nat.le_refl _))
          go_wp2_with fail
          refine (XQ.out _ J1.out).mono ?_
          rintro e u2 ⟨rfl, h2'⟩
          have z1 := h1'.size
          have z2 := hB.size
          have hB2 : Below v1.heap.size v1 u2 := bthen (bthen hB h1' (by omega)) h2' (by omega)
          go_wp2_with fail
          go_roundw
          case rel => first | exact ⟨k + 1, by omega, by go_num, hB2⟩ | ((repeat apply Exists.intro); exact ⟨⟨k + 1, by omega, by go_num, hB2⟩, rfl⟩)
          case measure => simp [intOf]; omega
        · obtain rfl : k = l := by omega
          go_wp2_with fail
          refine (XQ.out _ J0.out).mono ?_
          rintro e u1 ⟨rfl, h1'⟩
          have z2 := hB.size
          have hB2 : Below v1.heap.size v1 u1 := bthen hB h1' (by omega)
          have g7 : 0 ≤ (k : Int) - 1 := by omega
          have g8 := HQ.out
          go_wp2_with fail
          go_ret
          exact ⟨rfl, hB1.trans (hB2.mono hB1.size)⟩
    · have hz0 : (ww ps).1 = 0 ∨ True := .inr trivial
      have hno : (ww ps).2 = 0 := by
        by_cases h64 : m ≤ 64
        · have := (wwRun_bd ps ps.length).2.1.1
          rw [ww_yes HL.out h64] at hz ⊢
          rw [HL.out] at this
          simp only at hz ⊢
          omega
        · rw [ww_no HL.out h64]
      have EB := hide (ww_none hno)
      have X1 := hide (fun W (I : IsBools W a1 m c1 ps) => impl_WidestWindow a1 m c1 ps W I (by omega))
      have X2 := hide (fun W (I : IsBools W a1 m c1 ps) => impl_BestDelay a1 m c1 ps W I (by omega))
      have X4 := hide (fun W (I : IsBools W a1 m c1 ps) => spec_WidestWindow a1 m c1 ps W I (by omega))
      rw [hno] at X1 X4
      rw [EB.out] at X2
      have X5 := hide (fun A C W (I : IsBools W A 2 C [false, true]) => impl_BestDelay A 2 C [false, true] W I (by omega))
      rw [HFT.out] at X5
      clear hz hz0 hno
      go_wp2_with fail
      refine (X1.out _ I9.out).mono ?_
      rintro e w1 ⟨rfl, h1⟩
      have s1 := h1.size
      try simp only [World.size_alloc, World.size_setCell, World.size_drew, World.heap_drewN] at s1
      have H1 : Below v1.heap.size v1 w1 := bthen (by go_grown) h1 (by go_size)
      have C1 := (bcell H1).1; have F1 := (bcell H1).2
      have I1 := hide (I9.out.below h1 (Nat.le_refl _))
      go_wp2_with fail
      refine (X2.out _ I1.out).mono ?_
      rintro e w2 ⟨rfl, h2⟩
      have s2 := h2.size
      try simp only [World.size_alloc, World.size_setCell, World.size_drew, World.heap_drewN] at s2
      have H2 : Below v1.heap.size v1 w2 := bthen (by go_grown) h2 (by go_size)
      have C2 := (bcell H2).1; have F2 := (bcell H2).2
      have I2 := hide (I1.out.below h2 (Nat.le_refl _))
      go_wp2_with fail
      refine (X4.out _ I2.out).mono ?_
      rintro e w3 ⟨rfl, h3⟩
      have s3 := h3.size
      try simp only [World.size_alloc, World.size_setCell, World.size_drew, World.heap_drewN] at s3
      have H3 : Below v1.heap.size v1 w3 := bthen (by go_grown) h3 (by go_size)
      have C3 := (bcell H3).1; have F3 := (bcell H3).2
      go_wp2_with fail
      refine (X5.out _ _ _ (two_bools _ _)).mono ?_
      rintro e w4 ⟨rfl, h4⟩
      have s4 := h4.size
      try simp only [World.size_alloc, World.size_setCell, World.size_drew, World.heap_drewN] at s4
      have H4 : Below v1.heap.size v1 w4 := bthen (by go_grown) h4 (by go_size)
      have C4 := (bcell H4).1; have F4 := (bcell H4).2
      go_wp2_with fail
      go_ret
      exact ⟨rfl, hB1.trans (H4.mono hB1.size)⟩
  · go_enter Try.func9, Try.ntmps9
    go_wp2_with fail
    refine (laws_big_yes a n c _ hm hc hs).mono ?_
    rintro e w' ⟨rfl, rfl⟩
    go_wp2_with fail
    go_ret
    exact ⟨rfl, by go_grown⟩

set_option maxRecDepth 100000 in
theorem FnWindow_lifted (os : Os) (started : os.Started) (H : Type) (enc : TypeId × Value → H) :
    ReturnsInHanded {} Try.checked os 9 .any (Rows.fnWindowSpec.pre6 enc Try.prog Try.f9 Rows.fnWindowRow.domain false) (Rows.fnWindowSpec.post enc Try.prog Try.f9 false true false false) := by
  refine returnsInHanded_of_change (C := Try.checked) try_own started (by kernel_rfl) Try.func9
    (ChangeSpec.witness6 (enc := enc) (C := Try.checked) false ⟨#[], #[.slice none 0 0], []⟩ 8 (by kernel_rfl) (by kernel_rfl) (by kernel_rfl) (by kernel_rfl)) ?_
  intro W base args ds gs before hval0 hW _ _
  have hval : ∀ (j : Nat) t v, Try.f9.params[j]? = some t → args[j]? = some v → Value.okWide Try.prog W .any base t v := hval0
  have hW' := hW
  obtain ⟨p, q, hA0, hV, rfl, hfz, hnd⟩ := hW
  have hA : DataW.TrodAll enc Try.prog W 0 (fun _ => true) true Try.f9.params.toList args.toList ds p := hA0
  rw [Try.params9] at hA hval
  obtain ⟨v0, vs0, d0, ds0, p0, q0, hargs, rfl, rfl, h0, r0⟩ := trodAll_cons hA
  obtain ⟨rfl, rfl, rfl⟩ := trodAll_nil r0
  obtain rfl : args = #[v0] := by cases args; simp_all
  obtain ⟨rfl, rfl⟩ := trodVars_none hV
  have k0 := h0
  have lt0 : ∀ x ∈ p0, x.block < W.heap.size := by obtain ⟨m, hm⟩ := k0; exact DataW.trod_lt m _ _ _ hm
  obtain ⟨b_x0, m_x0, l_x0, rfl⟩ := okWide_slice Try.underlying38 (hval 0 38 v0 rfl rfl)
  obtain ⟨fu0, h0⟩ := h0
  obtain ⟨a_x0, n_x0, c_x0, x0, e_x0, w_x0⟩ := isBytes_of Try.underlying38 Try.underlying5 (by kernel_rfl) h0
  simp only [Value.cells, List.cons.injEq, and_true] at e_x0
  obtain ⟨q1, q2, q3⟩ : b_x0 = a_x0 ∧ m_x0 = n_x0 ∧ l_x0 = c_x0 := by simpa using e_x0
  replace q1 := q1.symm; replace q2 := q2.symm; replace q3 := q3.symm; subst q1 q2 q3
  clear hA0 hval0
  refine (FnWindow_walk a_x0 n_x0 c_x0 x0 W w_x0).mono fun e W' ⟨he, bel⟩ => ?_
  subst he
  exact ⟨_, rfl, _, _, _, [], _, [], hW', trodAll_mk1 (shut_bool Try.underlying4 _), (trodAll_cons_mk (Below.trod try_laidOut (by kernel_rfl) (of_decide_eq_true (by kernel_rfl)) k0 bel lt0) trodAll_mk0), rfl, bel.frame _, fun h => by cases h⟩

theorem FnWindow_holds : Rows.FnWindowSaid :=
  OpenClaim.holds_of_wide 9 Try.f9 rfl rfl rfl rfl rfl rfl rfl ⟨rfl, rfl, rfl, rfl, rfl⟩ rfl rfl rfl rfl rfl (by kernel_rfl) Try.func9 (by kernel_rfl)
    (of_decide_eq_true (by kernel_rfl)) (by unfold Func.isWrapper; rw [if_neg (of_decide_eq_false (by kernel_rfl))]; exact ⟨rfl, rfl⟩)
    (fun os started H enc _ => FnWindow_lifted os started H enc)
#print axioms FnWindow_holds
end Go.Proofs.Ytboejjplclaifaa
