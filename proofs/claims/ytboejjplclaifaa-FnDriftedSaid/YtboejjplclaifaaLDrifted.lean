/- A window that drifts within the list keeps its width and moves with the drift: for every drawn input FnDrifted answers true. No condition. -/
import Derived.Test.YtboejjplclaifaaDriftedPlain
import Derived.Test.YtboejjplclaifaaPlaces
import Derived.Deep.RegionHeld3
set_option linter.unusedSimpArgs false
set_option linter.unusedVariables false
namespace Go.Proofs.Ytboejjplclaifaa
open Go.RowKit Go.ChangeShapes Go.WideShapes Go.ChangeAt Go.Joins Go.Deep
open Go.ChangeMaps (open_string shut_string)

theorem place_at {v : World} {g m : Nat} {ps : List Int} {hi : Int} (hcell : ∀ j, j < m * 1 → v.cell? ⟨g, j, none⟩ = (ps.map (Value.int .i64))[j]?) (hl : ps.length = m) (hb : ∀ z ∈ ps, 0 ≤ z ∧ z ≤ hi) (j : Nat) (hj : j < m) :
    ∃ P : Nat, v.cell? ⟨g, j, none⟩ = some (.int .i64 P) ∧ (P : Int) ≤ hi := by
  have hz : ps[j]? = some (ps[j]'(by omega)) := List.getElem?_eq_getElem (by omega)
  have hb' := hb _ (List.mem_of_getElem? hz)
  obtain ⟨P, hP⟩ := Int.eq_ofNat_of_zero_le hb'.1
  refine ⟨P, ?_, by omega⟩
  rw [hcell j (by omega), List.getElem?_map, hz, hP]
  rfl

set_option maxHeartbeats 2000000 in
theorem FnDrifted_walk (a : Option Addr) (n c : Nat) (zs : List Int) (w : World) (ha : IsInts .u8 w a n c zs) :
    Calls Try.prog 8 #[.slice a n c] w fun e w' => e = .returned (.bool true) ∧ Below w.heap.size w w' := by
  have hm : c ≤ 9223372036854775807 := ha.2.2.1
  have hc := ha.2.1
  by_cases hs : n ≤ 1048576
  · have HA := hide ha
    clear ha
    obtain ⟨i0, hi, hz0, hz1, hz2⟩ := info_parts info_bool
    go_enter Try.func8, Try.ntmps8
    go_wp2_with fail
    refine (laws_big a n c _ hs).mono ?_
    rintro e w' ⟨rfl, rfl⟩
    go_wp2_with fail
    refine (spec_DrawPlaces a n c zs w HA.out hs).mono ?_
    rintro e v1 ⟨a1, c1, ps, rfl, hown, hpl, hpb, hB1⟩
    obtain ⟨g, rfl, hg0, hg1, hcell⟩ := own_some hown (by omega)
    obtain ⟨P, hp0, hP⟩ := place_at hcell hpl hpb 0 (by omega)
    obtain ⟨Q, hp1, hQ⟩ := place_at hcell hpl hpb 1 (by omega)
    obtain ⟨R, hp2, hR⟩ := place_at hcell hpl hpb 2 (by omega)
    clear hcell hown hpl hpb
    obtain ⟨m, hm'⟩ : ∃ m : Nat, m = P % 10 := ⟨_, rfl⟩
    obtain ⟨t, ht'⟩ : ∃ t : Nat, t = Q % 10 := ⟨_, rfl⟩
    obtain ⟨d, hd'⟩ : ∃ d : Nat, d = R % 19 := ⟨_, rfl⟩
    have hmlt : m < 10 := by omega
    have htlt : t < 10 := by omega
    have hdlt : d < 19 := by omega
    have hme : (P : Int) % 10 = (m : Int) := by omega
    have hte : (Q : Int) % 10 = (t : Int) := by omega
    have hde : (R : Int) % 19 = (d : Int) := by omega
    clear hm' ht' hd'
    go_wp2_with (at_make; refine wpList_make_full _ rfl _ _ 22 rfl v1.heap.size 4 i0 (.bool false) 1 Try.underlying22 hi hz0 hz1 _ _ _ _ 40 rfl rfl rfl rfl (by rw [hz2]; omega) (by unfold maxLen; omega) (Nat.le_refl _) ?_; intro w0 hown hg; have hb0 : Below v1.heap.size v1 w0 := (Below.refl _ _).grown hg (Nat.le_refl _) (fun k h => by cases h))
    go_loopw [7] (fun i wr => ∃ k : Nat, k ≤ m + 1 ∧ i = .int .i64 k ∧ Below v1.heap.size v1 wr ∧ v1.heap.size < wr.heap.size ∧ wr.ownsRow v1.heap.size 4 1 (.slice (some ⟨v1.heap.size, 0, none⟩) 40 40) 40 ((passL (10 + t) k).map Value.bool)) (fun i _ => m + 1 - (intOf i).toNat)
    case atStart =>
      have h3 := (hown.lt v1.heap.size rfl).2
      refine ⟨0, by omega, rfl, hb0, h3, ?_⟩
      have := hown
      rw [Nat.mul_one, show (Value.bool false).cells = #[.bool false] from rfl, toList_madeCells_one] at this
      rw [passL_zero, List.map_replicate]
      exact this
    case round =>
      clear hown hg hb0
      obtain ⟨k, hk, rfl, hB, hsz, hown⟩ := hrel
      have ep2 := (hB.cell (p := ⟨g, 2, none⟩) hg1).trans hp2
      by_cases hlt : k < m + 1
      · obtain ⟨u, e2⟩ : ∃ u, wr.cell? ⟨v1.heap.size, 10 + t + k, none⟩ = some u := ⟨_, (hown.cellAt (10 + t + k) (by omega)).trans (List.getElem?_eq_getElem (by rw [hown.1]; omega))⟩
        have e3 := hown.frozenAt (10 + t + k)
        have hst := hide (hown.stored (10 + t + k) (.bool true)).1
        have h1 : (0 : Int) ≤ 10 + (t : Int) + (k : Int) := by omega
        have h2 : 10 + (t : Int) + (k : Int) < 40 := by omega
        go_wp2
        go_roundw
        case rel =>
          refine ⟨k + 1, by omega, by go_num, hB.setCell (Nat.le_refl _) _, by simpa using hsz, ?_⟩
          have := hst.out
          rw [← List.map_set, passL_next (by omega)] at this
          exact this
        case measure => simp [intOf]; omega
      · obtain rfl : k = m + 1 := by omega
        obtain ⟨B, hBe⟩ : ∃ B : Nat, (B : Int) = ((10 + t : Nat) : Int) + ((d : Int) - 9) := ⟨10 + t + d - 9, by omega⟩
        have X1 := hide (ww_block (by rw [passL_len]; omega) (passL_block (A := 10 + t) (k := m + 1) (by omega)) (by omega))
        have X2 := hide (ww_block (by rw [drift_len, passL_len]; omega) (drift_block (A := 10 + t) (k := m + 1) (B := B) (by_ := (d : Int) - 9) (by omega) hBe (by omega)) (by omega))
        have X3 := hide (drifted_pass (A := 10 + t) (k := m + 1) (by_ := (d : Int) - 9) (by omega) (by omega))
        have X4 := hide (drift_len (passL (10 + t) (m + 1)) ((d : Int) - 9))
        have I0 := hide (isBools_own hown)
        have HD := hide (impl_DriftPass (some ⟨v1.heap.size, 0, none⟩) 40 40 (passL (10 + t) (m + 1)) ((d : Int) - 9) wr I0.out (by omega))
        rw [X3.out, X4.out, passL_len] at HD
        go_wp2_with fail
        refine HD.out.mono ?_
        rintro e w1 ⟨a2, c2, rfl, o1, h1⟩
        have I1 := hide (isBools_own o1)
        clear o1
        have HW := hide (impl_WidestWindow a2 40 c2 _ w1 I1.out (by omega))
        rw [X2.out] at HW
        simp only at HW
        rw [show ((m + 1 : Nat) : Int) = 1 + (m : Int) by omega, show (B : Int) = 10 + (t : Int) + ((d : Int) - 9) by omega] at HW
        go_wp2_with fail
        refine HW.out.mono ?_
        rintro e w2 ⟨rfl, h2⟩
        have I2 := hide (I1.out.below h2 (Nat.le_refl _))
        have I3 := hide ((I0.out.below h1 (Nat.le_refl _)).below h2 (Nat.le_refl _))
        obtain ⟨y, hy⟩ : ∃ y : Int, y = 10 + (t : Int) + (m : Int) / 2 := ⟨_, rfl⟩
        have HX := hide (impl_BestDelay a2 40 c2 _ w2 I2.out (by omega))
        rw [X2.out, bestOf_pos _ _ (by omega), show (B : Int) + (((m + 1 : Nat) : Int) - 1) / 2 = y + ((d : Int) - 9) by omega] at HX
        have HP := hide (fun W (I : IsBools W _ 40 40 (passL (10 + t) (m + 1))) => impl_BestDelay (some ⟨v1.heap.size, 0, none⟩) 40 40 _ W I (by omega))
        rw [X1.out, bestOf_pos _ _ (by omega), show ((10 + t : Nat) : Int) + (((m + 1 : Nat) : Int) - 1) / 2 = y by omega] at HP
        have hy1 : 0 ≤ y := by omega
        have hy2 : y ≤ 100 := by omega
        clear hy
        go_wp2_with fail
        refine HX.out.mono ?_
        rintro e w3 ⟨rfl, h3⟩
        go_wp2_with fail
        refine (HP.out _ (I3.out.below h3 (Nat.le_refl _))).mono ?_
        rintro e w4 ⟨rfl, h4⟩
        go_wp2_with fail
        go_ret
        have s1 := h1.size; have s2 := h2.size; have s3 := h3.size
        exact ⟨rfl, hB1.trans ((bthen (bthen (bthen (bthen hB h1 (by omega)) h2 (by omega)) h3 (by omega)) h4 (by omega)).mono hB1.size)⟩
  · go_enter Try.func8, Try.ntmps8
    go_wp2_with fail
    refine (laws_big_yes a n c _ hm hc hs).mono ?_
    rintro e w' ⟨rfl, rfl⟩
    go_wp2_with fail
    go_ret
    exact ⟨rfl, by go_grown⟩

set_option maxRecDepth 100000 in
theorem FnDrifted_lifted (os : Os) (started : os.Started) (H : Type) (enc : TypeId × Value → H) :
    ReturnsInHanded {} Try.checked os 8 .any (Rows.fnDriftedSpec.pre6 enc Try.prog Try.f8 Rows.fnDriftedRow.domain false) (Rows.fnDriftedSpec.post enc Try.prog Try.f8 false true false false) := by
  refine returnsInHanded_of_change (C := Try.checked) try_own started (by kernel_rfl) Try.func8
    (ChangeSpec.witness6 (enc := enc) (C := Try.checked) false ⟨#[], #[.slice none 0 0], []⟩ 8 (by kernel_rfl) (by kernel_rfl) (by kernel_rfl) (by kernel_rfl)) ?_
  intro W base args ds gs before hval0 hW _ _
  have hval : ∀ (j : Nat) t v, Try.f8.params[j]? = some t → args[j]? = some v → Value.okWide Try.prog W .any base t v := hval0
  have hW' := hW
  obtain ⟨p, q, hA0, hV, rfl, hfz, hnd⟩ := hW
  have hA : DataW.TrodAll enc Try.prog W 0 (fun _ => true) true Try.f8.params.toList args.toList ds p := hA0
  rw [Try.params8] at hA hval
  obtain ⟨v0, vs0, d0, ds0, p0, q0, hargs, rfl, rfl, h0, r0⟩ := trodAll_cons hA
  obtain ⟨rfl, rfl, rfl⟩ := trodAll_nil r0
  obtain rfl : args = #[v0] := by cases args; simp_all
  obtain ⟨rfl, rfl⟩ := trodVars_none hV
  have k0 := h0
  have lt0 : ∀ x ∈ p0, x.block < W.heap.size := by obtain ⟨m, hm⟩ := k0; exact DataW.trod_lt m _ _ _ hm
  obtain ⟨b_x0, m_x0, l_x0, rfl⟩ := okWide_slice Try.underlying38 (hval 0 38 v0 rfl rfl)
  obtain ⟨fu0, h0⟩ := h0
  obtain ⟨a_x0, n_x0, c_x0, x0, e_x0, w_x0⟩ := isBytes_of Try.underlying38 Try.underlying5 (by kernel_rfl) h0
  simp only [Value.cells, List.cons.injEq, and_true] at e_x0
  obtain ⟨q1, q2, q3⟩ : b_x0 = a_x0 ∧ m_x0 = n_x0 ∧ l_x0 = c_x0 := by simpa using e_x0
  replace q1 := q1.symm; replace q2 := q2.symm; replace q3 := q3.symm; subst q1 q2 q3
  clear hA0 hval0
  refine (FnDrifted_walk a_x0 n_x0 c_x0 x0 W w_x0).mono fun e W' ⟨he, bel⟩ => ?_
  subst he
  exact ⟨_, rfl, _, _, _, [], _, [], hW', trodAll_mk1 (shut_bool Try.underlying4 _), (trodAll_cons_mk (Below.trod try_laidOut (by kernel_rfl) (of_decide_eq_true (by kernel_rfl)) k0 bel lt0) trodAll_mk0), rfl, bel.frame _, fun h => by cases h⟩

theorem FnDrifted_holds : Rows.FnDriftedSaid :=
  OpenClaim.holds_of_wide 8 Try.f8 rfl rfl rfl rfl rfl rfl rfl ⟨rfl, rfl, rfl, rfl, rfl⟩ rfl rfl rfl rfl rfl (by kernel_rfl) Try.func8 (by kernel_rfl)
    (of_decide_eq_true (by kernel_rfl)) (by unfold Func.isWrapper; rw [if_neg (of_decide_eq_false (by kernel_rfl))]; exact ⟨rfl, rfl⟩)
    (fun os started H enc _ => FnDrifted_lifted os started H enc)
#print axioms FnDrifted_holds
end Go.Proofs.Ytboejjplclaifaa
