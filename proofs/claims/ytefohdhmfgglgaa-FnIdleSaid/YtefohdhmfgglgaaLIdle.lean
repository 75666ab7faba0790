/- Idle cycles are counted until there is work: for every drawn input FnIdle answers true. No condition. -/
import Derived.Test.YtefohdhmfgglgaaPlaces
import Derived.Test.YtefohdhmfgglgaaPower
import Derived.Deep.RegionHeld3
set_option linter.unusedSimpArgs false
set_option linter.unusedVariables false
namespace Go.Proofs.Ytefohdhmfgglgaa
open Go.RowKit Go.ChangeShapes Go.WideShapes Go.ChangeAt Go.Joins Go.Deep
open Go.ChangeMaps (open_string shut_string)

theorem powIdle_no (i : Int) (h0 : 0 ≤ i) (h1 : i ≤ 100) : powIdle 0 0 i false = i + 1 := by
  unfold powIdle
  rw [if_pos (powOkB_true.2 ⟨by omega, by omega, by omega⟩)]
  simp only [Bool.false_eq_true, if_false]
  omega
theorem powIdle_yes (i : Int) (h0 : 0 ≤ i) (h1 : i ≤ 100) : powIdle 0 0 i true = 0 := by
  unfold powIdle
  rw [if_pos (powOkB_true.2 ⟨by omega, by omega, by omega⟩)]
  simp
theorem powWant_idle (i : Int) (h0 : 0 ≤ i) (h1 : i ≤ 100) : powWant 10 30 0 0 i false = if 30 ≤ i then 8 else if 10 ≤ i then 6 else 0 := by
  unfold powWant
  rw [if_pos ⟨by decide, powOkB_true.2 ⟨by omega, by omega, by omega⟩⟩]
  simp

theorem fld_power (s t i : Int) (w : World) : (Instr.field 37 (.agg #[.int .i64 s, .int .i64 t, .int .i64 i]) 2).run Try.prog w = .ok (.int .i64 i) w := by kernel_rfl
theorem idle_no (i : Int) (w : World) (h0 : 0 ≤ i) (h1 : i ≤ 100) :
    Calls Try.prog 30 #[.agg #[.int .i64 0, .int .i64 0, .int .i64 i], .bool false] w fun e w' => e = .returned (.agg #[.int .i64 0, .int .i64 0, .int .i64 (i + 1)]) ∧ Below w.heap.size w w' := by
  have := impl_PowerIdle 0 0 i false w
  rw [powIdle_no i h0 h1] at this
  exact this
theorem idle_yes (i : Int) (w : World) (h0 : 0 ≤ i) (h1 : i ≤ 100) :
    Calls Try.prog 30 #[.agg #[.int .i64 0, .int .i64 0, .int .i64 i], .bool true] w fun e w' => e = .returned (.agg #[.int .i64 0, .int .i64 0, .int .i64 0]) ∧ Below w.heap.size w w' := by
  have := impl_PowerIdle 0 0 i true w
  rw [powIdle_yes i h0 h1] at this
  exact this
theorem want_idle (i : Int) (w : World) (h0 : 0 ≤ i) (h1 : i ≤ 100) :
    Calls Try.prog 33 #[.agg #[.int .i64 10, .int .i64 30], .agg #[.int .i64 0, .int .i64 0, .int .i64 i], .bool false] w fun e w' => e = .returned (.int .i64 (if 30 ≤ i then 8 else if 10 ≤ i then 6 else 0)) ∧ Below w.heap.size w w' := by
  have := impl_PowerWant 10 30 0 0 i false w
  rw [powWant_idle i h0 h1] at this
  exact this

set_option maxHeartbeats 1000000 in
theorem FnIdle_walk (a : Option Addr) (n c : Nat) (zs : List Int) (w : World) (ha : IsInts .u8 w a n c zs) :
    Calls Try.prog 12 #[.slice a n c] w fun e w' => e = .returned (.bool true) ∧ Below w.heap.size w w' := by
  have hm : c ≤ 9223372036854775807 := ha.2.2.1
  have hc := ha.2.1
  by_cases hs : n ≤ 1048576
  · have HA := hide ha
    clear ha
    go_enter Try.func12, Try.ntmps12
    go_wp2_with fail
    refine (laws_big a n c _ hs).mono ?_
    rintro e w' ⟨rfl, rfl⟩
    go_wp2_with fail
    refine (spec_DrawPlaces a n c zs w HA.out hs).mono ?_
    rintro e v1 ⟨a1, c1, ps, rfl, hown, hpl, hpb, hB1⟩
    obtain ⟨g, rfl, hg0, hg1, hcell⟩ := own_some hown (by omega)
    have hp0 := hcell 0 (by omega)
    obtain ⟨P0, hP⟩ : ∃ z, ps[0]? = some z := ⟨_, List.getElem?_eq_getElem (by omega)⟩
    have hPb := hpb P0 (List.mem_of_getElem? hP)
    rw [List.getElem?_map, hP] at hp0
    simp only [Option.map_some] at hp0
    obtain ⟨P, rfl⟩ := Int.eq_ofNat_of_zero_le hPb.1
    have hPb1 := hPb.2
    clear hcell hown hpl hpb hP hPb
    obtain ⟨m, hm'⟩ : ∃ m : Nat, m = P % 40 := ⟨_, rfl⟩
    have hmlt : m < 40 := by omega
    have hme : (P : Int) % 40 = (m : Int) := by omega
    have HM := hide hm'
    clear hm'
    go_wp2_with fail
    go_loopw [5] (fun i wr => ∃ k : Nat, k ≤ m ∧ i = .int .i64 k ∧ Below v1.heap.size v1 wr ∧ v1.heap.size < wr.heap.size ∧ wr.cell? ⟨v1.heap.size, 0, none⟩ = some (.int .i64 0) ∧ wr.cell? ⟨v1.heap.size, 1, none⟩ = some (.int .i64 0) ∧ wr.cell? ⟨v1.heap.size, 2, none⟩ = some (.int .i64 k) ∧ (∀ o, wr.frozen? ⟨v1.heap.size, o, none⟩ = false)) (fun i _ => m - (intOf i).toNat)
    case atStart => exact ⟨0, by omega, rfl, by go_grown, by simp, by simp, by simp, by simp, by simp⟩
    case round =>
      obtain ⟨k, hk, rfl, hB, hsz, e0, e1, e2, hf⟩ := hrel
      have ep := (hB.cell (p := ⟨g, 0, none⟩) hg1).trans hp0
      have hn1 : ¬ g = v1.heap.size := by omega
      have hn2 : ¬ v1.heap.size = g := by omega
      have hgr : g < wr.heap.size := by omega
      by_cases hlt : k < m
      · go_wp2_with (first | (go_at_call 30; refine (idle_no _ _ (by omega) (by omega)).mono ?_; rintro e w1 ⟨rfl, h1⟩; (try (have hz0 : wr.heap.size < w1.heap.size := (by have := h1.size; (try simp at this); omega); have hl0 := (fun o => (bcell h1).1 (wr.heap.size) o (by go_size)); have hv0 := (fun o => (bcell h1).2 (wr.heap.size) o (by go_size)))); replace h1 : Below wr.heap.size wr w1 := bthen (by go_grown) h1 (by go_size); obtain ⟨hc1, hf1⟩ := bcell h1; have hzw : v1.heap.size < w1.heap.size := (by have := h1.size; omega); have hB2 : Below v1.heap.size v1 w1 := bthen hB h1 (by omega)))
        go_roundw
        case rel => exact ⟨k + 1, by omega, by go_num, by go_grown, by simp; omega, by simp [go_sem, *], by simp [go_sem, *], by simp [go_sem, *], by simp [go_sem, *]⟩
        case measure => simp [intOf]; omega
      · obtain rfl : k = m := by omega
        rcases (show k < 10 ∨ (10 ≤ k ∧ k < 30) ∨ 30 ≤ k by omega) with h | ⟨h, h'⟩ | h
        all_goals
          go_wp2_with fail
          refine (idle_yes k _ (by omega) (by omega)).mono ?_
          rintro e w1 ⟨rfl, h1⟩
          have s1 := h1.size
          try simp only [World.size_alloc, World.size_setCell, World.size_drew, World.heap_drewN] at s1
          have B1_1 := h1
          have z1_0 : v1.heap.size < w1.heap.size := by omega
          have q1_0 := fun o => (bcell B1_1).1 (v1.heap.size) o (by go_size)
          have f1_0 := fun o => (bcell B1_1).2 (v1.heap.size) o (by go_size)
          have H1 : Below wr.heap.size wr w1 := bthen (by go_grown) h1 (by go_size)
          have C1 := (bcell H1).1; have F1 := (bcell H1).2
          go_wp2_with fail
          refine (want_idle k _ (by omega) (by omega)).mono ?_
          rintro e w2 ⟨rfl, h2⟩
          have s2 := h2.size
          try simp only [World.size_alloc, World.size_setCell, World.size_drew, World.heap_drewN] at s2
          have B2_1 := bnext (by first | (with_reducible exact B1_1) | exact (bgrow B1_1 (by go_size) (by go_grown))) h2 (by go_size)
          have B2_2 := h2
          have z2_0 : v1.heap.size < w2.heap.size := by omega
          have q2_0 := fun o => (bcell B2_1).1 (v1.heap.size) o (by go_size)
          have f2_0 := fun o => (bcell B2_1).2 (v1.heap.size) o (by go_size)
          have z2_1 : w1.heap.size < w2.heap.size := by omega
          have q2_1 := fun o => (bcell B2_2).1 (w1.heap.size) o (by go_size)
          have f2_1 := fun o => (bcell B2_2).2 (w1.heap.size) o (by go_size)
          have H2 : Below wr.heap.size wr w2 := bthen (by go_grown) h2 (by go_size)
          have C2 := (bcell H2).1; have F2 := (bcell H2).2
          go_wp2_with fail
          obtain ⟨x2, rfl⟩ : ∃ W : World, W = w2 := ⟨_, rfl⟩
          obtain ⟨x1, rfl⟩ : ∃ W : World, W = w1 := ⟨_, rfl⟩
          have hgx : g < x2.heap.size := by omega
          have ep2 := (C2 g 0 hgr).trans ep
          have hfd := fld_power
          have hmt : (P : Int).tmod 40 = (k : Int) := by rw [Int.tmod_eq_emod_of_nonneg (by omega)]; omega
          go_region_held3 (fun v => v.cell? ⟨v1.heap.size, 2, none⟩ = some (.int .i64 k) ∧ v.cell? ⟨x1.heap.size, 0, none⟩ = some (.int .i64 0) ∧ v.cell? ⟨x1.heap.size, 1, none⟩ = some (.int .i64 0) ∧ v.cell? ⟨x1.heap.size, 2, none⟩ = some (.int .i64 0) ∧ v.cell? ⟨g, 0, none⟩ = some (.int .i64 P)) (go_keep)
            (first | (go_at_call 30; refine (idle_no 0 _ (by omega) (by omega)).mono ?_; rintro e w1 ⟨rfl, h1⟩; (try (have hz0 : x2.heap.size < w1.heap.size := (by have := h1.size; (try simp at this); omega); have hl0 := (fun o => (bcell h1).1 (x2.heap.size) o (by go_size)); have hv0 := (fun o => (bcell h1).2 (x2.heap.size) o (by go_size)))); replace h1 : Below x2.heap.size x2 w1 := bthen (by go_grown) h1 (by go_size); obtain ⟨hc1, hf1⟩ := bcell h1; have hB2 : Below v1.heap.size v1 w1 := bthen (bthen hB H2 (by omega)) h1 (by omega)))
          go_wp2_with fail
          go_ret
          exact ⟨rfl, hB1.trans (by first | (with_reducible exact hB2.mono hB1.size) | (exact (bdrawn hB2 _).mono hB1.size))⟩
  · go_enter Try.func12, Try.ntmps12
    go_wp2_with fail
    refine (laws_big_yes a n c _ hm hc hs).mono ?_
    rintro e w' ⟨rfl, rfl⟩
    go_wp2_with fail
    go_ret
    exact ⟨rfl, by go_grown⟩

set_option maxRecDepth 100000 in
theorem FnIdle_lifted (os : Os) (started : os.Started) (H : Type) (enc : TypeId × Value → H) :
    ReturnsInHanded {} Try.checked os 12 .any (Rows.fnIdleSpec.pre6 enc Try.prog Try.f12 Rows.fnIdleRow.domain false) (Rows.fnIdleSpec.post enc Try.prog Try.f12 false true false false) := by
  refine returnsInHanded_of_change (C := Try.checked) try_own started (by kernel_rfl) Try.func12
    (ChangeSpec.witness6 (enc := enc) (C := Try.checked) false ⟨#[], #[.slice none 0 0], []⟩ 8 (by kernel_rfl) (by kernel_rfl) (by kernel_rfl) (by kernel_rfl)) ?_
  intro W base args ds gs before hval0 hW _ _
  have hval : ∀ (j : Nat) t v, Try.f12.params[j]? = some t → args[j]? = some v → Value.okWide Try.prog W .any base t v := hval0
  have hW' := hW
  obtain ⟨p, q, hA0, hV, rfl, hfz, hnd⟩ := hW
  have hA : DataW.TrodAll enc Try.prog W 0 (fun _ => true) true Try.f12.params.toList args.toList ds p := hA0
  rw [Try.params12] at hA hval
  obtain ⟨v0, vs0, d0, ds0, p0, q0, hargs, rfl, rfl, h0, r0⟩ := trodAll_cons hA
  obtain ⟨rfl, rfl, rfl⟩ := trodAll_nil r0
  obtain rfl : args = #[v0] := by cases args; simp_all
  obtain ⟨rfl, rfl⟩ := trodVars_none hV
  have k0 := h0
  have lt0 : ∀ x ∈ p0, x.block < W.heap.size := by obtain ⟨m, hm⟩ := k0; exact DataW.trod_lt m _ _ _ hm
  obtain ⟨b_x0, m_x0, l_x0, rfl⟩ := okWide_slice Try.underlying58 (hval 0 58 v0 rfl rfl)
  obtain ⟨fu0, h0⟩ := h0
  obtain ⟨a_x0, n_x0, c_x0, x0, e_x0, w_x0⟩ := isBytes_of Try.underlying58 Try.underlying5 (by kernel_rfl) h0
  simp only [Value.cells, List.cons.injEq, and_true] at e_x0
  obtain ⟨q1, q2, q3⟩ : b_x0 = a_x0 ∧ m_x0 = n_x0 ∧ l_x0 = c_x0 := by simpa using e_x0
  replace q1 := q1.symm; replace q2 := q2.symm; replace q3 := q3.symm; subst q1 q2 q3
  clear hA0 hval0
  refine (FnIdle_walk a_x0 n_x0 c_x0 x0 W w_x0).mono fun e W' ⟨he, bel⟩ => ?_
  subst he
  exact ⟨_, rfl, _, _, _, [], _, [], hW', trodAll_mk1 (shut_bool Try.underlying4 _), (trodAll_cons_mk (Below.trod try_laidOut (by kernel_rfl) (of_decide_eq_true (by kernel_rfl)) k0 bel lt0) trodAll_mk0), rfl, bel.frame _, fun h => by cases h⟩

theorem FnIdle_holds : Rows.FnIdleSaid :=
  OpenClaim.holds_of_wide 12 Try.f12 rfl rfl rfl rfl rfl rfl rfl ⟨rfl, rfl, rfl, rfl, rfl⟩ rfl rfl rfl rfl rfl (by kernel_rfl) Try.func12 (by kernel_rfl)
    (of_decide_eq_true (by kernel_rfl)) (by unfold Func.isWrapper; rw [if_neg (of_decide_eq_false (by kernel_rfl))]; exact ⟨rfl, rfl⟩)
    (fun os started H enc _ => FnIdle_lifted os started H enc)
#print axioms FnIdle_holds
end Go.Proofs.Ytefohdhmfgglgaa
