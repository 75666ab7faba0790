/- A version can be decoded from its text, a truncated text holds none: for every drawn input FnErrorText answers true. No condition. -/
import Derived.Test.YtheifhjnbpbkhaaDoorErrP
import Derived.Test.YtheifhjnbpbkhaaDoorPlacesT
import Derived.Test.YtheifhjnbpbkhaaDoorDecE
import Derived.Test.YtheifhjnbpbkhaaDoorDoor
import Derived.Deep.RegionHeld3
set_option linter.unusedSimpArgs false
set_option linter.unusedVariables false
namespace Go.Proofs.YtheifhjnbpbkhaaDoor
open Go.RowKit Go.ChangeShapes Go.WideShapes Go.ChangeAt Go.Joins Go.Deep
open Go.ChangeMaps (open_string shut_string)
set_option maxRecDepth 100000 in
set_option maxHeartbeats 1000000 in
theorem laws_sameErrorEntry (a b : Option Addr) (n c c' : Nat) (es : List En) (w : World) (ha : IsStructs enF 3 w a n c es) (hb : IsStructs enF 3 w b n c' es) :
    Calls Tryd.prog 33 #[.slice a n c, .slice b n c'] w fun e w' => e = .returned (.bool true) ∧ Below w.heap.size w w' := by
  have HA := hide ha; have HB := hide hb
  have hc := ha.2.1; have hm : c ≤ 9223372036854775807 := ha.2.2.1
  clear ha hb
  go_enter Tryd.func33, Tryd.ntmps33
  go_wp2
  go_loopw [5] (fun i wr => ∃ k : Nat, k ≤ n ∧ i = .int .i64 k ∧ Below w.heap.size w wr) (fun i _ => n - (intOf i).toNat)
  case atStart => exact ⟨0, by omega, rfl, Below.refl _ _⟩
  case round =>
    obtain ⟨k, hk, rfl, hB⟩ := hrel
    by_cases hlt : k < n
    · obtain ⟨e, b1, o1, he, rfl, hlb, hcell⟩ := HA.out.get enF_len (by omega) hlt
      obtain ⟨e', b2, o2, he', rfl, hlb', hcell'⟩ := HB.out.get enF_len (by omega) hlt
      obtain rfl : e' = e := by rw [he] at he'; injection he' with h; exact h.symm
      have e0 : wr.cell? ⟨b1, o1 + k * 3, none⟩ = some (.int .i64 e'.line) := (hB.cell (p := ⟨b1, o1 + (k * 3 + 0), none⟩) hlb).trans (hcell 0 _ rfl)
      have e1 : wr.cell? ⟨b1, o1 + k * 3 + 1, none⟩ = some (.int .i64 e'.code) := (hB.cell (p := ⟨b1, o1 + (k * 3 + 1), none⟩) hlb).trans (hcell 1 _ rfl)
      have e2 : wr.cell? ⟨b1, o1 + k * 3 + 2, none⟩ = some (.int .i64 e'.times) := (hB.cell (p := ⟨b1, o1 + (k * 3 + 2), none⟩) hlb).trans (hcell 2 _ rfl)
      have f0 : wr.cell? ⟨b2, o2 + k * 3, none⟩ = some (.int .i64 e'.line) := (hB.cell (p := ⟨b2, o2 + (k * 3 + 0), none⟩) hlb').trans (hcell' 0 _ rfl)
      have f1 : wr.cell? ⟨b2, o2 + k * 3 + 1, none⟩ = some (.int .i64 e'.code) := (hB.cell (p := ⟨b2, o2 + (k * 3 + 1), none⟩) hlb').trans (hcell' 1 _ rfl)
      have f2 : wr.cell? ⟨b2, o2 + k * 3 + 2, none⟩ = some (.int .i64 e'.times) := (hB.cell (p := ⟨b2, o2 + (k * 3 + 2), none⟩) hlb').trans (hcell' 2 _ rfl)
      have h1 : (0 : Int) ≤ (k : Int) := by omega
      have h2 : (k : Int) < (n : Int) := by omega
      clear hcell hcell' he he'
      go_wp2_with fail
      go_quiet (fail)
      go_wp2_with fail
      go_roundw
      case rel => exact ⟨k + 1, by omega, by go_num, bdrawn hB _⟩
      case measure => simp [intOf]; omega
    · go_wp2
      go_ret
      exact ⟨rfl, hB⟩
theorem keep_p {W v : World} {q o : Nat} {P : Int} (hq : W.cell? ⟨q, o, none⟩ = some (.int .i64 P)) (hql : q < W.heap.size) (hb : Below W.heap.size W v) : v.cell? ⟨q, o, none⟩ = some (.int .i64 P) ∧ Below W.heap.size W v :=
  ⟨((bcell hb).1 q o hql).trans hq, hb⟩
set_option maxRecDepth 100000 in
set_option maxHeartbeats 8000000 in
theorem FnErrorText_walk (a : Option Addr) (n c : Nat) (zs : List Int) (w : World) (ha : IsInts .u8 w a n c zs) (hG : Good w) :
    Calls Tryd.prog 8 #[.slice a n c] w fun e w' => e = .returned (.bool true) ∧ Below w.heap.size w w' := by
  have hm : c ≤ 9223372036854775807 := ha.2.2.1
  have hc := ha.2.1
  by_cases hs : n ≤ 1048576
  · have HA := hide ha; have HG := hide hG
    clear ha hG
    obtain ⟨i0_En, hi_En, hz0_En, hz1_En, hz2_En⟩ := info_parts info_En
    go_enter Tryd.func8, Tryd.ntmps8
    go_wp2_with fail
    refine (laws_big a n c _ hs).mono ?_
    rintro e w' ⟨rfl, rfl⟩
    go_wp2_with fail
    refine (spec_DrawPlaces a n c zs _ HA.out hs).mono ?_
    rintro e v2 ⟨a1, c1, ps, rfl, hown, hpl, hpb, hB2⟩
    have s2 := hB2.size
    obtain ⟨pg, rfl, hpg0, hpg1, hcell⟩ := own_some hown (by omega)
    have hpc : ∀ j, j < 12 → ∃ z : Int, v2.cell? ⟨pg, j, none⟩ = some (.int .i64 z) ∧ 0 ≤ z ∧ z ≤ 9999 := fun j hj => by
      have h1 := hcell j (by omega)
      have h2 : ps[j]? = some ps[j] := List.getElem?_eq_getElem (by omega)
      rw [List.getElem?_map, h2] at h1
      exact ⟨ps[j], h1, hpb _ (List.mem_of_getElem? h2)⟩
    obtain ⟨P0, q0, b0, b0'⟩ := hpc 0 (by omega)
    obtain ⟨P10, q10, b10, b10'⟩ := hpc 10 (by omega)
    obtain ⟨P11, q11, b11, b11'⟩ := hpc 11 (by omega)
    have HP := hide hpc; have HQ := hide (And.intro q0 (And.intro q10 q11)); have HB2 := hide hB2
    obtain ⟨m0, hm0, hm8⟩ : ∃ m : Nat, P0.tmod 9 = (m : Int) ∧ m < 9 := by
      rw [Int.tmod_eq_emod_of_nonneg b0]
      exact ⟨(P0 % 9).toNat, by omega, by omega⟩
    obtain ⟨num, hnum⟩ : ∃ z : Int, z = 1 + P10 := ⟨_, rfl⟩
    have wnum : IntKind.i64.wrap (1 + P10) = num := by rw [hnum]; exact IntWalk.i64_in _ (by omega)
    clear hcell hpc hown hB2 hpl hpb q0 q10 q11
    go_wp2_with fail
    go_loopw [5, 4] (fun i l wr => ∃ (k N : Nat) (a' : Option Addr) (c' : Nat) (es : List En), k ≤ m0 ∧ i = .int .i64 k ∧ l = .slice a' N c' ∧ wr.ownsRow v2.heap.size 58 3 (.slice a' N c') N (es.flatMap enF) ∧ es.length = N ∧ errorsOkB es = true ∧ Below v2.heap.size v2 wr) (fun i _ _ => m0 - (intOf i).toNat)
    case atStart => exact ⟨0, 0, _, _, [], by omega, rfl, rfl, World.ownsRow_made v2 #[] 0 (Nat.le_refl _) (by decide) rfl, rfl, by decide, by go_grown⟩
    case round =>
      obtain ⟨k, N, a', c', es, hk, rfl, rfl, hrow, hN, hes, hBr⟩ := hrel
      have sr := hBr.size
      have HR := hide hrow; have HE := hide hes; have HBr := hide hBr; have HN := hide hN
      have hN6 : N ≤ 6 := by rw [← hN]; exact (okP_of hes).1
      have e_p0 := ((bcell hBr).1 pg 0 (by omega)).trans HQ.out.1
      clear hrow hes hBr hN
      by_cases hlt : k < m0
      · have hltz : (k : Int) < (m0 : Int) := by omega
        go_wp2_with fail
        have wk : IntKind.i64.wrap (1 + (k : Int)) = (k : Int) + 1 := (IntWalk.i64_in _ (by omega)).trans (by omega)
        have wk2 : IntKind.i64.wrap ((k : Int) + 1) = (k : Int) + 1 := IntWalk.i64_in _ (by omega)
        have k0 : (0 : Int) ≤ (k : Int) + 1 := by omega
        have k12 : (k : Int) + 1 < 12 := by omega
        obtain ⟨P, hP, bP, bP'⟩ := HP.out (k + 1) (by omega)
        have q1 := ((bcell HBr.out).1 pg (k + 1) (by omega)).trans hP
        have hpl : pg < wr.heap.size := by omega
        obtain ⟨line, hline⟩ : ∃ z, P.tmod 5 = z := ⟨_, rfl⟩
        obtain ⟨c0, hc0⟩ : ∃ z, P.tmod 2 = z := ⟨_, rfl⟩
        have bl : 0 ≤ line ∧ line ≤ 4 := by rw [← hline, Int.tmod_eq_emod_of_nonneg bP]; omega
        have bc : 0 ≤ c0 ∧ c0 ≤ 1 := by rw [← hc0, Int.tmod_eq_emod_of_nonneg bP]; omega
        have wc1 : IntKind.i64.wrap (1 + c0) = 1 + c0 := IntWalk.i64_in _ (by omega)
        obtain ⟨N2, hN2⟩ : ∃ x, (addL es line (1 + c0)).length = x := ⟨_, rfl⟩
        go_region_held3 (fun u => u.cell? ⟨pg, k + 1, none⟩ = some (.int .i64 P) ∧ Below wr.heap.size wr u) (first | (refine keep_p q1 hpl ?_; go_grown)) (first | (go_at_call 32; refine (impl_ErrorAdd _ _ _ es line (1 + c0) N2 _ (isStructs_own enF_len (by omega) (own_next HR.out (by go_grown))) (by omega) hN2).mono ?_; rintro ex y1 ⟨a3, c3, rfl, o3, h3⟩; have hW_y1 : Below wr.heap.size wr y1 := bthenS (by go_grown) h3; have l_y1 := hW_y1.size; have HO3 := hide o3; clear o3))
        all_goals
          go_wp2_with fail
          go_roundw
          case rel => exact ⟨k + 1, N2, a3, c3, _, by omega, by simp, rfl, own_base HO3.out (show v2.heap.size ≤ wr.heap.size by omega), hN2, addL_ok HE.out, bthen HBr.out hW_y1 (by omega)⟩
          case measure => simp [intOf]; omega
      · have hltz : ¬ (k : Int) < (m0 : Int) := by omega
        obtain rfl : k = m0 := by omega
        have hok : encOk (1 + P10) es = true := by
          unfold encOk; rw [HE.out, Bool.true_and]; exact btw_mk (by omega) (by omega)
        have ht : enc (1 + P10) es = encB (1 + P10) es := if_pos hok
        obtain ⟨tl, htl⟩ : ∃ tl, encB (1 + P10) es = tl := ⟨_, rfl⟩
        have hdec := dcdI_enc hok
        have hcut : ∀ k, k < tl.length → dcdI (tl.take k) = none := fun k hk => by rw [← htl] at hk ⊢; exact dcd_cut hk
        have hl := (encB_len hok).1
        have hl1 : tl.length ≠ 0 := by rw [← htl]; exact fun h => encB_ne _ _ (List.length_eq_zero_iff.1 h)
        rw [htl] at ht hdec hl
        obtain ⟨S, hS⟩ : ∃ S, strOf tl = S := ⟨_, rfl⟩
        have hSL : toL S = tl := by rw [← hS]; rfl
        have hSz : S.size = tl.length := by rw [← hSL]; unfold toL; simp
        have e_p10 := ((bcell HBr.out).1 pg 10 (by omega)).trans HQ.out.2.1
        have HSL := hide hSL; have HT := hide ht; have HD := hide hdec; have HCUT := hide hcut
        have z1 : (1 : Int) ≤ (S.size : Int) := by omega
        have z2 : S.size ≤ 200 := by omega
        have hmx : max (S.size : Int) 1 = (S.size : Int) := by omega
        have hzne : ¬ (S.size : Int) = 0 := by omega
        obtain ⟨q, hq, hq2⟩ : ∃ q : Nat, P11.tmod (S.size : Int) = (q : Int) ∧ q < S.size := by
          rw [Int.tmod_eq_emod_of_nonneg b11]
          have h1 := Int.emod_nonneg P11 hzne
          have h2 := Int.emod_lt_of_pos P11 (b := (S.size : Int)) (by omega)
          exact ⟨(P11 % (S.size : Int)).toNat, by omega, by omega⟩
        have HSZ := hide hSz
        clear hok htl hdec hcut hl hl1 hSL hSz ht
        go_wp2_with fail
        refine (impl_EncodeErrors _ _ _ _ es tl _ (isStructs_own enF_len (by omega) HR.out) (by omega) HT.out (HG.out.below (bthen HB2.out HBr.out (by omega)))).mono ?_
        rintro e w5 ⟨rfl, hB5⟩
        have s5 := hB5.size
        have HB5 := hide hB5
        clear hB5 HT
        rw [hS]
        go_wp2_with fail
        refine (impl_DecodeErrors S (1 + P10) N es true _ (by omega) (by rw [HSL.out, HD.out]; rfl) (by rw [HSL.out, HD.out]; rfl) HN.out (by rw [HSL.out, HD.out]; rfl) (HG.out.below (bthen (bthen HB2.out HBr.out (by omega)) HB5.out (by omega)))).mono ?_
        rintro e w6 ⟨a6, c6, rfl, o6, hB6⟩
        have s6 := hB6.size
        have HB6 := hide hB6; have HO6 := hide o6
        clear hB6 o6
        have e_p11 := ((bcell (bthen (bthen HBr.out HB5.out (by omega)) HB6.out (by omega))).1 pg 11 (by omega)).trans HQ.out.2.2
        go_wp2_with fail
        have hex : toL (S.extract 0 q) = tl.take q := by
          unfold toL; rw [Go.Lib.extract_from_zero]; exact congrArg (List.take q) HSL.out
        have hcn : dcdI (toL (S.extract 0 q)) = none := by rw [hex]; exact HCUT.out q (by have := HSZ.out; omega)
        refine (impl_DecodeErrors (S.extract 0 q) 0 0 [] false _ (by simp; omega) (by rw [hcn]; rfl) (by rw [hcn]; rfl) rfl (by rw [hcn]; rfl) (HG.out.below (bthen (bthen (bthen HB2.out HBr.out (by omega)) HB5.out (by omega)) HB6.out (by omega)))).mono ?_
        rintro e w7 ⟨a7, c7, rfl, o7, hB7⟩
        have s7 := hB7.size
        have HB7 := hide hB7
        clear hB7 o7 hex hcn
        have e_p10b := ((bcell (bthen (bthen (bthen HBr.out HB5.out (by omega)) HB6.out (by omega)) HB7.out (by omega))).1 pg 10 (by omega)).trans HQ.out.2.1
        go_wp2_with fail
        refine (laws_sameErrorEntry _ _ N _ _ es _ (isStructs_own enF_len (by omega) (own_next HO6.out HB7.out)) (isStructs_own enF_len (by omega) (own_next (own_next (own_next HR.out HB5.out) HB6.out) HB7.out))).mono ?_
        rintro e w8 ⟨rfl, hB8⟩
        have n6 : (N : Int) ≤ 6 := by omega
        go_wp2_with fail
        go_ret
        exact ⟨rfl, by exact (bthen (bthen (bthen (bthen (bthen HB2.out HBr.out (by omega)) HB5.out (by omega)) HB6.out (by omega)) HB7.out (by omega)) hB8 (by omega))⟩
  · go_enter Tryd.func8, Tryd.ntmps8
    go_wp2_with fail
    refine (laws_big_yes a n c _ hm hc hs).mono ?_
    rintro e w' ⟨rfl, rfl⟩
    go_wp2_with fail
    go_ret
    exact ⟨rfl, Below.refl _ _⟩
set_option maxRecDepth 100000 in
theorem FnErrorText_lifted (os : Os) (started : os.Started) (H : Type) (enc : TypeId × Value → H) :
    ReturnsInHanded {} Tryd.checked os 8 .any (fun w args => (Rows.fnErrorTextSpec.pre enc Tryd.prog Tryd.f8 [] false w args ∧ laidMetH Tryd.prog Rows.fnErrorTextRow.laid w) ∧ sizedMet enc Tryd.prog Tryd.f8 (OpenSpec.ofChange Rows.fnErrorTextSpec) false w args)
      (Rows.fnErrorTextSpec.post enc Tryd.prog Tryd.f8 false true false false) := by
  refine door_wrap (C := Tryd.checked) (X := fun w _ => laidMetH Tryd.prog Rows.fnErrorTextRow.laid w) (fun _ _ _ hh h => h.of_heap hh) try_own started (by kernel_rfl) Tryd.func8
    (ChangeSpec.witness_shaped (enc := enc) (C := Tryd.checked) (os := os) (X := fun w _ => laidMetH Tryd.prog Rows.fnErrorTextRow.laid w) false (World.laidAll Tryd.prog os Rows.fnErrorTextRow.laid) #[.slice none 0 0] 8 (World.laidAll_os _ _ _)
      (World.shaped_of_ZipB (by kernel_rfl) (by kernel_rfl)) (by kernel_rfl) (by kernel_rfl) (by kernel_rfl)
      (by rw [MakeChecks.laidMetH_plain _ _ _ (by kernel_rfl)]; exact laidMet_laidAll _ (by kernel_rfl) (by kernel_rfl))) ?_
  intro W base args ds gs before hval0 hW _ _ hL hSh _
  rw [MakeChecks.laidMetH_plain _ _ _ (by kernel_rfl)] at hL
  have hgood : Good W := good_of hL hSh
  have hval : ∀ (j : Nat) t v, Tryd.f8.params[j]? = some t → args[j]? = some v → Value.okWide Tryd.prog W .any base t v := hval0
  have hW' := hW
  obtain ⟨p, q, hA0, hV, rfl, hfz, hnd⟩ := hW
  have hA : DataW.TrodAll enc Tryd.prog W 0 (fun _ => true) true Tryd.f8.params.toList args.toList ds p := hA0
  rw [Tryd.params8] at hA hval
  obtain ⟨v0, vs0, d0, ds0, p0, q0, hargs, rfl, rfl, h0, r0⟩ := trodAll_cons hA
  obtain ⟨rfl, rfl, rfl⟩ := trodAll_nil r0
  obtain rfl : args = #[v0] := by cases args; simp_all
  obtain ⟨rfl, rfl⟩ := trodVars_none hV
  try simp only [List.append_nil] at hW'
  have k0 := h0
  have lt0 : ∀ x ∈ p0, x.block < W.heap.size := by obtain ⟨m, hm⟩ := k0; exact DataW.trod_lt m _ _ _ hm
  obtain ⟨b_x0, m_x0, l_x0, rfl⟩ := okWide_slice Tryd.underlying48 (hval 0 48 v0 rfl rfl)
  obtain ⟨fu0, h0⟩ := h0
  obtain ⟨a_x0, n_x0, c_x0, x0, e_x0, w_x0⟩ := isBytes_of Tryd.underlying48 Tryd.underlying5 (by kernel_rfl) h0
  simp only [Value.cells, List.cons.injEq, and_true] at e_x0
  obtain ⟨q1, q2, q3⟩ : b_x0 = a_x0 ∧ m_x0 = n_x0 ∧ l_x0 = c_x0 := by simpa using e_x0
  replace q1 := q1.symm; replace q2 := q2.symm; replace q3 := q3.symm; subst q1 q2 q3
  clear hA0 hval0
  refine (FnErrorText_walk a_x0 n_x0 c_x0 x0 W w_x0 hgood).mono fun e W' ⟨he, bel⟩ => ?_
  subst he
  exact ⟨_, rfl, _, _, _, [], _, [], hW', trodAll_mk1 (shut_bool Tryd.underlying4 _), (trodAll_cons_mk (Below.trod try_laidOut (by kernel_rfl) (of_decide_eq_true (by kernel_rfl)) k0 bel lt0) trodAll_mk0), rfl, bel.frame _, fun h => by cases h⟩

theorem FnErrorText_holds : Rows.FnErrorTextSaid :=
  OpenClaim.holds_of_wide 8 Tryd.f8 rfl rfl rfl rfl rfl rfl rfl ⟨rfl, rfl, rfl, rfl, rfl⟩ rfl rfl rfl rfl rfl (by kernel_rfl) Tryd.func8 (by kernel_rfl)
    (of_decide_eq_true (by kernel_rfl)) (by unfold Func.isWrapper; rw [if_neg (of_decide_eq_false (by kernel_rfl))]; exact ⟨rfl, rfl⟩)
    (fun os started H enc _ => FnErrorText_lifted os started H enc)
theorem FnErrorText_card : Rows.FnErrorTextCardSaid :=
  Claim7.holds_tied_plain_at .later [] [.data, .data, .data, .data, .pinned] true (true, "db3932f5ca78fea8835bc8ddd515987acb19a4f8921aa1f4aa3ed976f54975c6") false FnErrorText_holds (fun _ h => by cases h) (by kernel_rfl) (fun _ h => by cases h) fnErrorText_row_tie rfl ⟨rfl, rfl⟩ (by kernel_rfl) rfl
    (fun f fn hf hfn => by
      obtain rfl : f = 8 := Option.some.inj ((show Tryd.prog.funcNamed Rows.fnErrorTextRow.func = some 8 by kernel_rfl).symm.trans hf) |>.symm
      obtain rfl : fn = Tryd.f8 := (Option.some.inj (Tryd.func8.symm.trans hfn)).symm
      exact ⟨by kernel_rfl, fun j t ht => by
        rw [Tryd.params8] at ht
        have hm : t ∈ [48] := by simpa using Array.mem_of_getElem? ht
        have hall : ([48].all fun u => !Tryd.prog.wantsStandIn u) = true := by kernel_rfl
        exact (show Tryd.prog.wantsStandIn t = false by simpa using List.all_eq_true.1 hall t hm)⟩)
    (by kernel_rfl)
#print axioms FnErrorText_card
end Go.Proofs.YtheifhjnbpbkhaaDoor
