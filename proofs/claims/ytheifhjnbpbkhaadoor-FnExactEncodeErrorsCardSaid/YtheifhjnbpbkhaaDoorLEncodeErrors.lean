/- For every number and every list of entries the program's EncodeErrors returns what the reference's returns, and leaves the list as it was. No condition. -/
import Derived.Test.YtheifhjnbpbkhaaDoorTxtW
import Derived.Test.YtheifhjnbpbkhaaDoorDoor
import Derived.Test.YtheifhjnbpbkhaaDoorErrAdd
set_option linter.unusedSimpArgs false
set_option linter.unusedVariables false
namespace Go.Proofs.YtheifhjnbpbkhaaDoor
open Go.RowKit Go.ChangeShapes Go.WideShapes Go.ChangeAt Go.Joins Go.Deep
open Go.ChangeMaps (open_string shut_string)
set_option maxRecDepth 100000 in
set_option maxHeartbeats 4000000 in
theorem FnExactEncodeErrors_walk (number : Int) (a : Option Addr) (n c : Nat) (es : List En) (w : World) (ha : IsStructs enF 3 w a n c es) (hG : Good w) :
    Calls Tryd.prog 3 #[.int .i64 number, .slice a n c] w fun e w' => e = .returned (.bool true) ∧ Below w.heap.size w w' := by
  have hm : c ≤ 9223372036854775807 := ha.2.2.1
  have hc := ha.2.1
  by_cases hs : n ≤ 1048576
  · obtain ⟨t, ht⟩ : ∃ t, enc number es = t := ⟨_, rfl⟩
    have HA := hide ha; have HG := hide hG; have HT := hide ht
    clear ha hG ht
    have g9 : (0 : Int) ≤ 1048576 - (n : Int) := by omega
    have g8 : (0 : Int) ≤ (n : Int) := by omega
    go_enter Tryd.func3, Tryd.ntmps3
    go_wp2_with fail
    refine (laws_szErrorEntryS _ _ _ _ _ (by omega) (by omega) (by omega)).mono ?_
    rintro e w1 ⟨rfl, h1⟩
    have s1 := h1.size
    try simp only [World.size_alloc, World.size_setCell, World.size_drew, World.heap_drewN] at s1
    have H1 : Below w.heap.size w w1 := bthen (by repeat' (first | (with_reducible exact Below.refl _ _) | (with_reducible assumption) | (with_reducible refine bdrawn ?_ _) | (with_reducible refine Below.alloc ?_ ?_ _) | (with_reducible refine Below.drew ?_) | (with_reducible refine Below.setCell ?_ ?_ _) | go_size)) h1 (by go_size)
    have C1 := (bcell H1).1; have F1 := (bcell H1).2
    go_wp2_with fail
    refine (laws_toErrorEntryS _ _ _ es _ (HA.out.below H1 (Nat.le_refl _)) hs).mono ?_
    rintro e w2 ⟨a2, c2, rfl, o2, h2⟩
    have s2 := h2.size
    try simp only [World.size_alloc, World.size_setCell, World.size_drew, World.heap_drewN] at s2
    have H2 : Below w.heap.size w w2 := bthen (by repeat' (first | (with_reducible exact Below.refl _ _) | (with_reducible assumption) | (with_reducible refine bdrawn ?_ _) | (with_reducible refine Below.alloc ?_ ?_ _) | (with_reducible refine Below.drew ?_) | (with_reducible refine Below.setCell ?_ ?_ _) | go_size)) h2 (by go_size)
    have C2 := (bcell H2).1; have F2 := (bcell H2).2
    have p := hide (Owned.of_own o2)
    clear o2
    go_wp2_with fail
    refine (spec_EncodeErrors number _ _ _ es t _ (isStructs_own enF_len (by omega) p.out.1) hs HT.out).mono ?_
    rintro e w3 ⟨rfl, h3⟩
    have s3 := h3.size
    try simp only [World.size_alloc, World.size_setCell, World.size_drew, World.heap_drewN] at s3
    have H3 : Below w.heap.size w w3 := bthen (by repeat' (first | (with_reducible exact Below.refl _ _) | (with_reducible assumption) | (with_reducible refine bdrawn ?_ _) | (with_reducible refine Below.alloc ?_ ?_ _) | (with_reducible refine Below.drew ?_) | (with_reducible refine Below.setCell ?_ ?_ _) | go_size)) h3 (by go_size)
    have C3 := (bcell H3).1; have F3 := (bcell H3).2
    have P3 : Below w2.heap.size w2 w3 := bthen (by repeat' (first | (with_reducible exact Below.refl _ _) | (with_reducible assumption) | (with_reducible refine bdrawn ?_ _) | (with_reducible refine Below.alloc ?_ ?_ _) | (with_reducible refine Below.drew ?_) | (with_reducible refine Below.setCell ?_ ?_ _) | go_size)) h3 (by go_size)
    replace p := hide (p.out.below P3 (by omega))
    go_wp2_with fail
    refine (laws_toErrorEntryS _ _ _ es _ (HA.out.below H3 (Nat.le_refl _)) hs).mono ?_
    rintro e w4 ⟨a4, c4, rfl, o4, h4⟩
    have s4 := h4.size
    try simp only [World.size_alloc, World.size_setCell, World.size_drew, World.heap_drewN] at s4
    have H4 : Below w.heap.size w w4 := bthen (by repeat' (first | (with_reducible exact Below.refl _ _) | (with_reducible assumption) | (with_reducible refine bdrawn ?_ _) | (with_reducible refine Below.alloc ?_ ?_ _) | (with_reducible refine Below.drew ?_) | (with_reducible refine Below.setCell ?_ ?_ _) | go_size)) h4 (by go_size)
    have C4 := (bcell H4).1; have F4 := (bcell H4).2
    have P4 : Below w3.heap.size w3 w4 := bthen (by repeat' (first | (with_reducible exact Below.refl _ _) | (with_reducible assumption) | (with_reducible refine bdrawn ?_ _) | (with_reducible refine Below.alloc ?_ ?_ _) | (with_reducible refine Below.drew ?_) | (with_reducible refine Below.setCell ?_ ?_ _) | go_size)) h4 (by go_size)
    replace p := hide (p.out.below P4 (by omega))
    have x := hide (Owned.of_own o4)
    clear o4
    go_wp2_with fail
    refine (impl_EncodeErrors number _ _ _ es t _ (isStructs_own enF_len (by omega) x.out.1) hs HT.out (HG.out.below H4)).mono ?_
    rintro e w5 ⟨rfl, h5⟩
    have s5 := h5.size
    try simp only [World.size_alloc, World.size_setCell, World.size_drew, World.heap_drewN] at s5
    have H5 : Below w.heap.size w w5 := bthen (by repeat' (first | (with_reducible exact Below.refl _ _) | (with_reducible assumption) | (with_reducible refine bdrawn ?_ _) | (with_reducible refine Below.alloc ?_ ?_ _) | (with_reducible refine Below.drew ?_) | (with_reducible refine Below.setCell ?_ ?_ _) | go_size)) h5 (by go_size)
    have C5 := (bcell H5).1; have F5 := (bcell H5).2
    have P5 : Below w4.heap.size w4 w5 := bthen (by repeat' (first | (with_reducible exact Below.refl _ _) | (with_reducible assumption) | (with_reducible refine bdrawn ?_ _) | (with_reducible refine Below.alloc ?_ ?_ _) | (with_reducible refine Below.drew ?_) | (with_reducible refine Below.setCell ?_ ?_ _) | go_size)) h5 (by go_size)
    replace p := hide (p.out.below P5 (by omega))
    replace x := hide (x.out.below P5 (by omega))
    go_wp2_with fail
    refine (laws_toErrorEntryS _ _ _ es _ (HA.out.below H5 (Nat.le_refl _)) hs).mono ?_
    rintro e w6 ⟨a6, c6, rfl, o6, h6⟩
    have s6 := h6.size
    try simp only [World.size_alloc, World.size_setCell, World.size_drew, World.heap_drewN] at s6
    have H6 : Below w.heap.size w w6 := bthen (by repeat' (first | (with_reducible exact Below.refl _ _) | (with_reducible assumption) | (with_reducible refine bdrawn ?_ _) | (with_reducible refine Below.alloc ?_ ?_ _) | (with_reducible refine Below.drew ?_) | (with_reducible refine Below.setCell ?_ ?_ _) | go_size)) h6 (by go_size)
    have C6 := (bcell H6).1; have F6 := (bcell H6).2
    have P6 : Below w5.heap.size w5 w6 := bthen (by repeat' (first | (with_reducible exact Below.refl _ _) | (with_reducible assumption) | (with_reducible refine bdrawn ?_ _) | (with_reducible refine Below.alloc ?_ ?_ _) | (with_reducible refine Below.drew ?_) | (with_reducible refine Below.setCell ?_ ?_ _) | go_size)) h6 (by go_size)
    replace p := hide (p.out.below P6 (by omega))
    replace x := hide (x.out.below P6 (by omega))
    have x2 := hide (Owned.of_own o6)
    clear o6
    go_wp2_with fail
    refine (laws_eqErrorEntryS _ _ _ _ _ _ _ (isStructs_own enF_len (by omega) x.out.1) (isStructs_own enF_len (by omega) x2.out.1)).mono ?_
    rintro e w7 ⟨rfl, h7⟩
    have s7 := h7.size
    try simp only [World.size_alloc, World.size_setCell, World.size_drew, World.heap_drewN] at s7
    have H7 : Below w.heap.size w w7 := bthen (by repeat' (first | (with_reducible exact Below.refl _ _) | (with_reducible assumption) | (with_reducible refine bdrawn ?_ _) | (with_reducible refine Below.alloc ?_ ?_ _) | (with_reducible refine Below.drew ?_) | (with_reducible refine Below.setCell ?_ ?_ _) | go_size)) h7 (by go_size)
    have C7 := (bcell H7).1; have F7 := (bcell H7).2
    have P7 : Below w6.heap.size w6 w7 := bthen (by repeat' (first | (with_reducible exact Below.refl _ _) | (with_reducible assumption) | (with_reducible refine bdrawn ?_ _) | (with_reducible refine Below.alloc ?_ ?_ _) | (with_reducible refine Below.drew ?_) | (with_reducible refine Below.setCell ?_ ?_ _) | go_size)) h7 (by go_size)
    replace p := hide (p.out.below P7 (by omega))
    replace x := hide (x.out.below P7 (by omega))
    replace x2 := hide (x2.out.below P7 (by omega))
    go_wp2_with fail
    go_ret
    exact ⟨rfl, by go_grown⟩
  · go_enter Tryd.func3, Tryd.ntmps3
    go_wp2_with fail
    refine (laws_szErrorEntryS_no _ _ _ _ _ (by omega) (by omega) (by omega) ⟨hc, hm⟩).mono ?_
    rintro e w1 ⟨rfl, h1⟩
    go_wp2_with fail
    go_ret
    exact ⟨rfl, h1⟩
set_option maxRecDepth 100000 in
theorem FnExactEncodeErrors_lifted (os : Os) (started : os.Started) (H : Type) (enc : TypeId × Value → H) :
    ReturnsInHanded {} Tryd.checked os 3 .any (fun w args => (Rows.fnExactEncodeErrorsSpec.pre enc Tryd.prog Tryd.f3 [] false w args ∧ laidMetH Tryd.prog Rows.fnExactEncodeErrorsRow.laid w) ∧ sizedMet enc Tryd.prog Tryd.f3 (OpenSpec.ofChange Rows.fnExactEncodeErrorsSpec) false w args)
      (Rows.fnExactEncodeErrorsSpec.post enc Tryd.prog Tryd.f3 false true false false) := by
  refine door_wrap (C := Tryd.checked) (X := fun w _ => laidMetH Tryd.prog Rows.fnExactEncodeErrorsRow.laid w) (fun _ _ _ hh h => h.of_heap hh) try_own started (by kernel_rfl) Tryd.func3
    (ChangeSpec.witness_shaped (enc := enc) (C := Tryd.checked) (os := os) (X := fun w _ => laidMetH Tryd.prog Rows.fnExactEncodeErrorsRow.laid w) false (World.laidAll Tryd.prog os Rows.fnExactEncodeErrorsRow.laid) #[.int .i64 0, .slice none 0 0] 8 (World.laidAll_os _ _ _)
      (World.shaped_of_ZipB (by kernel_rfl) (by kernel_rfl)) (by kernel_rfl) (by kernel_rfl) (by kernel_rfl)
      (by rw [MakeChecks.laidMetH_plain _ _ _ (by kernel_rfl)]; exact laidMet_laidAll _ (by kernel_rfl) (by kernel_rfl))) ?_
  intro W base args ds gs before hval0 hW _ _ hL hSh _
  rw [MakeChecks.laidMetH_plain _ _ _ (by kernel_rfl)] at hL
  have hgood : Good W := good_of hL hSh
  have hval : ∀ (j : Nat) t v, Tryd.f3.params[j]? = some t → args[j]? = some v → Value.okWide Tryd.prog W .any base t v := hval0
  have hW' := hW
  obtain ⟨p, q, hA0, hV, rfl, hfz, hnd⟩ := hW
  have hA : DataW.TrodAll enc Tryd.prog W 0 (fun _ => true) true Tryd.f3.params.toList args.toList ds p := hA0
  rw [Tryd.params3] at hA hval
  obtain ⟨v0, vs0, d0, ds0, p0, q0, hargs, rfl, rfl, h0, r0⟩ := trodAll_cons hA
  obtain ⟨v1, vs1, d1, ds1, p1, q1, rfl, rfl, rfl, h1, r1⟩ := trodAll_cons r0
  obtain ⟨rfl, rfl, rfl⟩ := trodAll_nil r1
  obtain rfl : args = #[v0, v1] := by cases args; simp_all
  obtain ⟨rfl, rfl⟩ := trodVars_none hV
  try simp only [List.append_nil] at hW'
  have k0 := h0
  have lt0 : ∀ x ∈ p0, x.block < W.heap.size := by obtain ⟨m, hm⟩ := k0; exact DataW.trod_lt m _ _ _ hm
  have k1 := h1
  have lt1 : ∀ x ∈ p1, x.block < W.heap.size := by obtain ⟨m, hm⟩ := k1; exact DataW.trod_lt m _ _ _ hm
  obtain ⟨x0, rfl, rfl, rfl, w_x0⟩ := open_int Tryd.underlying3 (hval 0 3 v0 rfl rfl) h0
  obtain ⟨b_x1, m_x1, l_x1, rfl⟩ := okWide_slice Tryd.underlying22 (hval 1 22 v1 rfl rfl)
  obtain ⟨fu1, h1⟩ := h1
  obtain ⟨a_x1, n_x1, c_x1, x1, e_x1, w_x1⟩ := isErrorEntrys_of h1
  simp only [Value.cells, List.cons.injEq, and_true] at e_x1
  obtain ⟨q1, q2, q3⟩ : b_x1 = a_x1 ∧ m_x1 = n_x1 ∧ l_x1 = c_x1 := by simpa using e_x1
  replace q1 := q1.symm; replace q2 := q2.symm; replace q3 := q3.symm; subst q1 q2 q3
  clear hA0 hval0
  refine (FnExactEncodeErrors_walk x0 a_x1 n_x1 c_x1 x1 W w_x1 hgood).mono fun e W' ⟨he, bel⟩ => ?_
  subst he
  exact ⟨_, rfl, _, _, _, [], _, [], hW', trodAll_mk1 (shut_bool Tryd.underlying4 _), (trodAll_cons_mk (Below.trod try_laidOut (by kernel_rfl) (of_decide_eq_true (by kernel_rfl)) k0 bel lt0) (trodAll_cons_mk (Below.trod try_laidOut (by kernel_rfl) (of_decide_eq_true (by kernel_rfl)) k1 bel lt1) trodAll_mk0)), rfl, bel.frame _, fun h => by cases h⟩

theorem FnExactEncodeErrors_holds : Rows.FnExactEncodeErrorsSaid :=
  OpenClaim.holds_of_wide 3 Tryd.f3 rfl rfl rfl rfl rfl rfl rfl ⟨rfl, rfl, rfl, rfl, rfl⟩ rfl rfl rfl rfl rfl (by kernel_rfl) Tryd.func3 (by kernel_rfl)
    (of_decide_eq_true (by kernel_rfl)) (by unfold Func.isWrapper; rw [if_neg (of_decide_eq_false (by kernel_rfl))]; exact ⟨rfl, rfl⟩)
    (fun os started H enc _ => FnExactEncodeErrors_lifted os started H enc)
theorem FnExactEncodeErrors_card : Rows.FnExactEncodeErrorsCardSaid :=
  Claim7.holds_tied_plain_at .later [] [.data, .data, .data] true (true, "db3932f5ca78fea8835bc8ddd515987acb19a4f8921aa1f4aa3ed976f54975c6") false FnExactEncodeErrors_holds (fun _ h => by cases h) (by kernel_rfl) (fun _ h => by cases h) fnExactEncodeErrors_row_tie rfl ⟨rfl, rfl⟩ (by kernel_rfl) rfl
    (fun f fn hf hfn => by
      obtain rfl : f = 3 := Option.some.inj ((show Tryd.prog.funcNamed Rows.fnExactEncodeErrorsRow.func = some 3 by kernel_rfl).symm.trans hf) |>.symm
      obtain rfl : fn = Tryd.f3 := (Option.some.inj (Tryd.func3.symm.trans hfn)).symm
      exact ⟨by kernel_rfl, fun j t ht => by
        rw [Tryd.params3] at ht
        have hm : t ∈ [3, 22] := by simpa using Array.mem_of_getElem? ht
        have hall : ([3, 22].all fun u => !Tryd.prog.wantsStandIn u) = true := by kernel_rfl
        exact (show Tryd.prog.wantsStandIn t = false by simpa using List.all_eq_true.1 hall t hm)⟩)
    (by kernel_rfl)
#print axioms FnExactEncodeErrors_card
end Go.Proofs.YtheifhjnbpbkhaaDoor
