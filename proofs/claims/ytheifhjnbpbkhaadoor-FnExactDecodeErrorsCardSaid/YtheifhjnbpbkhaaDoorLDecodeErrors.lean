/- For every text the program's DecodeErrors returns what the reference's returns, in memory of its own. No condition. -/
import Derived.Test.YtheifhjnbpbkhaaDoorDecS
import Derived.Test.YtheifhjnbpbkhaaDoorDoor
set_option linter.unusedSimpArgs false
set_option linter.unusedVariables false
namespace Go.Proofs.YtheifhjnbpbkhaaDoor
open Go.RowKit Go.ChangeShapes Go.WideShapes Go.ChangeAt Go.Joins Go.Deep
open Go.ChangeMaps (open_string shut_string)
theorem dcd_len {t : List UInt8} : (decL (dcdI t)).length ≤ 6 := by
  cases h : dcdI t with
  | none => simp [decL]
  | some r =>
    obtain ⟨n, es⟩ := r
    have := (encB_len (dcdI_some h).1).2.2
    simpa [decL] using this
set_option maxRecDepth 100000 in
set_option maxHeartbeats 4000000 in
theorem FnExactDecodeErrors_walk (s : ByteArray) (w : World) (hsm : s.size ≤ maxLen) (hG : Good w) :
    Calls Tryd.prog 4 #[.string s] w fun e w' => e = .returned (.bool true) ∧ Below w.heap.size w w' := by
  unfold maxLen at hsm
  by_cases hs : s.size ≤ 1048576
  · obtain ⟨n, hn⟩ : ∃ n, decN (dcdI (toL s)) = n := ⟨_, rfl⟩
    obtain ⟨es, hes⟩ : ∃ es, decL (dcdI (toL s)) = es := ⟨_, rfl⟩
    obtain ⟨ok, hok⟩ : ∃ ok, (dcdI (toL s)).isSome = ok := ⟨_, rfl⟩
    obtain ⟨K, hK⟩ : ∃ K, es.length = K := ⟨_, rfl⟩
    have hK6 : K ≤ 6 := by rw [← hK, ← hes]; exact dcd_len
    have HG := hide hG
    have HI := hide (And.intro hn (And.intro hes hok))
    have HS : Hid (decN (dcdS (toL s)) = n ∧ decL (dcdS (toL s)) = es ∧ (dcdS (toL s)).isSome = ok) := hide (by rw [← dcd_same]; exact ⟨hn, hes, hok⟩)
    have HK := hide hK
    have t1 : decide ((s.size : Int) > 1048576) = false := decide_eq_false (by omega)
    clear hn hes hok hK hG
    go_enter Tryd.func4, Tryd.ntmps4
    go_wp2_with fail
    refine (spec_DecodeErrors s n K es ok _ hs HS.out.1 HS.out.2.1 HK.out HS.out.2.2).mono ?_
    rintro e w1 ⟨a1, c1, rfl, o1, h1⟩
    have s1 := h1.size
    try simp only [World.size_alloc, World.size_setCell, World.size_drew, World.heap_drewN] at s1
    have H1 : Below w.heap.size w w1 := bthen (by repeat' (first | (with_reducible exact Below.refl _ _) | (with_reducible assumption) | (with_reducible refine bdrawn ?_ _) | (with_reducible refine Below.alloc ?_ ?_ _) | (with_reducible refine Below.drew ?_) | (with_reducible refine Below.setCell ?_ ?_ _) | go_size)) h1 (by go_size)
    have C1 := (bcell H1).1; have F1 := (bcell H1).2
    have r := hide (Owned.of_own o1)
    clear o1
    go_wp2_with fail
    refine (impl_DecodeErrors s n K es ok _ hs HI.out.1 HI.out.2.1 HK.out HI.out.2.2 (HG.out.below H1)).mono ?_
    rintro e w2 ⟨a2, c2, rfl, o2, h2⟩
    have s2 := h2.size
    try simp only [World.size_alloc, World.size_setCell, World.size_drew, World.heap_drewN] at s2
    have H2 : Below w.heap.size w w2 := bthen (by repeat' (first | (with_reducible exact Below.refl _ _) | (with_reducible assumption) | (with_reducible refine bdrawn ?_ _) | (with_reducible refine Below.alloc ?_ ?_ _) | (with_reducible refine Below.drew ?_) | (with_reducible refine Below.setCell ?_ ?_ _) | go_size)) h2 (by go_size)
    have C2 := (bcell H2).1; have F2 := (bcell H2).2
    have P2 : Below w1.heap.size w1 w2 := bthen (by repeat' (first | (with_reducible exact Below.refl _ _) | (with_reducible assumption) | (with_reducible refine bdrawn ?_ _) | (with_reducible refine Below.alloc ?_ ?_ _) | (with_reducible refine Below.drew ?_) | (with_reducible refine Below.setCell ?_ ?_ _) | go_size)) h2 (by go_size)
    replace r := hide (r.out.below P2 (by omega))
    have g := hide (Owned.of_own o2)
    clear o2
    go_wp2_with fail
    refine (laws_eqErrorEntryS _ _ _ _ _ _ _ (isStructs_own enF_len (by omega) g.out.1) (isStructs_own enF_len (by omega) r.out.1)).mono ?_
    rintro e w3 ⟨rfl, h3⟩
    have s3 := h3.size
    try simp only [World.size_alloc, World.size_setCell, World.size_drew, World.heap_drewN] at s3
    have H3 : Below w.heap.size w w3 := bthen (by repeat' (first | (with_reducible exact Below.refl _ _) | (with_reducible assumption) | (with_reducible refine bdrawn ?_ _) | (with_reducible refine Below.alloc ?_ ?_ _) | (with_reducible refine Below.drew ?_) | (with_reducible refine Below.setCell ?_ ?_ _) | go_size)) h3 (by go_size)
    have C3 := (bcell H3).1; have F3 := (bcell H3).2
    have P3 : Below w2.heap.size w2 w3 := bthen (by repeat' (first | (with_reducible exact Below.refl _ _) | (with_reducible assumption) | (with_reducible refine bdrawn ?_ _) | (with_reducible refine Below.alloc ?_ ?_ _) | (with_reducible refine Below.drew ?_) | (with_reducible refine Below.setCell ?_ ?_ _) | go_size)) h3 (by go_size)
    replace r := hide (r.out.below P3 (by omega))
    replace g := hide (g.out.below P3 (by omega))
    go_wp2_with fail
    refine (laws_markErrorEntryS _ _ _ _ _ _ _ _ (by omega) (by omega) g.out).mono ?_
    rintro e w4 ⟨rfl, o4, v4⟩
    have h4 := Save.below v4 (by omega)
    have s4 := h4.size
    try simp only [World.size_alloc, World.size_setCell, World.size_drew, World.heap_drewN] at s4
    have H4 : Below w.heap.size w w4 := bthen (by repeat' (first | (with_reducible exact Below.refl _ _) | (with_reducible assumption) | (with_reducible refine bdrawn ?_ _) | (with_reducible refine Below.alloc ?_ ?_ _) | (with_reducible refine Below.drew ?_) | (with_reducible refine Below.setCell ?_ ?_ _) | go_size)) h4 (by go_size)
    have C4 := (bcell H4).1; have F4 := (bcell H4).2
    replace r := hide (r.out.save v4 (by omega))
    replace g := hide o4
    go_wp2_with fail
    refine (laws_heldErrorEntryS _ _ _ _ _ (by omega) (by omega) (isStructs_own enF_len (by omega) g.out.1)).mono ?_
    rintro e w5 ⟨rfl, h5⟩
    have s5 := h5.size
    try simp only [World.size_alloc, World.size_setCell, World.size_drew, World.heap_drewN] at s5
    have H5 : Below w.heap.size w w5 := bthen (by repeat' (first | (with_reducible exact Below.refl _ _) | (with_reducible assumption) | (with_reducible refine bdrawn ?_ _) | (with_reducible refine Below.alloc ?_ ?_ _) | (with_reducible refine Below.drew ?_) | (with_reducible refine Below.setCell ?_ ?_ _) | go_size)) h5 (by go_size)
    have C5 := (bcell H5).1; have F5 := (bcell H5).2
    have P5 : Below w4.heap.size w4 w5 := bthen (by repeat' (first | (with_reducible exact Below.refl _ _) | (with_reducible assumption) | (with_reducible refine bdrawn ?_ _) | (with_reducible refine Below.alloc ?_ ?_ _) | (with_reducible refine Below.drew ?_) | (with_reducible refine Below.setCell ?_ ?_ _) | go_size)) h5 (by go_size)
    replace r := hide (r.out.below P5 (by omega))
    replace g := hide (g.out.below P5 (by omega))
    go_wp2_with fail
    refine (impl_DecodeErrors s n K es ok _ hs HI.out.1 HI.out.2.1 HK.out HI.out.2.2 (HG.out.below H5)).mono ?_
    rintro e w6 ⟨a6, c6, rfl, o6, h6⟩
    have s6 := h6.size
    try simp only [World.size_alloc, World.size_setCell, World.size_drew, World.heap_drewN] at s6
    have H6 : Below w.heap.size w w6 := bthen (by repeat' (first | (with_reducible exact Below.refl _ _) | (with_reducible assumption) | (with_reducible refine bdrawn ?_ _) | (with_reducible refine Below.alloc ?_ ?_ _) | (with_reducible refine Below.drew ?_) | (with_reducible refine Below.setCell ?_ ?_ _) | go_size)) h6 (by go_size)
    have C6 := (bcell H6).1; have F6 := (bcell H6).2
    have P6 : Below w5.heap.size w5 w6 := bthen (by repeat' (first | (with_reducible exact Below.refl _ _) | (with_reducible assumption) | (with_reducible refine bdrawn ?_ _) | (with_reducible refine Below.alloc ?_ ?_ _) | (with_reducible refine Below.drew ?_) | (with_reducible refine Below.setCell ?_ ?_ _) | go_size)) h6 (by go_size)
    replace r := hide (r.out.below P6 (by omega))
    replace g := hide (g.out.below P6 (by omega))
    have h := hide (Owned.of_own o6)
    clear o6
    go_wp2_with fail
    refine (laws_eqErrorEntryS _ _ _ _ _ _ _ (isStructs_own enF_len (by omega) h.out.1) (isStructs_own enF_len (by omega) r.out.1)).mono ?_
    rintro e w7 ⟨rfl, h7⟩
    have s7 := h7.size
    try simp only [World.size_alloc, World.size_setCell, World.size_drew, World.heap_drewN] at s7
    have H7 : Below w.heap.size w w7 := bthen (by repeat' (first | (with_reducible exact Below.refl _ _) | (with_reducible assumption) | (with_reducible refine bdrawn ?_ _) | (with_reducible refine Below.alloc ?_ ?_ _) | (with_reducible refine Below.drew ?_) | (with_reducible refine Below.setCell ?_ ?_ _) | go_size)) h7 (by go_size)
    have C7 := (bcell H7).1; have F7 := (bcell H7).2
    have P7 : Below w6.heap.size w6 w7 := bthen (by repeat' (first | (with_reducible exact Below.refl _ _) | (with_reducible assumption) | (with_reducible refine bdrawn ?_ _) | (with_reducible refine Below.alloc ?_ ?_ _) | (with_reducible refine Below.drew ?_) | (with_reducible refine Below.setCell ?_ ?_ _) | go_size)) h7 (by go_size)
    replace r := hide (r.out.below P7 (by omega))
    replace g := hide (g.out.below P7 (by omega))
    replace h := hide (h.out.below P7 (by omega))
    go_wp2_with fail
    refine (laws_heldErrorEntryS _ _ _ _ _ (by omega) (by omega) (isStructs_own enF_len (by omega) g.out.1)).mono ?_
    rintro e w8 ⟨rfl, h8⟩
    have s8 := h8.size
    try simp only [World.size_alloc, World.size_setCell, World.size_drew, World.heap_drewN] at s8
    have H8 : Below w.heap.size w w8 := bthen (by repeat' (first | (with_reducible exact Below.refl _ _) | (with_reducible assumption) | (with_reducible refine bdrawn ?_ _) | (with_reducible refine Below.alloc ?_ ?_ _) | (with_reducible refine Below.drew ?_) | (with_reducible refine Below.setCell ?_ ?_ _) | go_size)) h8 (by go_size)
    have C8 := (bcell H8).1; have F8 := (bcell H8).2
    have P8 : Below w7.heap.size w7 w8 := bthen (by repeat' (first | (with_reducible exact Below.refl _ _) | (with_reducible assumption) | (with_reducible refine bdrawn ?_ _) | (with_reducible refine Below.alloc ?_ ?_ _) | (with_reducible refine Below.drew ?_) | (with_reducible refine Below.setCell ?_ ?_ _) | go_size)) h8 (by go_size)
    replace r := hide (r.out.below P8 (by omega))
    replace g := hide (g.out.below P8 (by omega))
    replace h := hide (h.out.below P8 (by omega))
    go_wp2_with fail
    go_ret
    exact ⟨rfl, by go_grown⟩
  · have t1 : decide ((s.size : Int) > 1048576) = true := decide_eq_true (by omega)
    go_enter Tryd.func4, Tryd.ntmps4
    go_wp2_with fail
    go_ret
    exact ⟨rfl, Below.refl _ _⟩
set_option maxRecDepth 100000 in
theorem FnExactDecodeErrors_lifted (os : Os) (started : os.Started) (H : Type) (enc : TypeId × Value → H) :
    ReturnsInHanded {} Tryd.checked os 4 .any (fun w args => (Rows.fnExactDecodeErrorsSpec.pre enc Tryd.prog Tryd.f4 [] false w args ∧ laidMetH Tryd.prog Rows.fnExactDecodeErrorsRow.laid w) ∧ sizedMet enc Tryd.prog Tryd.f4 (OpenSpec.ofChange Rows.fnExactDecodeErrorsSpec) false w args)
      (Rows.fnExactDecodeErrorsSpec.post enc Tryd.prog Tryd.f4 false true false false) := by
  refine door_wrap (C := Tryd.checked) (X := fun w _ => laidMetH Tryd.prog Rows.fnExactDecodeErrorsRow.laid w) (fun _ _ _ hh h => h.of_heap hh) try_own started (by kernel_rfl) Tryd.func4
    (ChangeSpec.witness_shaped (enc := enc) (C := Tryd.checked) (os := os) (X := fun w _ => laidMetH Tryd.prog Rows.fnExactDecodeErrorsRow.laid w) false (World.laidAll Tryd.prog os Rows.fnExactDecodeErrorsRow.laid) #[.string ByteArray.empty] 8 (World.laidAll_os _ _ _)
      (World.shaped_of_ZipB (by kernel_rfl) (by kernel_rfl)) (by kernel_rfl) (by kernel_rfl) (by kernel_rfl)
      (by rw [MakeChecks.laidMetH_plain _ _ _ (by kernel_rfl)]; exact laidMet_laidAll _ (by kernel_rfl) (by kernel_rfl))) ?_
  intro W base args ds gs before hval0 hW _ _ hL hSh _
  rw [MakeChecks.laidMetH_plain _ _ _ (by kernel_rfl)] at hL
  have hgood : Good W := good_of hL hSh
  have hval : ∀ (j : Nat) t v, Tryd.f4.params[j]? = some t → args[j]? = some v → Value.okWide Tryd.prog W .any base t v := hval0
  have hW' := hW
  obtain ⟨p, q, hA0, hV, rfl, hfz, hnd⟩ := hW
  have hA : DataW.TrodAll enc Tryd.prog W 0 (fun _ => true) true Tryd.f4.params.toList args.toList ds p := hA0
  rw [Tryd.params4] at hA hval
  obtain ⟨v0, vs0, d0, ds0, p0, q0, hargs, rfl, rfl, h0, r0⟩ := trodAll_cons hA
  obtain ⟨rfl, rfl, rfl⟩ := trodAll_nil r0
  obtain rfl : args = #[v0] := by cases args; simp_all
  obtain ⟨rfl, rfl⟩ := trodVars_none hV
  try simp only [List.append_nil] at hW'
  have k0 := h0
  have lt0 : ∀ x ∈ p0, x.block < W.heap.size := by obtain ⟨m, hm⟩ := k0; exact DataW.trod_lt m _ _ _ hm
  obtain ⟨x0, rfl, rfl, rfl, w_x0⟩ := open_string Tryd.underlying9 (hval 0 9 v0 rfl rfl) h0
  clear hA0 hval0
  refine (FnExactDecodeErrors_walk x0 W w_x0 hgood).mono fun e W' ⟨he, bel⟩ => ?_
  subst he
  exact ⟨_, rfl, _, _, _, [], _, [], hW', trodAll_mk1 (shut_bool Tryd.underlying4 _), (trodAll_cons_mk (Below.trod try_laidOut (by kernel_rfl) (of_decide_eq_true (by kernel_rfl)) k0 bel lt0) trodAll_mk0), rfl, bel.frame _, fun h => by cases h⟩

theorem FnExactDecodeErrors_holds : Rows.FnExactDecodeErrorsSaid :=
  OpenClaim.holds_of_wide 4 Tryd.f4 rfl rfl rfl rfl rfl rfl rfl ⟨rfl, rfl, rfl, rfl, rfl⟩ rfl rfl rfl rfl rfl (by kernel_rfl) Tryd.func4 (by kernel_rfl)
    (of_decide_eq_true (by kernel_rfl)) (by unfold Func.isWrapper; rw [if_neg (of_decide_eq_false (by kernel_rfl))]; exact ⟨rfl, rfl⟩)
    (fun os started H enc _ => FnExactDecodeErrors_lifted os started H enc)
theorem FnExactDecodeErrors_card : Rows.FnExactDecodeErrorsCardSaid :=
  Claim7.holds_tied_plain_at .later [] [.data, .data, .data, .data, .pinned] true (true, "db3932f5ca78fea8835bc8ddd515987acb19a4f8921aa1f4aa3ed976f54975c6") false FnExactDecodeErrors_holds (fun _ h => by cases h) (by kernel_rfl) (fun _ h => by cases h) fnExactDecodeErrors_row_tie rfl ⟨rfl, rfl⟩ (by kernel_rfl) rfl
    (fun f fn hf hfn => by
      obtain rfl : f = 4 := Option.some.inj ((show Tryd.prog.funcNamed Rows.fnExactDecodeErrorsRow.func = some 4 by kernel_rfl).symm.trans hf) |>.symm
      obtain rfl : fn = Tryd.f4 := (Option.some.inj (Tryd.func4.symm.trans hfn)).symm
      exact ⟨by kernel_rfl, fun j t ht => by
        rw [Tryd.params4] at ht
        have hm : t ∈ [9] := by simpa using Array.mem_of_getElem? ht
        have hall : ([9].all fun u => !Tryd.prog.wantsStandIn u) = true := by kernel_rfl
        exact (show Tryd.prog.wantsStandIn t = false by simpa using List.all_eq_true.1 hall t hm)⟩)
    (by kernel_rfl)
#print axioms FnExactDecodeErrors_card
end Go.Proofs.YtheifhjnbpbkhaaDoor
