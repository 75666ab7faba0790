/- The program's LogNew returns what the reference's returns, in memory of its own. No condition. -/
import Derived.Test.YtheifhjnbpbkhaaDoorLog1
import Derived.Test.YtheifhjnbpbkhaaDoorDoor
set_option linter.unusedSimpArgs false
set_option linter.unusedVariables false
namespace Go.Proofs.YtheifhjnbpbkhaaDoor
open Go.RowKit Go.ChangeShapes Go.WideShapes Go.ChangeAt Go.Joins Go.Deep
open Go.ChangeMaps (open_string shut_string)
theorem log0_short : ∀ s ∈ log0, s.size ≤ maxLen := by
  intro s hs
  have h : encOk 1 [] = true := by decide
  have hl := (encB_len h).1
  have e : enc 1 [] = encB 1 [] := if_pos h
  unfold log0 at hs
  simp only [List.mem_cons, List.mem_nil_iff, or_false] at hs
  rcases hs with rfl | rfl
  · rw [strOf_size, e]; unfold maxLen; omega
  · rw [strOf_size]; simp
set_option maxRecDepth 100000 in
set_option maxHeartbeats 4000000 in
theorem FnExactLogNew_walk (w : World) (hG : Good w) :
    Calls Tryd.prog 5 #[] w fun e w' => e = .returned (.bool true) ∧ Below w.heap.size w w' := by
  have HG := hide hG
  have HS := hide log0_short
  clear hG
  go_enter Tryd.func5, Tryd.ntmps5
  go_wp2_with fail
  refine (spec_LogNew _).mono ?_
  rintro e w1 ⟨a1, c1, rfl, o1, h1⟩
  have s1 := h1.size
  try simp only [World.size_alloc, World.size_setCell, World.size_drew, World.heap_drewN] at s1
  have H1 : Below w.heap.size w w1 := bthen (by repeat' (first | (with_reducible exact Below.refl _ _) | (with_reducible assumption) | (with_reducible refine bdrawn ?_ _) | (with_reducible refine Below.alloc ?_ ?_ _) | (with_reducible refine Below.drew ?_) | (with_reducible refine Below.setCell ?_ ?_ _) | go_size)) h1 (by go_size)
  have C1 := (bcell H1).1; have F1 := (bcell H1).2
  have r := hide (Owned.of_own o1)
  clear o1
  go_wp2_with fail
  refine (impl_LogNew _ (HG.out.below (by go_grown))).mono ?_
  rintro e w2 ⟨a2, c2, rfl, o2, h2⟩
  have s2 := h2.size
  try simp only [World.size_alloc, World.size_setCell, World.size_drew, World.heap_drewN] at s2
  have B2_2 := h2
  have z2_0 : w1.heap.size < w2.heap.size := by omega
  have q2_0 := fun o => (bcell B2_2).1 (w1.heap.size) o (by go_size)
  have f2_0 := fun o => (bcell B2_2).2 (w1.heap.size) o (by go_size)
  have H2 : Below w.heap.size w w2 := bthen (by repeat' (first | (with_reducible exact Below.refl _ _) | (with_reducible assumption) | (with_reducible refine bdrawn ?_ _) | (with_reducible refine Below.alloc ?_ ?_ _) | (with_reducible refine Below.drew ?_) | (with_reducible refine Below.setCell ?_ ?_ _) | go_size)) h2 (by go_size)
  have C2 := (bcell H2).1; have F2 := (bcell H2).2
  have P2 : Below w1.heap.size w1 w2 := bthen (by repeat' (first | (with_reducible exact Below.refl _ _) | (with_reducible assumption) | (with_reducible refine bdrawn ?_ _) | (with_reducible refine Below.alloc ?_ ?_ _) | (with_reducible refine Below.drew ?_) | (with_reducible refine Below.setCell ?_ ?_ _) | go_size)) h2 (by go_size)
  replace r := hide (r.out.below P2 (by omega))
  have g := hide (Owned.of_own o2)
  clear o2
  have sA := (show w1.heap.size + 1 ≤ (w1.alloc (.cells #[.slice a1 2 c1] 35)).heap.size by simp)
  have sA2 := (show (w1.alloc (.cells #[.slice a1 2 c1] 35)).heap.size ≤ w1.heap.size + 1 by simp)
  go_wp2_with fail
  refine (laws_eqLogStore _ _ _ _ _ log0 _ (isStrs_owned (g.out.below (B := w2.heap.size) (by go_grown) (by omega)) HS.out) (isStrs_owned (r.out.below (B := w2.heap.size) (by go_grown) (by omega)) HS.out)).mono ?_
  rintro e w3 ⟨rfl, h3⟩
  have s3 := h3.size
  try simp only [World.size_alloc, World.size_setCell, World.size_drew, World.heap_drewN] at s3
  have B3_2 := bnext (by first | (with_reducible exact B2_2) | exact (bgrow B2_2 (by go_size) (by repeat' (first | (with_reducible exact Below.refl _ _) | (with_reducible assumption) | (with_reducible refine bdrawn ?_ _) | (with_reducible refine Below.alloc ?_ ?_ _) | (with_reducible refine Below.drew ?_) | (with_reducible refine Below.setCell ?_ ?_ _) | go_size)))) h3 (by go_size)
  have B3_3 := h3
  have z3_0 : w1.heap.size < w3.heap.size := by omega
  have q3_0 := fun o => (bcell B3_2).1 (w1.heap.size) o (by go_size)
  have f3_0 := fun o => (bcell B3_2).2 (w1.heap.size) o (by go_size)
  have z3_1 : w2.heap.size < w3.heap.size := by omega
  have q3_1 := fun o => (bcell B3_3).1 (w2.heap.size) o (by go_size)
  have f3_1 := fun o => (bcell B3_3).2 (w2.heap.size) o (by go_size)
  have H3 : Below w.heap.size w w3 := bthen (by repeat' (first | (with_reducible exact Below.refl _ _) | (with_reducible assumption) | (with_reducible refine bdrawn ?_ _) | (with_reducible refine Below.alloc ?_ ?_ _) | (with_reducible refine Below.drew ?_) | (with_reducible refine Below.setCell ?_ ?_ _) | go_size)) h3 (by go_size)
  have C3 := (bcell H3).1; have F3 := (bcell H3).2
  have P3 : Below w2.heap.size w2 w3 := bthen (by repeat' (first | (with_reducible exact Below.refl _ _) | (with_reducible assumption) | (with_reducible refine bdrawn ?_ _) | (with_reducible refine Below.alloc ?_ ?_ _) | (with_reducible refine Below.drew ?_) | (with_reducible refine Below.setCell ?_ ?_ _) | go_size)) h3 (by go_size)
  replace r := hide (r.out.below P3 (by omega))
  replace g := hide (g.out.below P3 (by omega))
  go_wp2_with fail
  refine (laws_markLogStore _ _ _ 2 _ 1 _ _ (by omega) (by omega) (by omega) g.out).mono ?_
  rintro e w4 ⟨rfl, o4, v4⟩
  have h4 := Save.below v4 (by omega)
  have s4 := h4.size
  try simp only [World.size_alloc, World.size_setCell, World.size_drew, World.heap_drewN] at s4
  have B4_2 := bnext (by first | (with_reducible exact B3_2) | exact (bgrow B3_2 (by go_size) (by repeat' (first | (with_reducible exact Below.refl _ _) | (with_reducible assumption) | (with_reducible refine bdrawn ?_ _) | (with_reducible refine Below.alloc ?_ ?_ _) | (with_reducible refine Below.drew ?_) | (with_reducible refine Below.setCell ?_ ?_ _) | go_size)))) h4 (by go_size)
  have z4_0 : w1.heap.size < w4.heap.size := by omega
  have q4_0 := fun o => (bcell B4_2).1 (w1.heap.size) o (by go_size)
  have f4_0 := fun o => (bcell B4_2).2 (w1.heap.size) o (by go_size)
  have H4 : Below w.heap.size w w4 := bthen (by repeat' (first | (with_reducible exact Below.refl _ _) | (with_reducible assumption) | (with_reducible refine bdrawn ?_ _) | (with_reducible refine Below.alloc ?_ ?_ _) | (with_reducible refine Below.drew ?_) | (with_reducible refine Below.setCell ?_ ?_ _) | go_size)) h4 (by go_size)
  have C4 := (bcell H4).1; have F4 := (bcell H4).2
  replace r := hide (r.out.save v4 (by omega))
  replace g := hide o4
  have hk4 := fun o => save_cell v4 (b := w2.heap.size) (by omega) (by omega) o
  go_wp2_with fail
  refine (laws_heldLogStore _ 2 _ 1 _ (by omega) (by omega) (isStrs_owned g.out (markS_short (by omega) (by omega) (by omega)))).mono ?_
  rintro e w5 ⟨rfl, h5⟩
  have s5 := h5.size
  try simp only [World.size_alloc, World.size_setCell, World.size_drew, World.heap_drewN] at s5
  have B5_2 := bnext (by first | (with_reducible exact B4_2) | exact (bgrow B4_2 (by go_size) (by repeat' (first | (with_reducible exact Below.refl _ _) | (with_reducible assumption) | (with_reducible refine bdrawn ?_ _) | (with_reducible refine Below.alloc ?_ ?_ _) | (with_reducible refine Below.drew ?_) | (with_reducible refine Below.setCell ?_ ?_ _) | go_size)))) h5 (by go_size)
  have B5_5 := h5
  have z5_0 : w1.heap.size < w5.heap.size := by omega
  have q5_0 := fun o => (bcell B5_2).1 (w1.heap.size) o (by go_size)
  have f5_0 := fun o => (bcell B5_2).2 (w1.heap.size) o (by go_size)
  have z5_2 : w2.heap.size < w5.heap.size := by omega
  have q5_2 := fun o => (bcell B5_5).1 (w2.heap.size) o (by go_size)
  have f5_2 := fun o => (bcell B5_5).2 (w2.heap.size) o (by go_size)
  have H5 : Below w.heap.size w w5 := bthen (by repeat' (first | (with_reducible exact Below.refl _ _) | (with_reducible assumption) | (with_reducible refine bdrawn ?_ _) | (with_reducible refine Below.alloc ?_ ?_ _) | (with_reducible refine Below.drew ?_) | (with_reducible refine Below.setCell ?_ ?_ _) | go_size)) h5 (by go_size)
  have C5 := (bcell H5).1; have F5 := (bcell H5).2
  have P5 : Below w4.heap.size w4 w5 := bthen (by repeat' (first | (with_reducible exact Below.refl _ _) | (with_reducible assumption) | (with_reducible refine bdrawn ?_ _) | (with_reducible refine Below.alloc ?_ ?_ _) | (with_reducible refine Below.drew ?_) | (with_reducible refine Below.setCell ?_ ?_ _) | go_size)) h5 (by go_size)
  replace r := hide (r.out.below P5 (by omega))
  replace g := hide (g.out.below P5 (by omega))
  go_wp2_with fail
  refine (impl_LogNew _ (HG.out.below H5)).mono ?_
  rintro e w6 ⟨a6, c6, rfl, o6, h6⟩
  have s6 := h6.size
  try simp only [World.size_alloc, World.size_setCell, World.size_drew, World.heap_drewN] at s6
  have B6_2 := bnext (by first | (with_reducible exact B5_2) | exact (bgrow B5_2 (by go_size) (by repeat' (first | (with_reducible exact Below.refl _ _) | (with_reducible assumption) | (with_reducible refine bdrawn ?_ _) | (with_reducible refine Below.alloc ?_ ?_ _) | (with_reducible refine Below.drew ?_) | (with_reducible refine Below.setCell ?_ ?_ _) | go_size)))) h6 (by go_size)
  have B6_5 := bnext (by first | (with_reducible exact B5_5) | exact (bgrow B5_5 (by go_size) (by repeat' (first | (with_reducible exact Below.refl _ _) | (with_reducible assumption) | (with_reducible refine bdrawn ?_ _) | (with_reducible refine Below.alloc ?_ ?_ _) | (with_reducible refine Below.drew ?_) | (with_reducible refine Below.setCell ?_ ?_ _) | go_size)))) h6 (by go_size)
  have z6_0 : w1.heap.size < w6.heap.size := by omega
  have q6_0 := fun o => (bcell B6_2).1 (w1.heap.size) o (by go_size)
  have f6_0 := fun o => (bcell B6_2).2 (w1.heap.size) o (by go_size)
  have z6_2 : w2.heap.size < w6.heap.size := by omega
  have q6_2 := fun o => (bcell B6_5).1 (w2.heap.size) o (by go_size)
  have f6_2 := fun o => (bcell B6_5).2 (w2.heap.size) o (by go_size)
  have H6 : Below w.heap.size w w6 := bthen (by repeat' (first | (with_reducible exact Below.refl _ _) | (with_reducible assumption) | (with_reducible refine bdrawn ?_ _) | (with_reducible refine Below.alloc ?_ ?_ _) | (with_reducible refine Below.drew ?_) | (with_reducible refine Below.setCell ?_ ?_ _) | go_size)) h6 (by go_size)
  have C6 := (bcell H6).1; have F6 := (bcell H6).2
  have P6 : Below w5.heap.size w5 w6 := bthen (by repeat' (first | (with_reducible exact Below.refl _ _) | (with_reducible assumption) | (with_reducible refine bdrawn ?_ _) | (with_reducible refine Below.alloc ?_ ?_ _) | (with_reducible refine Below.drew ?_) | (with_reducible refine Below.setCell ?_ ?_ _) | go_size)) h6 (by go_size)
  replace r := hide (r.out.below P6 (by omega))
  replace g := hide (g.out.below P6 (by omega))
  have h := hide (Owned.of_own o6)
  clear o6
  go_wp2_with fail
  refine (laws_eqLogStore _ _ _ _ _ log0 _ (isStrs_owned (h.out.below (B := w6.heap.size) (by go_grown) (by omega)) HS.out) (isStrs_owned (r.out.below (B := w6.heap.size) (by go_grown) (by omega)) HS.out)).mono ?_
  rintro e w7 ⟨rfl, h7⟩
  have s7 := h7.size
  try simp only [World.size_alloc, World.size_setCell, World.size_drew, World.heap_drewN] at s7
  have B7_2 := bnext (by first | (with_reducible exact B6_2) | exact (bgrow B6_2 (by go_size) (by repeat' (first | (with_reducible exact Below.refl _ _) | (with_reducible assumption) | (with_reducible refine bdrawn ?_ _) | (with_reducible refine Below.alloc ?_ ?_ _) | (with_reducible refine Below.drew ?_) | (with_reducible refine Below.setCell ?_ ?_ _) | go_size)))) h7 (by go_size)
  have B7_5 := bnext (by first | (with_reducible exact B6_5) | exact (bgrow B6_5 (by go_size) (by repeat' (first | (with_reducible exact Below.refl _ _) | (with_reducible assumption) | (with_reducible refine bdrawn ?_ _) | (with_reducible refine Below.alloc ?_ ?_ _) | (with_reducible refine Below.drew ?_) | (with_reducible refine Below.setCell ?_ ?_ _) | go_size)))) h7 (by go_size)
  have B7_7 := h7
  have z7_0 : w1.heap.size < w7.heap.size := by omega
  have q7_0 := fun o => (bcell B7_2).1 (w1.heap.size) o (by go_size)
  have f7_0 := fun o => (bcell B7_2).2 (w1.heap.size) o (by go_size)
  have z7_2 : w2.heap.size < w7.heap.size := by omega
  have q7_2 := fun o => (bcell B7_5).1 (w2.heap.size) o (by go_size)
  have f7_2 := fun o => (bcell B7_5).2 (w2.heap.size) o (by go_size)
  have z7_3 : w6.heap.size < w7.heap.size := by omega
  have q7_3 := fun o => (bcell B7_7).1 (w6.heap.size) o (by go_size)
  have f7_3 := fun o => (bcell B7_7).2 (w6.heap.size) o (by go_size)
  have H7 : Below w.heap.size w w7 := bthen (by repeat' (first | (with_reducible exact Below.refl _ _) | (with_reducible assumption) | (with_reducible refine bdrawn ?_ _) | (with_reducible refine Below.alloc ?_ ?_ _) | (with_reducible refine Below.drew ?_) | (with_reducible refine Below.setCell ?_ ?_ _) | go_size)) h7 (by go_size)
  have C7 := (bcell H7).1; have F7 := (bcell H7).2
  have P7 : Below w6.heap.size w6 w7 := bthen (by repeat' (first | (with_reducible exact Below.refl _ _) | (with_reducible assumption) | (with_reducible refine bdrawn ?_ _) | (with_reducible refine Below.alloc ?_ ?_ _) | (with_reducible refine Below.drew ?_) | (with_reducible refine Below.setCell ?_ ?_ _) | go_size)) h7 (by go_size)
  replace r := hide (r.out.below P7 (by omega))
  replace g := hide (g.out.below P7 (by omega))
  replace h := hide (h.out.below P7 (by omega))
  go_wp2_with fail
  refine (laws_heldLogStore _ 2 _ 1 _ (by omega) (by omega) (isStrs_owned g.out (markS_short (by omega) (by omega) (by omega)))).mono ?_
  rintro e w8 ⟨rfl, h8⟩
  have s8 := h8.size
  try simp only [World.size_alloc, World.size_setCell, World.size_drew, World.heap_drewN] at s8
  have B8_2 := bnext (by first | (with_reducible exact B7_2) | exact (bgrow B7_2 (by go_size) (by repeat' (first | (with_reducible exact Below.refl _ _) | (with_reducible assumption) | (with_reducible refine bdrawn ?_ _) | (with_reducible refine Below.alloc ?_ ?_ _) | (with_reducible refine Below.drew ?_) | (with_reducible refine Below.setCell ?_ ?_ _) | go_size)))) h8 (by go_size)
  have B8_5 := bnext (by first | (with_reducible exact B7_5) | exact (bgrow B7_5 (by go_size) (by repeat' (first | (with_reducible exact Below.refl _ _) | (with_reducible assumption) | (with_reducible refine bdrawn ?_ _) | (with_reducible refine Below.alloc ?_ ?_ _) | (with_reducible refine Below.drew ?_) | (with_reducible refine Below.setCell ?_ ?_ _) | go_size)))) h8 (by go_size)
  have B8_7 := bnext (by first | (with_reducible exact B7_7) | exact (bgrow B7_7 (by go_size) (by repeat' (first | (with_reducible exact Below.refl _ _) | (with_reducible assumption) | (with_reducible refine bdrawn ?_ _) | (with_reducible refine Below.alloc ?_ ?_ _) | (with_reducible refine Below.drew ?_) | (with_reducible refine Below.setCell ?_ ?_ _) | go_size)))) h8 (by go_size)
  have z8_0 : w1.heap.size < w8.heap.size := by omega
  have q8_0 := fun o => (bcell B8_2).1 (w1.heap.size) o (by go_size)
  have f8_0 := fun o => (bcell B8_2).2 (w1.heap.size) o (by go_size)
  have z8_2 : w2.heap.size < w8.heap.size := by omega
  have q8_2 := fun o => (bcell B8_5).1 (w2.heap.size) o (by go_size)
  have f8_2 := fun o => (bcell B8_5).2 (w2.heap.size) o (by go_size)
  have z8_3 : w6.heap.size < w8.heap.size := by omega
  have q8_3 := fun o => (bcell B8_7).1 (w6.heap.size) o (by go_size)
  have f8_3 := fun o => (bcell B8_7).2 (w6.heap.size) o (by go_size)
  have H8 : Below w.heap.size w w8 := bthen (by repeat' (first | (with_reducible exact Below.refl _ _) | (with_reducible assumption) | (with_reducible refine bdrawn ?_ _) | (with_reducible refine Below.alloc ?_ ?_ _) | (with_reducible refine Below.drew ?_) | (with_reducible refine Below.setCell ?_ ?_ _) | go_size)) h8 (by go_size)
  have C8 := (bcell H8).1; have F8 := (bcell H8).2
  have P8 : Below w7.heap.size w7 w8 := bthen (by repeat' (first | (with_reducible exact Below.refl _ _) | (with_reducible assumption) | (with_reducible refine bdrawn ?_ _) | (with_reducible refine Below.alloc ?_ ?_ _) | (with_reducible refine Below.drew ?_) | (with_reducible refine Below.setCell ?_ ?_ _) | go_size)) h8 (by go_size)
  replace r := hide (r.out.below P8 (by omega))
  replace g := hide (g.out.below P8 (by omega))
  replace h := hide (h.out.below P8 (by omega))
  go_wp2_with fail
  go_ret
  exact ⟨rfl, by go_grown⟩
set_option maxRecDepth 100000 in
theorem FnExactLogNew_lifted (os : Os) (started : os.Started) (H : Type) (enc : TypeId × Value → H) :
    ReturnsInHanded {} Tryd.checked os 5 .any (fun w args => (Rows.fnExactLogNewSpec.pre enc Tryd.prog Tryd.f5 [] false w args ∧ laidMetH Tryd.prog Rows.fnExactLogNewRow.laid w) ∧ sizedMet enc Tryd.prog Tryd.f5 (OpenSpec.ofChange Rows.fnExactLogNewSpec) false w args)
      (Rows.fnExactLogNewSpec.post enc Tryd.prog Tryd.f5 false true false false) := by
  refine door_wrap (C := Tryd.checked) (X := fun w _ => laidMetH Tryd.prog Rows.fnExactLogNewRow.laid w) (fun _ _ _ hh h => h.of_heap hh) try_own started (by kernel_rfl) Tryd.func5
    (ChangeSpec.witness_shaped (enc := enc) (C := Tryd.checked) (os := os) (X := fun w _ => laidMetH Tryd.prog Rows.fnExactLogNewRow.laid w) false (World.laidAll Tryd.prog os Rows.fnExactLogNewRow.laid) #[] 8 (World.laidAll_os _ _ _)
      (World.shaped_of_ZipB (by kernel_rfl) (by kernel_rfl)) (by kernel_rfl) (by kernel_rfl) (by kernel_rfl)
      (by rw [MakeChecks.laidMetH_plain _ _ _ (by kernel_rfl)]; exact laidMet_laidAll _ (by kernel_rfl) (by kernel_rfl))) ?_
  intro W base args ds gs before hval0 hW _ _ hL hSh _
  rw [MakeChecks.laidMetH_plain _ _ _ (by kernel_rfl)] at hL
  have hgood : Good W := good_of hL hSh
  have hval : ∀ (j : Nat) t v, Tryd.f5.params[j]? = some t → args[j]? = some v → Value.okWide Tryd.prog W .any base t v := hval0
  have hW' := hW
  obtain ⟨p, q, hA0, hV, rfl, hfz, hnd⟩ := hW
  have hA : DataW.TrodAll enc Tryd.prog W 0 (fun _ => true) true Tryd.f5.params.toList args.toList ds p := hA0
  rw [Tryd.params5] at hA hval
  obtain ⟨hargs, rfl, rfl⟩ := trodAll_nil hA
  obtain rfl : args = #[] := by cases args; simp_all
  obtain ⟨rfl, rfl⟩ := trodVars_none hV
  try simp only [List.append_nil] at hW'
  clear hA0 hval0
  refine (FnExactLogNew_walk  W hgood).mono fun e W' ⟨he, bel⟩ => ?_
  subst he
  exact ⟨_, rfl, _, _, _, [], _, [], hW', trodAll_mk1 (shut_bool Tryd.underlying4 _), trodAll_mk0, rfl, bel.frame _, fun h => by cases h⟩

theorem FnExactLogNew_holds : Rows.FnExactLogNewSaid :=
  OpenClaim.holds_of_wide 5 Tryd.f5 rfl rfl rfl rfl rfl rfl rfl ⟨rfl, rfl, rfl, rfl, rfl⟩ rfl rfl rfl rfl rfl (by kernel_rfl) Tryd.func5 (by kernel_rfl)
    (of_decide_eq_true (by kernel_rfl)) (by unfold Func.isWrapper; rw [if_neg (of_decide_eq_false (by kernel_rfl))]; exact ⟨rfl, rfl⟩)
    (fun os started H enc _ => FnExactLogNew_lifted os started H enc)
theorem FnExactLogNew_card : Rows.FnExactLogNewCardSaid :=
  Claim7.holds_tied_plain_at .later [] [.data, .data, .data] true (true, "db3932f5ca78fea8835bc8ddd515987acb19a4f8921aa1f4aa3ed976f54975c6") false FnExactLogNew_holds (fun _ h => by cases h) (by kernel_rfl) (fun _ h => by cases h) fnExactLogNew_row_tie rfl ⟨rfl, rfl⟩ (by kernel_rfl) rfl
    (fun f fn hf hfn => by
      obtain rfl : f = 5 := Option.some.inj ((show Tryd.prog.funcNamed Rows.fnExactLogNewRow.func = some 5 by kernel_rfl).symm.trans hf) |>.symm
      obtain rfl : fn = Tryd.f5 := (Option.some.inj (Tryd.func5.symm.trans hfn)).symm
      exact ⟨by kernel_rfl, fun j t ht => by
        rw [Tryd.params5] at ht
        simp at ht⟩)
    (by kernel_rfl)
#print axioms FnExactLogNew_card
end Go.Proofs.YtheifhjnbpbkhaaDoor
