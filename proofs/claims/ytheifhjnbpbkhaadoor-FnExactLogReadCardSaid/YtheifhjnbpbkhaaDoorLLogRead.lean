/- For every log the program's LogRead returns what the reference's returns, in memory of its own, and leaves the log as it was. No condition. -/
import Derived.Test.YtheifhjnbpbkhaaDoorLog3
import Derived.Test.YtheifhjnbpbkhaaDoorDoor
import Derived.Test.YtheifhjnbpbkhaaDoorAggs
set_option linter.unusedSimpArgs false
set_option linter.unusedVariables false
namespace Go.Proofs.YtheifhjnbpbkhaaDoor
open Go.RowKit Go.ChangeShapes Go.WideShapes Go.ChangeAt Go.Joins Go.Deep
open Go.ChangeMaps (open_string shut_string)
theorem rdL_len {ss : List ByteArray} : (decL (rdL ss)).length ≤ 6 := by
  rcases best_cases ss with hb | ⟨b, s, hb, _, hbs, _⟩
  · rw [rdL_none (by omega)]; simp [decL]
  · rw [rdL_at hb hbs]
    cases h : dcdI (toL s) with
    | none => simp [decL]
    | some r =>
      obtain ⟨n, es⟩ := r
      have := (encB_len (dcdI_some h).1).2.2
      simpa [decL] using this
set_option maxRecDepth 100000 in
set_option maxHeartbeats 4000000 in
theorem FnExactLogRead_walk (a : Option Addr) (n c : Nat) (ss : List ByteArray) (w : World) (ha : IsStrs w a n c ss) (hG : Good w) :
    Calls Tryd.prog 6 #[.agg #[.slice a n c]] w fun e w' => e = .returned (.bool true) ∧ Below w.heap.size w w' := by
  have hln := ha.1
  have hm : c ≤ 9223372036854775807 := ha.2.2.1
  have hc := ha.2.1
  by_cases hfit : n + sumS ss ss.length ≤ 1048576
  · obtain ⟨N, hn⟩ : ∃ N, decN (rdL ss) = N := ⟨_, rfl⟩
    obtain ⟨es, hes⟩ : ∃ es, decL (rdL ss) = es := ⟨_, rfl⟩
    obtain ⟨ok, hok⟩ : ∃ ok, (rdL ss).isSome = ok := ⟨_, rfl⟩
    obtain ⟨K, hK⟩ : ∃ K, es.length = K := ⟨_, rfl⟩
    have hK6 : K ≤ 6 := by rw [← hK, ← hes]; exact rdL_len
    have hszs : ∀ s ∈ ss, s.size ≤ 1048576 := fun s hs => by have := mem_sumS hs; omega
    have hszm : ∀ s ∈ ss, s.size ≤ maxLen := fun s hs => by have := hszs s hs; unfold maxLen; omega
    obtain ⟨r, hr⟩ : ∃ r : Int, (if ((n + sumS ss ss.length : Nat) : Int) ≤ 1048576 then 1048576 - ((n + sumS ss ss.length : Nat) : Int) else -1) = r := ⟨_, rfl⟩
    have hr0 : 0 ≤ r := by rw [← hr, if_pos (by omega)]; omega
    have tr : decide (r < 0) = false := decide_eq_false (by omega)
    have HA := hide ha; have HG := hide hG; have HR := hide hr; have HSZ := hide hszs; have HSM := hide hszm
    have HI := hide (And.intro hn (And.intro hes (And.intro hK hok)))
    have hs1 : n ≤ 1048576 := by omega
    clear ha hG hr hszs hszm hn hes hok hK
    go_enter Tryd.func6, Tryd.ntmps6
    go_wp2_with fail
    refine (laws_szLogStore a n c ss _ r _ (HA.out.below (B := w.heap.size) (by go_grown) (Nat.le_refl _)) (by omega) (by omega) HR.out).mono ?_
    rintro e w1 ⟨rfl, h1⟩
    have s1 := h1.size
    try simp only [World.size_alloc, World.size_setCell, World.size_drew, World.heap_drewN] at s1
    have B1_1 := h1
    have z1_0 : w.heap.size < w1.heap.size := by omega
    have q1_0 := fun o => (bcell B1_1).1 (w.heap.size) o (by go_size)
    have f1_0 := fun o => (bcell B1_1).2 (w.heap.size) o (by go_size)
    have H1 : Below w.heap.size w w1 := bthen (by repeat' (first | (with_reducible exact Below.refl _ _) | (with_reducible assumption) | (with_reducible refine bdrawn ?_ _) | (with_reducible refine Below.alloc ?_ ?_ _) | (with_reducible refine Below.drew ?_) | (with_reducible refine Below.setCell ?_ ?_ _) | go_size)) h1 (by go_size)
    have C1 := (bcell H1).1; have F1 := (bcell H1).2
    go_wp2_with fail
    refine (laws_toLogStore a n c ss _ (HA.out.below H1 (Nat.le_refl _)) hs1).mono ?_
    rintro e w2 ⟨a2, c2, rfl, o2, h2⟩
    have s2 := h2.size
    try simp only [World.size_alloc, World.size_setCell, World.size_drew, World.heap_drewN] at s2
    have B2_1 := bnext (by first | (with_reducible exact B1_1) | exact (bgrow B1_1 (by go_size) (by repeat' (first | (with_reducible exact Below.refl _ _) | (with_reducible assumption) | (with_reducible refine bdrawn ?_ _) | (with_reducible refine Below.alloc ?_ ?_ _) | (with_reducible refine Below.drew ?_) | (with_reducible refine Below.setCell ?_ ?_ _) | go_size)))) h2 (by go_size)
    have z2_0 : w.heap.size < w2.heap.size := by omega
    have q2_0 := fun o => (bcell B2_1).1 (w.heap.size) o (by go_size)
    have f2_0 := fun o => (bcell B2_1).2 (w.heap.size) o (by go_size)
    have H2 : Below w.heap.size w w2 := bthen (by repeat' (first | (with_reducible exact Below.refl _ _) | (with_reducible assumption) | (with_reducible refine bdrawn ?_ _) | (with_reducible refine Below.alloc ?_ ?_ _) | (with_reducible refine Below.drew ?_) | (with_reducible refine Below.setCell ?_ ?_ _) | go_size)) h2 (by go_size)
    have C2 := (bcell H2).1; have F2 := (bcell H2).2
    have p := hide (Owned.of_own o2)
    clear o2
    go_wp2_with fail
    refine (spec_LogRead _ n _ ss N K es ok _ (isStrs_owned p.out HSM.out) hs1 HSZ.out HI.out.1 HI.out.2.1 HI.out.2.2.1 HI.out.2.2.2).mono ?_
    rintro e w3 ⟨a3, c3, rfl, o3, h3⟩
    have s3 := h3.size
    try simp only [World.size_alloc, World.size_setCell, World.size_drew, World.heap_drewN] at s3
    have B3_1 := bnext (by first | (with_reducible exact B2_1) | exact (bgrow B2_1 (by go_size) (by repeat' (first | (with_reducible exact Below.refl _ _) | (with_reducible assumption) | (with_reducible refine bdrawn ?_ _) | (with_reducible refine Below.alloc ?_ ?_ _) | (with_reducible refine Below.drew ?_) | (with_reducible refine Below.setCell ?_ ?_ _) | go_size)))) h3 (by go_size)
    have z3_0 : w.heap.size < w3.heap.size := by omega
    have q3_0 := fun o => (bcell B3_1).1 (w.heap.size) o (by go_size)
    have f3_0 := fun o => (bcell B3_1).2 (w.heap.size) o (by go_size)
    have H3 : Below w.heap.size w w3 := bthen (by repeat' (first | (with_reducible exact Below.refl _ _) | (with_reducible assumption) | (with_reducible refine bdrawn ?_ _) | (with_reducible refine Below.alloc ?_ ?_ _) | (with_reducible refine Below.drew ?_) | (with_reducible refine Below.setCell ?_ ?_ _) | go_size)) h3 (by go_size)
    have C3 := (bcell H3).1; have F3 := (bcell H3).2
    have P3 : Below w2.heap.size w2 w3 := bthen (by repeat' (first | (with_reducible exact Below.refl _ _) | (with_reducible assumption) | (with_reducible refine bdrawn ?_ _) | (with_reducible refine Below.alloc ?_ ?_ _) | (with_reducible refine Below.drew ?_) | (with_reducible refine Below.setCell ?_ ?_ _) | go_size)) h3 (by go_size)
    replace p := hide (p.out.below P3 (by omega))
    have r0 := hide (Owned.of_own o3)
    clear o3
    go_wp2_with fail
    refine (laws_toLogStore a n c ss _ (HA.out.below H3 (Nat.le_refl _)) hs1).mono ?_
    rintro e w4 ⟨a4, c4, rfl, o4, h4⟩
    have s4 := h4.size
    try simp only [World.size_alloc, World.size_setCell, World.size_drew, World.heap_drewN] at s4
    have B4_1 := bnext (by first | (with_reducible exact B3_1) | exact (bgrow B3_1 (by go_size) (by repeat' (first | (with_reducible exact Below.refl _ _) | (with_reducible assumption) | (with_reducible refine bdrawn ?_ _) | (with_reducible refine Below.alloc ?_ ?_ _) | (with_reducible refine Below.drew ?_) | (with_reducible refine Below.setCell ?_ ?_ _) | go_size)))) h4 (by go_size)
    have z4_0 : w.heap.size < w4.heap.size := by omega
    have q4_0 := fun o => (bcell B4_1).1 (w.heap.size) o (by go_size)
    have f4_0 := fun o => (bcell B4_1).2 (w.heap.size) o (by go_size)
    have H4 : Below w.heap.size w w4 := bthen (by repeat' (first | (with_reducible exact Below.refl _ _) | (with_reducible assumption) | (with_reducible refine bdrawn ?_ _) | (with_reducible refine Below.alloc ?_ ?_ _) | (with_reducible refine Below.drew ?_) | (with_reducible refine Below.setCell ?_ ?_ _) | go_size)) h4 (by go_size)
    have C4 := (bcell H4).1; have F4 := (bcell H4).2
    have P4 : Below w3.heap.size w3 w4 := bthen (by repeat' (first | (with_reducible exact Below.refl _ _) | (with_reducible assumption) | (with_reducible refine bdrawn ?_ _) | (with_reducible refine Below.alloc ?_ ?_ _) | (with_reducible refine Below.drew ?_) | (with_reducible refine Below.setCell ?_ ?_ _) | go_size)) h4 (by go_size)
    replace p := hide (p.out.below P4 (by omega))
    replace r0 := hide (r0.out.below P4 (by omega))
    have x := hide (Owned.of_own o4)
    clear o4
    go_wp2_with fail
    refine (impl_LogRead _ n _ ss N K es ok _ (isStrs_owned (x.out.below (B := w4.heap.size) (by go_grown) (by omega)) HSM.out) hs1 HSZ.out HI.out.1 HI.out.2.1 HI.out.2.2.1 HI.out.2.2.2 (HG.out.below (by go_grown))).mono ?_
    rintro e w5 ⟨a5, c5, rfl, o5, h5⟩
    have s5 := h5.size
    try simp only [World.size_alloc, World.size_setCell, World.size_drew, World.heap_drewN] at s5
    have B5_1 := bnext (by first | (with_reducible exact B4_1) | exact (bgrow B4_1 (by go_size) (by repeat' (first | (with_reducible exact Below.refl _ _) | (with_reducible assumption) | (with_reducible refine bdrawn ?_ _) | (with_reducible refine Below.alloc ?_ ?_ _) | (with_reducible refine Below.drew ?_) | (with_reducible refine Below.setCell ?_ ?_ _) | go_size)))) h5 (by go_size)
    have B5_5 := h5
    have z5_0 : w.heap.size < w5.heap.size := by omega
    have q5_0 := fun o => (bcell B5_1).1 (w.heap.size) o (by go_size)
    have f5_0 := fun o => (bcell B5_1).2 (w.heap.size) o (by go_size)
    have z5_1 : w4.heap.size < w5.heap.size := by omega
    have q5_1 := fun o => (bcell B5_5).1 (w4.heap.size) o (by go_size)
    have f5_1 := fun o => (bcell B5_5).2 (w4.heap.size) o (by go_size)
    have H5 : Below w.heap.size w w5 := bthen (by repeat' (first | (with_reducible exact Below.refl _ _) | (with_reducible assumption) | (with_reducible refine bdrawn ?_ _) | (with_reducible refine Below.alloc ?_ ?_ _) | (with_reducible refine Below.drew ?_) | (with_reducible refine Below.setCell ?_ ?_ _) | go_size)) h5 (by go_size)
    have C5 := (bcell H5).1; have F5 := (bcell H5).2
    have P5 : Below w4.heap.size w4 w5 := bthen (by repeat' (first | (with_reducible exact Below.refl _ _) | (with_reducible assumption) | (with_reducible refine bdrawn ?_ _) | (with_reducible refine Below.alloc ?_ ?_ _) | (with_reducible refine Below.drew ?_) | (with_reducible refine Below.setCell ?_ ?_ _) | go_size)) h5 (by go_size)
    replace p := hide (p.out.below P5 (by omega))
    replace r0 := hide (r0.out.below P5 (by omega))
    replace x := hide (x.out.below P5 (by omega))
    have g := hide (Owned.of_own o5)
    clear o5
    go_wp2_with fail
    refine (laws_eqErrorEntryS _ _ _ _ _ _ _ (isStructs_own enF_len (by omega) g.out.1) (isStructs_own enF_len (by omega) r0.out.1)).mono ?_
    rintro e w6 ⟨rfl, h6⟩
    have s6 := h6.size
    try simp only [World.size_alloc, World.size_setCell, World.size_drew, World.heap_drewN] at s6
    have B6_1 := bnext (by first | (with_reducible exact B5_1) | exact (bgrow B5_1 (by go_size) (by repeat' (first | (with_reducible exact Below.refl _ _) | (with_reducible assumption) | (with_reducible refine bdrawn ?_ _) | (with_reducible refine Below.alloc ?_ ?_ _) | (with_reducible refine Below.drew ?_) | (with_reducible refine Below.setCell ?_ ?_ _) | go_size)))) h6 (by go_size)
    have B6_5 := bnext (by first | (with_reducible exact B5_5) | exact (bgrow B5_5 (by go_size) (by repeat' (first | (with_reducible exact Below.refl _ _) | (with_reducible assumption) | (with_reducible refine bdrawn ?_ _) | (with_reducible refine Below.alloc ?_ ?_ _) | (with_reducible refine Below.drew ?_) | (with_reducible refine Below.setCell ?_ ?_ _) | go_size)))) h6 (by go_size)
    have z6_0 : w.heap.size < w6.heap.size := by omega
    have q6_0 := fun o => (bcell B6_1).1 (w.heap.size) o (by go_size)
    have f6_0 := fun o => (bcell B6_1).2 (w.heap.size) o (by go_size)
    have z6_1 : w4.heap.size < w6.heap.size := by omega
    have q6_1 := fun o => (bcell B6_5).1 (w4.heap.size) o (by go_size)
    have f6_1 := fun o => (bcell B6_5).2 (w4.heap.size) o (by go_size)
    have H6 : Below w.heap.size w w6 := bthen (by repeat' (first | (with_reducible exact Below.refl _ _) | (with_reducible assumption) | (with_reducible refine bdrawn ?_ _) | (with_reducible refine Below.alloc ?_ ?_ _) | (with_reducible refine Below.drew ?_) | (with_reducible refine Below.setCell ?_ ?_ _) | go_size)) h6 (by go_size)
    have C6 := (bcell H6).1; have F6 := (bcell H6).2
    have P6 : Below w5.heap.size w5 w6 := bthen (by repeat' (first | (with_reducible exact Below.refl _ _) | (with_reducible assumption) | (with_reducible refine bdrawn ?_ _) | (with_reducible refine Below.alloc ?_ ?_ _) | (with_reducible refine Below.drew ?_) | (with_reducible refine Below.setCell ?_ ?_ _) | go_size)) h6 (by go_size)
    replace p := hide (p.out.below P6 (by omega))
    replace r0 := hide (r0.out.below P6 (by omega))
    replace x := hide (x.out.below P6 (by omega))
    replace g := hide (g.out.below P6 (by omega))
    go_wp2_with fail
    go_region_held3 (fun v => v.cell? ⟨w.heap.size, 0, none⟩ = some (.slice a n c) ∧ v.cell? ⟨w4.heap.size, 0, none⟩ = some (.slice a4 n c4)) (first | go_keep | simp [go_sem, *]) (first | (go_at_call 26; refine (laws_toLogStore a n c ss _ (HA.out.below (B := w.heap.size) (by go_grown) (Nat.le_refl _)) hs1).mono ?_; rintro e w7 ⟨a7, c7, rfl, o7, h7⟩; have s7 := h7.size; (try simp only [World.size_alloc, World.size_setCell, World.size_drew, World.heap_drewN] at s7); have B7_1 := bnext (by first | (with_reducible exact B6_1) | exact (bgrow B6_1 (by go_size) (by repeat' (first | (with_reducible exact Below.refl _ _) | (with_reducible assumption) | (with_reducible refine bdrawn ?_ _) | (with_reducible refine Below.alloc ?_ ?_ _) | (with_reducible refine Below.drew ?_) | (with_reducible refine Below.setCell ?_ ?_ _) | go_size)))) h7 (by go_size); have B7_5 := bnext (by first | (with_reducible exact B6_5) | exact (bgrow B6_5 (by go_size) (by repeat' (first | (with_reducible exact Below.refl _ _) | (with_reducible assumption) | (with_reducible refine bdrawn ?_ _) | (with_reducible refine Below.alloc ?_ ?_ _) | (with_reducible refine Below.drew ?_) | (with_reducible refine Below.setCell ?_ ?_ _) | go_size)))) h7 (by go_size); have z7_0 : w.heap.size < w7.heap.size := (by omega); have q7_0 := fun o => (bcell B7_1).1 (w.heap.size) o (by go_size); have f7_0 := fun o => (bcell B7_1).2 (w.heap.size) o (by go_size); have z7_1 : w4.heap.size < w7.heap.size := (by omega); have q7_1 := fun o => (bcell B7_5).1 (w4.heap.size) o (by go_size); have f7_1 := fun o => (bcell B7_5).2 (w4.heap.size) o (by go_size); have H7 : Below w.heap.size w w7 := bthen (by repeat' (first | (with_reducible exact Below.refl _ _) | (with_reducible assumption) | (with_reducible refine bdrawn ?_ _) | (with_reducible refine Below.alloc ?_ ?_ _) | (with_reducible refine Below.drew ?_) | (with_reducible refine Below.setCell ?_ ?_ _) | go_size)) h7 (by go_size); have C7 := (bcell H7).1; have F7 := (bcell H7).2; have P7 : Below w6.heap.size w6 w7 := bthen (by repeat' (first | (with_reducible exact Below.refl _ _) | (with_reducible assumption) | (with_reducible refine bdrawn ?_ _) | (with_reducible refine Below.alloc ?_ ?_ _) | (with_reducible refine Below.drew ?_) | (with_reducible refine Below.setCell ?_ ?_ _) | go_size)) h7 (by go_size); replace p := hide (p.out.below P7 (by omega)); replace r0 := hide (r0.out.below P7 (by omega)); replace x := hide (x.out.below P7 (by omega)); replace g := hide (g.out.below P7 (by omega)); have x2 := hide (Owned.of_own o7); clear o7) | (go_at_call 21; refine (laws_eqLogStore _ _ n _ _ ss _ (isStrs_owned x.out HSM.out) (isStrs_owned x2.out HSM.out)).mono ?_; rintro e w8 ⟨rfl, h8⟩; have s8 := h8.size; (try simp only [World.size_alloc, World.size_setCell, World.size_drew, World.heap_drewN] at s8); have B8_1 := bnext (by first | (with_reducible exact B7_1) | exact (bgrow B7_1 (by go_size) (by repeat' (first | (with_reducible exact Below.refl _ _) | (with_reducible assumption) | (with_reducible refine bdrawn ?_ _) | (with_reducible refine Below.alloc ?_ ?_ _) | (with_reducible refine Below.drew ?_) | (with_reducible refine Below.setCell ?_ ?_ _) | go_size)))) h8 (by go_size); have B8_5 := bnext (by first | (with_reducible exact B7_5) | exact (bgrow B7_5 (by go_size) (by repeat' (first | (with_reducible exact Below.refl _ _) | (with_reducible assumption) | (with_reducible refine bdrawn ?_ _) | (with_reducible refine Below.alloc ?_ ?_ _) | (with_reducible refine Below.drew ?_) | (with_reducible refine Below.setCell ?_ ?_ _) | go_size)))) h8 (by go_size); have z8_0 : w.heap.size < w8.heap.size := (by omega); have q8_0 := fun o => (bcell B8_1).1 (w.heap.size) o (by go_size); have f8_0 := fun o => (bcell B8_1).2 (w.heap.size) o (by go_size); have z8_1 : w4.heap.size < w8.heap.size := (by omega); have q8_1 := fun o => (bcell B8_5).1 (w4.heap.size) o (by go_size); have f8_1 := fun o => (bcell B8_5).2 (w4.heap.size) o (by go_size); have H8 : Below w.heap.size w w8 := bthen (by repeat' (first | (with_reducible exact Below.refl _ _) | (with_reducible assumption) | (with_reducible refine bdrawn ?_ _) | (with_reducible refine Below.alloc ?_ ?_ _) | (with_reducible refine Below.drew ?_) | (with_reducible refine Below.setCell ?_ ?_ _) | go_size)) h8 (by go_size); have C8 := (bcell H8).1; have F8 := (bcell H8).2; have P8 : Below w7.heap.size w7 w8 := bthen (by repeat' (first | (with_reducible exact Below.refl _ _) | (with_reducible assumption) | (with_reducible refine bdrawn ?_ _) | (with_reducible refine Below.alloc ?_ ?_ _) | (with_reducible refine Below.drew ?_) | (with_reducible refine Below.setCell ?_ ?_ _) | go_size)) h8 (by go_size); replace p := hide (p.out.below P8 (by omega)); replace r0 := hide (r0.out.below P8 (by omega)); replace x := hide (x.out.below P8 (by omega)); replace g := hide (g.out.below P8 (by omega)); replace x2 := hide (x2.out.below P8 (by omega))))
    have sA := (show w4.heap.size + 1 ≤ (w4.alloc (.cells #[.slice a4 n c4] 35)).heap.size by simp)
    have sA2 := (show (w4.alloc (.cells #[.slice a4 n c4] 35)).heap.size ≤ w4.heap.size + 1 by simp)
    have sB : w6.heap.size ≤ (World.drew w6).heap.size := Nat.le_refl _
    go_wp2_with fail
    refine (laws_markLogStore _ _ _ n _ 1 _ _ (by omega) hs1 (by omega) x.out).mono ?_
    rintro e w9 ⟨rfl, o9, v9⟩
    have h9 := Save.below v9 (by omega)
    have s9 := h9.size
    try simp only [World.size_alloc, World.size_setCell, World.size_drew, World.heap_drewN] at s9
    have B9_1 := bnext (by first | (with_reducible exact B8_1) | exact (bgrow B8_1 (by go_size) (by repeat' (first | (with_reducible exact Below.refl _ _) | (with_reducible assumption) | (with_reducible refine bdrawn ?_ _) | (with_reducible refine Below.alloc ?_ ?_ _) | (with_reducible refine Below.drew ?_) | (with_reducible refine Below.setCell ?_ ?_ _) | go_size)))) h9 (by go_size)
    have z9_0 : w.heap.size < w9.heap.size := by omega
    have q9_0 := fun o => (bcell B9_1).1 (w.heap.size) o (by go_size)
    have f9_0 := fun o => (bcell B9_1).2 (w.heap.size) o (by go_size)
    have H9 : Below w.heap.size w w9 := bthen (by repeat' (first | (with_reducible exact Below.refl _ _) | (with_reducible assumption) | (with_reducible refine bdrawn ?_ _) | (with_reducible refine Below.alloc ?_ ?_ _) | (with_reducible refine Below.drew ?_) | (with_reducible refine Below.setCell ?_ ?_ _) | go_size)) h9 (by go_size)
    have C9 := (bcell H9).1; have F9 := (bcell H9).2
    replace p := hide (p.out.save v9 (by omega))
    replace r0 := hide (r0.out.save v9 (by omega))
    clear x o9
    replace g := hide (g.out.save v9 (by omega))
    replace x2 := hide (x2.out.save v9 (by omega))
    go_wp2_with fail
    refine (laws_eqErrorEntryS _ _ _ _ _ _ _ (isStructs_own enF_len (by omega) g.out.1) (isStructs_own enF_len (by omega) r0.out.1)).mono ?_
    rintro e w10 ⟨rfl, h10⟩
    have s10 := h10.size
    try simp only [World.size_alloc, World.size_setCell, World.size_drew, World.heap_drewN] at s10
    have B10_1 := bnext (by first | (with_reducible exact B9_1) | exact (bgrow B9_1 (by go_size) (by repeat' (first | (with_reducible exact Below.refl _ _) | (with_reducible assumption) | (with_reducible refine bdrawn ?_ _) | (with_reducible refine Below.alloc ?_ ?_ _) | (with_reducible refine Below.drew ?_) | (with_reducible refine Below.setCell ?_ ?_ _) | go_size)))) h10 (by go_size)
    have z10_0 : w.heap.size < w10.heap.size := by omega
    have q10_0 := fun o => (bcell B10_1).1 (w.heap.size) o (by go_size)
    have f10_0 := fun o => (bcell B10_1).2 (w.heap.size) o (by go_size)
    have H10 : Below w.heap.size w w10 := bthen (by repeat' (first | (with_reducible exact Below.refl _ _) | (with_reducible assumption) | (with_reducible refine bdrawn ?_ _) | (with_reducible refine Below.alloc ?_ ?_ _) | (with_reducible refine Below.drew ?_) | (with_reducible refine Below.setCell ?_ ?_ _) | go_size)) h10 (by go_size)
    have C10 := (bcell H10).1; have F10 := (bcell H10).2
    have P10 : Below w9.heap.size w9 w10 := bthen (by repeat' (first | (with_reducible exact Below.refl _ _) | (with_reducible assumption) | (with_reducible refine bdrawn ?_ _) | (with_reducible refine Below.alloc ?_ ?_ _) | (with_reducible refine Below.drew ?_) | (with_reducible refine Below.setCell ?_ ?_ _) | go_size)) h10 (by go_size)
    replace p := hide (p.out.below P10 (by omega))
    replace r0 := hide (r0.out.below P10 (by omega))
    replace g := hide (g.out.below P10 (by omega))
    replace x2 := hide (x2.out.below P10 (by omega))
    go_wp2_with fail
    refine (laws_markErrorEntryS _ _ _ _ _ _ _ _ (by omega) (by omega) g.out).mono ?_
    rintro e w11 ⟨rfl, o11, v11⟩
    have h11 := Save.below v11 (by omega)
    have s11 := h11.size
    try simp only [World.size_alloc, World.size_setCell, World.size_drew, World.heap_drewN] at s11
    have B11_1 := bnext (by first | (with_reducible exact B10_1) | exact (bgrow B10_1 (by go_size) (by repeat' (first | (with_reducible exact Below.refl _ _) | (with_reducible assumption) | (with_reducible refine bdrawn ?_ _) | (with_reducible refine Below.alloc ?_ ?_ _) | (with_reducible refine Below.drew ?_) | (with_reducible refine Below.setCell ?_ ?_ _) | go_size)))) h11 (by go_size)
    have z11_0 : w.heap.size < w11.heap.size := by omega
    have q11_0 := fun o => (bcell B11_1).1 (w.heap.size) o (by go_size)
    have f11_0 := fun o => (bcell B11_1).2 (w.heap.size) o (by go_size)
    have H11 : Below w.heap.size w w11 := bthen (by repeat' (first | (with_reducible exact Below.refl _ _) | (with_reducible assumption) | (with_reducible refine bdrawn ?_ _) | (with_reducible refine Below.alloc ?_ ?_ _) | (with_reducible refine Below.drew ?_) | (with_reducible refine Below.setCell ?_ ?_ _) | go_size)) h11 (by go_size)
    have C11 := (bcell H11).1; have F11 := (bcell H11).2
    replace p := hide (p.out.save v11 (by omega))
    replace r0 := hide (r0.out.save v11 (by omega))
    replace g := hide o11
    replace x2 := hide (x2.out.save v11 (by omega))
    go_wp2_with fail
    refine (laws_heldErrorEntryS _ _ _ _ _ (by omega) (by omega) (isStructs_own enF_len (by omega) g.out.1)).mono ?_
    rintro e w12 ⟨rfl, h12⟩
    have s12 := h12.size
    try simp only [World.size_alloc, World.size_setCell, World.size_drew, World.heap_drewN] at s12
    have B12_1 := bnext (by first | (with_reducible exact B11_1) | exact (bgrow B11_1 (by go_size) (by repeat' (first | (with_reducible exact Below.refl _ _) | (with_reducible assumption) | (with_reducible refine bdrawn ?_ _) | (with_reducible refine Below.alloc ?_ ?_ _) | (with_reducible refine Below.drew ?_) | (with_reducible refine Below.setCell ?_ ?_ _) | go_size)))) h12 (by go_size)
    have z12_0 : w.heap.size < w12.heap.size := by omega
    have q12_0 := fun o => (bcell B12_1).1 (w.heap.size) o (by go_size)
    have f12_0 := fun o => (bcell B12_1).2 (w.heap.size) o (by go_size)
    have H12 : Below w.heap.size w w12 := bthen (by repeat' (first | (with_reducible exact Below.refl _ _) | (with_reducible assumption) | (with_reducible refine bdrawn ?_ _) | (with_reducible refine Below.alloc ?_ ?_ _) | (with_reducible refine Below.drew ?_) | (with_reducible refine Below.setCell ?_ ?_ _) | go_size)) h12 (by go_size)
    have C12 := (bcell H12).1; have F12 := (bcell H12).2
    have P12 : Below w11.heap.size w11 w12 := bthen (by repeat' (first | (with_reducible exact Below.refl _ _) | (with_reducible assumption) | (with_reducible refine bdrawn ?_ _) | (with_reducible refine Below.alloc ?_ ?_ _) | (with_reducible refine Below.drew ?_) | (with_reducible refine Below.setCell ?_ ?_ _) | go_size)) h12 (by go_size)
    replace p := hide (p.out.below P12 (by omega))
    replace r0 := hide (r0.out.below P12 (by omega))
    replace g := hide (g.out.below P12 (by omega))
    replace x2 := hide (x2.out.below P12 (by omega))
    go_wp2_with fail
    refine (laws_toLogStore a n c ss _ (HA.out.below H12 (Nat.le_refl _)) hs1).mono ?_
    rintro e w13 ⟨a13, c13, rfl, o13, h13⟩
    have s13 := h13.size
    try simp only [World.size_alloc, World.size_setCell, World.size_drew, World.heap_drewN] at s13
    have B13_1 := bnext (by first | (with_reducible exact B12_1) | exact (bgrow B12_1 (by go_size) (by repeat' (first | (with_reducible exact Below.refl _ _) | (with_reducible assumption) | (with_reducible refine bdrawn ?_ _) | (with_reducible refine Below.alloc ?_ ?_ _) | (with_reducible refine Below.drew ?_) | (with_reducible refine Below.setCell ?_ ?_ _) | go_size)))) h13 (by go_size)
    have z13_0 : w.heap.size < w13.heap.size := by omega
    have q13_0 := fun o => (bcell B13_1).1 (w.heap.size) o (by go_size)
    have f13_0 := fun o => (bcell B13_1).2 (w.heap.size) o (by go_size)
    have H13 : Below w.heap.size w w13 := bthen (by repeat' (first | (with_reducible exact Below.refl _ _) | (with_reducible assumption) | (with_reducible refine bdrawn ?_ _) | (with_reducible refine Below.alloc ?_ ?_ _) | (with_reducible refine Below.drew ?_) | (with_reducible refine Below.setCell ?_ ?_ _) | go_size)) h13 (by go_size)
    have C13 := (bcell H13).1; have F13 := (bcell H13).2
    have P13 : Below w12.heap.size w12 w13 := bthen (by repeat' (first | (with_reducible exact Below.refl _ _) | (with_reducible assumption) | (with_reducible refine bdrawn ?_ _) | (with_reducible refine Below.alloc ?_ ?_ _) | (with_reducible refine Below.drew ?_) | (with_reducible refine Below.setCell ?_ ?_ _) | go_size)) h13 (by go_size)
    replace p := hide (p.out.below P13 (by omega))
    replace r0 := hide (r0.out.below P13 (by omega))
    replace g := hide (g.out.below P13 (by omega))
    replace x2 := hide (x2.out.below P13 (by omega))
    have p3 := hide (Owned.of_own o13)
    clear o13
    go_wp2_with fail
    refine (impl_LogRead _ n _ ss N K es ok _ (isStrs_owned p3.out HSM.out) hs1 HSZ.out HI.out.1 HI.out.2.1 HI.out.2.2.1 HI.out.2.2.2 (HG.out.below H13)).mono ?_
    rintro e w14 ⟨a14, c14, rfl, o14, h14⟩
    have s14 := h14.size
    try simp only [World.size_alloc, World.size_setCell, World.size_drew, World.heap_drewN] at s14
    have B14_1 := bnext (by first | (with_reducible exact B13_1) | exact (bgrow B13_1 (by go_size) (by repeat' (first | (with_reducible exact Below.refl _ _) | (with_reducible assumption) | (with_reducible refine bdrawn ?_ _) | (with_reducible refine Below.alloc ?_ ?_ _) | (with_reducible refine Below.drew ?_) | (with_reducible refine Below.setCell ?_ ?_ _) | go_size)))) h14 (by go_size)
    have z14_0 : w.heap.size < w14.heap.size := by omega
    have q14_0 := fun o => (bcell B14_1).1 (w.heap.size) o (by go_size)
    have f14_0 := fun o => (bcell B14_1).2 (w.heap.size) o (by go_size)
    have H14 : Below w.heap.size w w14 := bthen (by repeat' (first | (with_reducible exact Below.refl _ _) | (with_reducible assumption) | (with_reducible refine bdrawn ?_ _) | (with_reducible refine Below.alloc ?_ ?_ _) | (with_reducible refine Below.drew ?_) | (with_reducible refine Below.setCell ?_ ?_ _) | go_size)) h14 (by go_size)
    have C14 := (bcell H14).1; have F14 := (bcell H14).2
    have P14 : Below w13.heap.size w13 w14 := bthen (by repeat' (first | (with_reducible exact Below.refl _ _) | (with_reducible assumption) | (with_reducible refine bdrawn ?_ _) | (with_reducible refine Below.alloc ?_ ?_ _) | (with_reducible refine Below.drew ?_) | (with_reducible refine Below.setCell ?_ ?_ _) | go_size)) h14 (by go_size)
    replace p := hide (p.out.below P14 (by omega))
    replace r0 := hide (r0.out.below P14 (by omega))
    replace g := hide (g.out.below P14 (by omega))
    replace x2 := hide (x2.out.below P14 (by omega))
    replace p3 := hide (p3.out.below P14 (by omega))
    have h := hide (Owned.of_own o14)
    clear o14
    go_wp2_with fail
    refine (laws_eqErrorEntryS _ _ _ _ _ _ _ (isStructs_own enF_len (by omega) h.out.1) (isStructs_own enF_len (by omega) r0.out.1)).mono ?_
    rintro e w15 ⟨rfl, h15⟩
    have s15 := h15.size
    try simp only [World.size_alloc, World.size_setCell, World.size_drew, World.heap_drewN] at s15
    have B15_1 := bnext (by first | (with_reducible exact B14_1) | exact (bgrow B14_1 (by go_size) (by repeat' (first | (with_reducible exact Below.refl _ _) | (with_reducible assumption) | (with_reducible refine bdrawn ?_ _) | (with_reducible refine Below.alloc ?_ ?_ _) | (with_reducible refine Below.drew ?_) | (with_reducible refine Below.setCell ?_ ?_ _) | go_size)))) h15 (by go_size)
    have z15_0 : w.heap.size < w15.heap.size := by omega
    have q15_0 := fun o => (bcell B15_1).1 (w.heap.size) o (by go_size)
    have f15_0 := fun o => (bcell B15_1).2 (w.heap.size) o (by go_size)
    have H15 : Below w.heap.size w w15 := bthen (by repeat' (first | (with_reducible exact Below.refl _ _) | (with_reducible assumption) | (with_reducible refine bdrawn ?_ _) | (with_reducible refine Below.alloc ?_ ?_ _) | (with_reducible refine Below.drew ?_) | (with_reducible refine Below.setCell ?_ ?_ _) | go_size)) h15 (by go_size)
    have C15 := (bcell H15).1; have F15 := (bcell H15).2
    have P15 : Below w14.heap.size w14 w15 := bthen (by repeat' (first | (with_reducible exact Below.refl _ _) | (with_reducible assumption) | (with_reducible refine bdrawn ?_ _) | (with_reducible refine Below.alloc ?_ ?_ _) | (with_reducible refine Below.drew ?_) | (with_reducible refine Below.setCell ?_ ?_ _) | go_size)) h15 (by go_size)
    replace p := hide (p.out.below P15 (by omega))
    replace r0 := hide (r0.out.below P15 (by omega))
    replace g := hide (g.out.below P15 (by omega))
    replace x2 := hide (x2.out.below P15 (by omega))
    replace p3 := hide (p3.out.below P15 (by omega))
    replace h := hide (h.out.below P15 (by omega))
    go_wp2_with fail
    refine (laws_heldErrorEntryS _ _ _ _ _ (by omega) (by omega) (isStructs_own enF_len (by omega) g.out.1)).mono ?_
    rintro e w16 ⟨rfl, h16⟩
    have s16 := h16.size
    try simp only [World.size_alloc, World.size_setCell, World.size_drew, World.heap_drewN] at s16
    have B16_1 := bnext (by first | (with_reducible exact B15_1) | exact (bgrow B15_1 (by go_size) (by repeat' (first | (with_reducible exact Below.refl _ _) | (with_reducible assumption) | (with_reducible refine bdrawn ?_ _) | (with_reducible refine Below.alloc ?_ ?_ _) | (with_reducible refine Below.drew ?_) | (with_reducible refine Below.setCell ?_ ?_ _) | go_size)))) h16 (by go_size)
    have z16_0 : w.heap.size < w16.heap.size := by omega
    have q16_0 := fun o => (bcell B16_1).1 (w.heap.size) o (by go_size)
    have f16_0 := fun o => (bcell B16_1).2 (w.heap.size) o (by go_size)
    have H16 : Below w.heap.size w w16 := bthen (by repeat' (first | (with_reducible exact Below.refl _ _) | (with_reducible assumption) | (with_reducible refine bdrawn ?_ _) | (with_reducible refine Below.alloc ?_ ?_ _) | (with_reducible refine Below.drew ?_) | (with_reducible refine Below.setCell ?_ ?_ _) | go_size)) h16 (by go_size)
    have C16 := (bcell H16).1; have F16 := (bcell H16).2
    have P16 : Below w15.heap.size w15 w16 := bthen (by repeat' (first | (with_reducible exact Below.refl _ _) | (with_reducible assumption) | (with_reducible refine bdrawn ?_ _) | (with_reducible refine Below.alloc ?_ ?_ _) | (with_reducible refine Below.drew ?_) | (with_reducible refine Below.setCell ?_ ?_ _) | go_size)) h16 (by go_size)
    replace p := hide (p.out.below P16 (by omega))
    replace r0 := hide (r0.out.below P16 (by omega))
    replace g := hide (g.out.below P16 (by omega))
    replace x2 := hide (x2.out.below P16 (by omega))
    replace p3 := hide (p3.out.below P16 (by omega))
    replace h := hide (h.out.below P16 (by omega))
    go_wp2_with fail
    go_ret
    exact ⟨rfl, by go_grown⟩
  · have HR : Hid ((if ((n + sumS ss ss.length : Nat) : Int) ≤ 1048576 then 1048576 - ((n + sumS ss ss.length : Nat) : Int) else -1) = -1) := hide (if_neg (by omega))
    have HA := hide ha
    clear ha
    go_enter Tryd.func6, Tryd.ntmps6
    go_wp2_with fail
    refine (laws_szLogStore a n c ss _ (-1) _ (HA.out.below (B := w.heap.size) (by go_grown) (Nat.le_refl _)) (by omega) (by omega) HR.out).mono ?_
    rintro e w1 ⟨rfl, h1⟩
    have s1 := h1.size
    try simp only [World.size_alloc, World.size_setCell, World.size_drew, World.heap_drewN] at s1
    have B1_1 := h1
    have z1_0 : w.heap.size < w1.heap.size := by omega
    have q1_0 := fun o => (bcell B1_1).1 (w.heap.size) o (by go_size)
    have f1_0 := fun o => (bcell B1_1).2 (w.heap.size) o (by go_size)
    have H1 : Below w.heap.size w w1 := bthen (by repeat' (first | (with_reducible exact Below.refl _ _) | (with_reducible assumption) | (with_reducible refine bdrawn ?_ _) | (with_reducible refine Below.alloc ?_ ?_ _) | (with_reducible refine Below.drew ?_) | (with_reducible refine Below.setCell ?_ ?_ _) | go_size)) h1 (by go_size)
    have C1 := (bcell H1).1; have F1 := (bcell H1).2
    go_wp2_with fail
    go_ret
    exact ⟨rfl, by go_grown⟩
set_option maxRecDepth 100000 in
theorem FnExactLogRead_lifted (os : Os) (started : os.Started) (H : Type) (enc : TypeId × Value → H) :
    ReturnsInHanded {} Tryd.checked os 6 .any (fun w args => (Rows.fnExactLogReadSpec.pre enc Tryd.prog Tryd.f6 [] false w args ∧ laidMetH Tryd.prog Rows.fnExactLogReadRow.laid w) ∧ sizedMet enc Tryd.prog Tryd.f6 (OpenSpec.ofChange Rows.fnExactLogReadSpec) false w args)
      (Rows.fnExactLogReadSpec.post enc Tryd.prog Tryd.f6 false true false false) := by
  refine door_wrap (C := Tryd.checked) (X := fun w _ => laidMetH Tryd.prog Rows.fnExactLogReadRow.laid w) (fun _ _ _ hh h => h.of_heap hh) try_own started (by kernel_rfl) Tryd.func6
    (ChangeSpec.witness_shaped (enc := enc) (C := Tryd.checked) (os := os) (X := fun w _ => laidMetH Tryd.prog Rows.fnExactLogReadRow.laid w) false (World.laidAll Tryd.prog os Rows.fnExactLogReadRow.laid) #[.agg #[.slice none 0 0]] 8 (World.laidAll_os _ _ _)
      (World.shaped_of_ZipB (by kernel_rfl) (by kernel_rfl)) (by kernel_rfl) (by kernel_rfl) (by kernel_rfl)
      (by rw [MakeChecks.laidMetH_plain _ _ _ (by kernel_rfl)]; exact laidMet_laidAll _ (by kernel_rfl) (by kernel_rfl))) ?_
  intro W base args ds gs before hval0 hW _ _ hL hSh _
  rw [MakeChecks.laidMetH_plain _ _ _ (by kernel_rfl)] at hL
  have hgood : Good W := good_of hL hSh
  have hval : ∀ (j : Nat) t v, Tryd.f6.params[j]? = some t → args[j]? = some v → Value.okWide Tryd.prog W .any base t v := hval0
  have hW' := hW
  obtain ⟨p, q, hA0, hV, rfl, hfz, hnd⟩ := hW
  have hA : DataW.TrodAll enc Tryd.prog W 0 (fun _ => true) true Tryd.f6.params.toList args.toList ds p := hA0
  rw [Tryd.params6] at hA hval
  obtain ⟨v0, vs0, d0, ds0, p0, q0, hargs, rfl, rfl, h0, r0⟩ := trodAll_cons hA
  obtain ⟨rfl, rfl, rfl⟩ := trodAll_nil r0
  obtain rfl : args = #[v0] := by cases args; simp_all
  obtain ⟨rfl, rfl⟩ := trodVars_none hV
  try simp only [List.append_nil] at hW'
  have k0 := h0
  have lt0 : ∀ x ∈ p0, x.block < W.heap.size := by obtain ⟨m, hm⟩ := k0; exact DataW.trod_lt m _ _ _ hm
  obtain ⟨v0_0, y0_0, m0, rfl, rfl, _, hy0_0⟩ := open_agg1 Tryd.underlying40 (by kernel_rfl) (by kernel_rfl) (hval 0 40 v0 rfl rfl) h0
  obtain ⟨a_x0_0, n_x0_0, c_x0_0, x0_0, e_x0_0, w_x0_0⟩ := isStrs_of Tryd.underlying33 Tryd.underlying9 (by kernel_rfl) hy0_0
  simp only [List.cons.injEq, and_true] at e_x0_0; subst e_x0_0
  clear hA0 hval0
  refine (FnExactLogRead_walk a_x0_0 n_x0_0 c_x0_0 x0_0 W w_x0_0 hgood).mono fun e W' ⟨he, bel⟩ => ?_
  subst he
  exact ⟨_, rfl, _, _, _, [], _, [], hW', trodAll_mk1 (shut_bool Tryd.underlying4 _), (trodAll_cons_mk (Below.trod try_laidOut (by kernel_rfl) (of_decide_eq_true (by kernel_rfl)) k0 bel lt0) trodAll_mk0), rfl, bel.frame _, fun h => by cases h⟩

theorem FnExactLogRead_holds : Rows.FnExactLogReadSaid :=
  OpenClaim.holds_of_wide 6 Tryd.f6 rfl rfl rfl rfl rfl rfl rfl ⟨rfl, rfl, rfl, rfl, rfl⟩ rfl rfl rfl rfl rfl (by kernel_rfl) Tryd.func6 (by kernel_rfl)
    (of_decide_eq_true (by kernel_rfl)) (by unfold Func.isWrapper; rw [if_neg (of_decide_eq_false (by kernel_rfl))]; exact ⟨rfl, rfl⟩)
    (fun os started H enc _ => FnExactLogRead_lifted os started H enc)
theorem FnExactLogRead_card : Rows.FnExactLogReadCardSaid :=
  Claim7.holds_tied_plain_at .later [] [.data, .data, .data, .data, .pinned] true (true, "db3932f5ca78fea8835bc8ddd515987acb19a4f8921aa1f4aa3ed976f54975c6") false FnExactLogRead_holds (fun _ h => by cases h) (by kernel_rfl) (fun _ h => by cases h) fnExactLogRead_row_tie rfl ⟨rfl, rfl⟩ (by kernel_rfl) rfl
    (fun f fn hf hfn => by
      obtain rfl : f = 6 := Option.some.inj ((show Tryd.prog.funcNamed Rows.fnExactLogReadRow.func = some 6 by kernel_rfl).symm.trans hf) |>.symm
      obtain rfl : fn = Tryd.f6 := (Option.some.inj (Tryd.func6.symm.trans hfn)).symm
      exact ⟨by kernel_rfl, fun j t ht => by
        rw [Tryd.params6] at ht
        have hm : t ∈ [40] := by simpa using Array.mem_of_getElem? ht
        have hall : ([40].all fun u => !Tryd.prog.wantsStandIn u) = true := by kernel_rfl
        exact (show Tryd.prog.wantsStandIn t = false by simpa using List.all_eq_true.1 hall t hm)⟩)
    (by kernel_rfl)
#print axioms FnExactLogRead_card
end Go.Proofs.YtheifhjnbpbkhaaDoor
