/- For every log, list and number of bytes the program's LogWrite returns what the reference's returns, in memory of its own, and leaves its arguments as they were. No condition. -/
import Derived.Test.YtheifhjnbpbkhaaDoorLog4
import Derived.Test.YtheifhjnbpbkhaaDoorDoor
import Derived.Test.YtheifhjnbpbkhaaDoorAggs
set_option linter.unusedSimpArgs false
set_option linter.unusedVariables false
namespace Go.Proofs.YtheifhjnbpbkhaaDoor
open Go.RowKit Go.ChangeShapes Go.WideShapes Go.ChangeAt Go.Joins Go.Deep
open Go.ChangeMaps (open_string shut_string)
theorem cutT_le (t : List UInt8) (b : Int) : (cutT t b).length ≤ t.length := by
  unfold cutT; split
  · rw [List.length_take]; omega
  · exact Nat.le_refl _
theorem enc_len (n : Int) (es : List En) : (enc n es).length ≤ 82 := by
  unfold enc; split
  · next h => exact (encB_len h).1
  · simp
theorem wrL_short {ss : List ByteArray} {list : List En} {bytes : Int} (h : ∀ s ∈ ss, s.size ≤ maxLen) : ∀ s ∈ wrL ss list bytes, s.size ≤ maxLen := by
  intro s hs
  unfold wrL at hs
  split at hs
  · rcases List.mem_or_eq_of_mem_set hs with h1 | rfl
    · exact h s h1
    · have h1 := cutT_le (wrT ss list) bytes
      have h2 := enc_len (decN (rdL ss) + 1) list
      have h3 : (wrT ss list).length ≤ 82 := h2
      rw [strOf_size]; unfold maxLen; omega
  · exact h s hs
set_option maxRecDepth 100000 in
set_option maxHeartbeats 8000000 in
theorem FnExactLogWrite_walk (a : Option Addr) (n c : Nat) (ss : List ByteArray) (a2 : Option Addr) (n2 c2 : Nat) (list : List En) (bytes : Int) (w : World) (ha : IsStrs w a n c ss) (ha2 : IsStructs enF 3 w a2 n2 c2 list) (hG : Good w) :
    Calls Tryd.prog 7 #[.agg #[.slice a n c], .slice a2 n2 c2, .int .i64 bytes] w fun e w' => e = .returned (.bool true) ∧ Below w.heap.size w w' := by
  have hln := ha.1
  have hm : c ≤ 9223372036854775807 := ha.2.2.1
  have hc := ha.2.1
  have hm2 : c2 ≤ 9223372036854775807 := ha2.2.2.1
  have hc2 := ha2.2.1
  by_cases hfit : n + sumS ss ss.length ≤ 1048576
  · obtain ⟨r, hr⟩ : ∃ r : Int, (if ((n + sumS ss ss.length : Nat) : Int) ≤ 1048576 then 1048576 - ((n + sumS ss ss.length : Nat) : Int) else -1) = r := ⟨_, rfl⟩
    have hr0 : 0 ≤ r := by rw [← hr, if_pos (by omega)]; omega
    have hr1 : r ≤ 1048576 := by rw [← hr, if_pos (by omega)]; omega
    have tr : decide (r < 0) = false := decide_eq_false (by omega)
    by_cases hfit2 : (n2 : Int) ≤ r
    · obtain ⟨S, hS⟩ : ∃ S, wrL ss list bytes = S := ⟨_, rfl⟩
      obtain ⟨ok, hok⟩ : ∃ ok, wrOk ss list = ok := ⟨_, rfl⟩
      have hszs : ∀ s ∈ ss, s.size ≤ 1048576 := fun s hs => by have := mem_sumS hs; omega
      have hszm : ∀ s ∈ ss, s.size ≤ maxLen := fun s hs => by have := hszs s hs; unfold maxLen; omega
      have hSm : ∀ s ∈ S, s.size ≤ maxLen := by rw [← hS]; exact wrL_short hszm
      have HA := hide ha; have HA2 := hide ha2; have HG := hide hG; have HR := hide hr; have HSZ := hide hszs; have HSM := hide hszm; have HSS := hide hSm
      have HI := hide (And.intro hS hok)
      have hs1 : n ≤ 1048576 := by omega
      have hs2 : n2 ≤ 1048576 := by omega
      have g9 : (0 : Int) ≤ r - (n2 : Int) := by omega
      have g8 : (0 : Int) ≤ (n2 : Int) := by omega
      clear ha ha2 hG hr hszs hszm hSm hS hok
      go_enter Tryd.func7, Tryd.ntmps7
      go_wp2_with fail
      refine (laws_szLogStore a n c ss _ r _ (HA.out.below (B := w.heap.size) (by go_grown) (Nat.le_refl _)) (by omega) (by omega) HR.out).mono ?_
      rintro e w1 ⟨rfl, h1⟩
      have s1 := h1.size
      try simp only [World.size_alloc, World.size_setCell, World.size_drew, World.heap_drewN] at s1
      have B1_1 := h1
      have z1_0 : w.heap.size < w1.heap.size := by omega
      have q1_0 := fun o => (bcell B1_1).1 (w.heap.size) o (by go_size)
      have f1_0 := fun o => (bcell B1_1).2 (w.heap.size) o (by go_size)
      have H1 : Below w.heap.size w w1 := bthen (by repeat' (first | (with_reducible exact Below.refl _ _) | (with_reducible assumption) | (with_reducible refine bdrawn ?_ _) | (with_reducible refine Below.alloc ?_ ?_ _) | (with_reducible refine Below.drew ?_) | (with_reducible refine Below.setCell ?_ ?_ _) | go_size)) h1 (by go_size)
      have C1 := (bcell H1).1; have F1 := (bcell H1).2
      go_wp2_with fail
      refine (laws_szErrorEntryS _ _ _ _ _ (by omega) (by omega) (by omega)).mono ?_
      rintro e w2 ⟨rfl, h2⟩
      have s2 := h2.size
      try simp only [World.size_alloc, World.size_setCell, World.size_drew, World.heap_drewN] at s2
      have B2_1 := bnext (by first | (with_reducible exact B1_1) | exact (bgrow B1_1 (by go_size) (by repeat' (first | (with_reducible exact Below.refl _ _) | (with_reducible assumption) | (with_reducible refine bdrawn ?_ _) | (with_reducible refine Below.alloc ?_ ?_ _) | (with_reducible refine Below.drew ?_) | (with_reducible refine Below.setCell ?_ ?_ _) | go_size)))) h2 (by go_size)
      have z2_0 : w.heap.size < w2.heap.size := by omega
      have q2_0 := fun o => (bcell B2_1).1 (w.heap.size) o (by go_size)
      have f2_0 := fun o => (bcell B2_1).2 (w.heap.size) o (by go_size)
      have H2 : Below w.heap.size w w2 := bthen (by repeat' (first | (with_reducible exact Below.refl _ _) | (with_reducible assumption) | (with_reducible refine bdrawn ?_ _) | (with_reducible refine Below.alloc ?_ ?_ _) | (with_reducible refine Below.drew ?_) | (with_reducible refine Below.setCell ?_ ?_ _) | go_size)) h2 (by go_size)
      have C2 := (bcell H2).1; have F2 := (bcell H2).2
      go_wp2_with fail
      refine (laws_toLogStore a n c ss _ (HA.out.below H2 (Nat.le_refl _)) hs1).mono ?_
      rintro e w3 ⟨a3, c3, rfl, o3, h3⟩
      have s3 := h3.size
      try simp only [World.size_alloc, World.size_setCell, World.size_drew, World.heap_drewN] at s3
      have B3_1 := bnext (by first | (with_reducible exact B2_1) | exact (bgrow B2_1 (by go_size) (by repeat' (first | (with_reducible exact Below.refl _ _) | (with_reducible assumption) | (with_reducible refine bdrawn ?_ _) | (with_reducible refine Below.alloc ?_ ?_ _) | (with_reducible refine Below.drew ?_) | (with_reducible refine Below.setCell ?_ ?_ _) | go_size)))) h3 (by go_size)
      have z3_0 : w.heap.size < w3.heap.size := by omega
      have q3_0 := fun o => (bcell B3_1).1 (w.heap.size) o (by go_size)
      have f3_0 := fun o => (bcell B3_1).2 (w.heap.size) o (by go_size)
      have H3 : Below w.heap.size w w3 := bthen (by repeat' (first | (with_reducible exact Below.refl _ _) | (with_reducible assumption) | (with_reducible refine bdrawn ?_ _) | (with_reducible refine Below.alloc ?_ ?_ _) | (with_reducible refine Below.drew ?_) | (with_reducible refine Below.setCell ?_ ?_ _) | go_size)) h3 (by go_size)
      have C3 := (bcell H3).1; have F3 := (bcell H3).2
      have p := hide (Owned.of_own o3)
      clear o3
      go_wp2_with fail
      refine (laws_toErrorEntryS _ _ _ list _ (HA2.out.below H3 (Nat.le_refl _)) hs2).mono ?_
      rintro e w4 ⟨a4, c4, rfl, o4, h4⟩
      have s4 := h4.size
      try simp only [World.size_alloc, World.size_setCell, World.size_drew, World.heap_drewN] at s4
      have B4_1 := bnext (by first | (with_reducible exact B3_1) | exact (bgrow B3_1 (by go_size) (by repeat' (first | (with_reducible exact Below.refl _ _) | (with_reducible assumption) | (with_reducible refine bdrawn ?_ _) | (with_reducible refine Below.alloc ?_ ?_ _) | (with_reducible refine Below.drew ?_) | (with_reducible refine Below.setCell ?_ ?_ _) | go_size)))) h4 (by go_size)
      have z4_0 : w.heap.size < w4.heap.size := by omega
      have q4_0 := fun o => (bcell B4_1).1 (w.heap.size) o (by go_size)
      have f4_0 := fun o => (bcell B4_1).2 (w.heap.size) o (by go_size)
      have H4 : Below w.heap.size w w4 := bthen (by repeat' (first | (with_reducible exact Below.refl _ _) | (with_reducible assumption) | (with_reducible refine bdrawn ?_ _) | (with_reducible refine Below.alloc ?_ ?_ _) | (with_reducible refine Below.drew ?_) | (with_reducible refine Below.setCell ?_ ?_ _) | go_size)) h4 (by go_size)
      have C4 := (bcell H4).1; have F4 := (bcell H4).2
      have P4 : Below w3.heap.size w3 w4 := bthen (by repeat' (first | (with_reducible exact Below.refl _ _) | (with_reducible assumption) | (with_reducible refine bdrawn ?_ _) | (with_reducible refine Below.alloc ?_ ?_ _) | (with_reducible refine Below.drew ?_) | (with_reducible refine Below.setCell ?_ ?_ _) | go_size)) h4 (by go_size)
      replace p := hide (p.out.below P4 (by omega))
      have pe := hide (Owned.of_own o4)
      clear o4
      go_wp2_with fail
      refine (spec_LogWrite _ n _ ss _ n2 _ list bytes S ok _ (isStrs_owned p.out HSM.out) hs1 HSZ.out (isStructs_own enF_len (by omega) pe.out.1) hs2 HI.out.1 HI.out.2).mono ?_
      rintro e w5 ⟨a5, c5, rfl, o5, h5⟩
      have s5 := h5.size
      try simp only [World.size_alloc, World.size_setCell, World.size_drew, World.heap_drewN] at s5
      have B5_1 := bnext (by first | (with_reducible exact B4_1) | exact (bgrow B4_1 (by go_size) (by repeat' (first | (with_reducible exact Below.refl _ _) | (with_reducible assumption) | (with_reducible refine bdrawn ?_ _) | (with_reducible refine Below.alloc ?_ ?_ _) | (with_reducible refine Below.drew ?_) | (with_reducible refine Below.setCell ?_ ?_ _) | go_size)))) h5 (by go_size)
      have z5_0 : w.heap.size < w5.heap.size := by omega
      have q5_0 := fun o => (bcell B5_1).1 (w.heap.size) o (by go_size)
      have f5_0 := fun o => (bcell B5_1).2 (w.heap.size) o (by go_size)
      have H5 : Below w.heap.size w w5 := bthen (by repeat' (first | (with_reducible exact Below.refl _ _) | (with_reducible assumption) | (with_reducible refine bdrawn ?_ _) | (with_reducible refine Below.alloc ?_ ?_ _) | (with_reducible refine Below.drew ?_) | (with_reducible refine Below.setCell ?_ ?_ _) | go_size)) h5 (by go_size)
      have C5 := (bcell H5).1; have F5 := (bcell H5).2
      have P5 : Below w4.heap.size w4 w5 := bthen (by repeat' (first | (with_reducible exact Below.refl _ _) | (with_reducible assumption) | (with_reducible refine bdrawn ?_ _) | (with_reducible refine Below.alloc ?_ ?_ _) | (with_reducible refine Below.drew ?_) | (with_reducible refine Below.setCell ?_ ?_ _) | go_size)) h5 (by go_size)
      replace p := hide (p.out.below P5 (by omega))
      replace pe := hide (pe.out.below P5 (by omega))
      have r0 := hide (Owned.of_own o5)
      clear o5
      have sW := (show w5.heap.size + 1 ≤ (w5.alloc (.cells #[.slice a5 n c5] 35)).heap.size by simp)
      have sW2 := (show (w5.alloc (.cells #[.slice a5 n c5] 35)).heap.size ≤ w5.heap.size + 1 by simp)
      go_wp2_with fail
      refine (laws_toLogStore a n c ss _ (HA.out.below (B := w.heap.size) (by go_grown) (Nat.le_refl _)) hs1).mono ?_
      rintro e w6 ⟨a6, c6, rfl, o6, h6⟩
      have s6 := h6.size
      try simp only [World.size_alloc, World.size_setCell, World.size_drew, World.heap_drewN] at s6
      have B6_1 := bnext (by first | (with_reducible exact B5_1) | exact (bgrow B5_1 (by go_size) (by repeat' (first | (with_reducible exact Below.refl _ _) | (with_reducible assumption) | (with_reducible refine bdrawn ?_ _) | (with_reducible refine Below.alloc ?_ ?_ _) | (with_reducible refine Below.drew ?_) | (with_reducible refine Below.setCell ?_ ?_ _) | go_size)))) h6 (by go_size)
      have B6_6 := h6
      have z6_0 : w.heap.size < w6.heap.size := by omega
      have q6_0 := fun o => (bcell B6_1).1 (w.heap.size) o (by go_size)
      have f6_0 := fun o => (bcell B6_1).2 (w.heap.size) o (by go_size)
      have z6_1 : w5.heap.size < w6.heap.size := by omega
      have q6_1 := fun o => (bcell B6_6).1 (w5.heap.size) o (by go_size)
      have f6_1 := fun o => (bcell B6_6).2 (w5.heap.size) o (by go_size)
      have H6 : Below w.heap.size w w6 := bthen (by repeat' (first | (with_reducible exact Below.refl _ _) | (with_reducible assumption) | (with_reducible refine bdrawn ?_ _) | (with_reducible refine Below.alloc ?_ ?_ _) | (with_reducible refine Below.drew ?_) | (with_reducible refine Below.setCell ?_ ?_ _) | go_size)) h6 (by go_size)
      have C6 := (bcell H6).1; have F6 := (bcell H6).2
      have P6 : Below w5.heap.size w5 w6 := bthen (by repeat' (first | (with_reducible exact Below.refl _ _) | (with_reducible assumption) | (with_reducible refine bdrawn ?_ _) | (with_reducible refine Below.alloc ?_ ?_ _) | (with_reducible refine Below.drew ?_) | (with_reducible refine Below.setCell ?_ ?_ _) | go_size)) h6 (by go_size)
      replace p := hide (p.out.below P6 (by omega))
      replace pe := hide (pe.out.below P6 (by omega))
      replace r0 := hide (r0.out.below P6 (by omega))
      have x := hide (Owned.of_own o6)
      clear o6
      have sA := (show w6.heap.size + 1 ≤ (w6.alloc (.cells #[.slice a6 n c6] 35)).heap.size by simp)
      have sA2 := (show (w6.alloc (.cells #[.slice a6 n c6] 35)).heap.size ≤ w6.heap.size + 1 by simp)
      go_wp2_with fail
      refine (laws_toErrorEntryS _ _ _ list _ (HA2.out.below (B := w.heap.size) (by go_grown) (Nat.le_refl _)) hs2).mono ?_
      rintro e w7 ⟨a7, c7, rfl, o7, h7⟩
      have s7 := h7.size
      try simp only [World.size_alloc, World.size_setCell, World.size_drew, World.heap_drewN] at s7
      have B7_1 := bnext (by first | (with_reducible exact B6_1) | exact (bgrow B6_1 (by go_size) (by repeat' (first | (with_reducible exact Below.refl _ _) | (with_reducible assumption) | (with_reducible refine bdrawn ?_ _) | (with_reducible refine Below.alloc ?_ ?_ _) | (with_reducible refine Below.drew ?_) | (with_reducible refine Below.setCell ?_ ?_ _) | go_size)))) h7 (by go_size)
      have B7_6 := bnext (by first | (with_reducible exact B6_6) | exact (bgrow B6_6 (by go_size) (by repeat' (first | (with_reducible exact Below.refl _ _) | (with_reducible assumption) | (with_reducible refine bdrawn ?_ _) | (with_reducible refine Below.alloc ?_ ?_ _) | (with_reducible refine Below.drew ?_) | (with_reducible refine Below.setCell ?_ ?_ _) | go_size)))) h7 (by go_size)
      have B7_7 := h7
      have z7_0 : w.heap.size < w7.heap.size := by omega
      have q7_0 := fun o => (bcell B7_1).1 (w.heap.size) o (by go_size)
      have f7_0 := fun o => (bcell B7_1).2 (w.heap.size) o (by go_size)
      have z7_1 : w5.heap.size < w7.heap.size := by omega
      have q7_1 := fun o => (bcell B7_6).1 (w5.heap.size) o (by go_size)
      have f7_1 := fun o => (bcell B7_6).2 (w5.heap.size) o (by go_size)
      have z7_2 : w6.heap.size < w7.heap.size := by omega
      have q7_2 := fun o => (bcell B7_7).1 (w6.heap.size) o (by go_size)
      have f7_2 := fun o => (bcell B7_7).2 (w6.heap.size) o (by go_size)
      have H7 : Below w.heap.size w w7 := bthen (by repeat' (first | (with_reducible exact Below.refl _ _) | (with_reducible assumption) | (with_reducible refine bdrawn ?_ _) | (with_reducible refine Below.alloc ?_ ?_ _) | (with_reducible refine Below.drew ?_) | (with_reducible refine Below.setCell ?_ ?_ _) | go_size)) h7 (by go_size)
      have C7 := (bcell H7).1; have F7 := (bcell H7).2
      have P7 : Below w6.heap.size w6 w7 := bthen (by repeat' (first | (with_reducible exact Below.refl _ _) | (with_reducible assumption) | (with_reducible refine bdrawn ?_ _) | (with_reducible refine Below.alloc ?_ ?_ _) | (with_reducible refine Below.drew ?_) | (with_reducible refine Below.setCell ?_ ?_ _) | go_size)) h7 (by go_size)
      replace p := hide (p.out.below P7 (by omega))
      replace pe := hide (pe.out.below P7 (by omega))
      replace r0 := hide (r0.out.below P7 (by omega))
      replace x := hide (x.out.below P7 (by omega))
      have y := hide (Owned.of_own o7)
      clear o7
      go_wp2_with fail
      refine (impl_LogWrite _ n _ ss _ n2 _ list bytes S ok _ (isStrs_owned x.out HSM.out) hs1 HSZ.out (isStructs_own enF_len (by omega) y.out.1) hs2 HI.out.1 HI.out.2 (HG.out.below H7)).mono ?_
      rintro e w8 ⟨a8, c8, rfl, o8, h8⟩
      have s8 := h8.size
      try simp only [World.size_alloc, World.size_setCell, World.size_drew, World.heap_drewN] at s8
      have B8_1 := bnext (by first | (with_reducible exact B7_1) | exact (bgrow B7_1 (by go_size) (by repeat' (first | (with_reducible exact Below.refl _ _) | (with_reducible assumption) | (with_reducible refine bdrawn ?_ _) | (with_reducible refine Below.alloc ?_ ?_ _) | (with_reducible refine Below.drew ?_) | (with_reducible refine Below.setCell ?_ ?_ _) | go_size)))) h8 (by go_size)
      have B8_6 := bnext (by first | (with_reducible exact B7_6) | exact (bgrow B7_6 (by go_size) (by repeat' (first | (with_reducible exact Below.refl _ _) | (with_reducible assumption) | (with_reducible refine bdrawn ?_ _) | (with_reducible refine Below.alloc ?_ ?_ _) | (with_reducible refine Below.drew ?_) | (with_reducible refine Below.setCell ?_ ?_ _) | go_size)))) h8 (by go_size)
      have B8_7 := bnext (by first | (with_reducible exact B7_7) | exact (bgrow B7_7 (by go_size) (by repeat' (first | (with_reducible exact Below.refl _ _) | (with_reducible assumption) | (with_reducible refine bdrawn ?_ _) | (with_reducible refine Below.alloc ?_ ?_ _) | (with_reducible refine Below.drew ?_) | (with_reducible refine Below.setCell ?_ ?_ _) | go_size)))) h8 (by go_size)
      have z8_0 : w.heap.size < w8.heap.size := by omega
      have q8_0 := fun o => (bcell B8_1).1 (w.heap.size) o (by go_size)
      have f8_0 := fun o => (bcell B8_1).2 (w.heap.size) o (by go_size)
      have z8_1 : w5.heap.size < w8.heap.size := by omega
      have q8_1 := fun o => (bcell B8_6).1 (w5.heap.size) o (by go_size)
      have f8_1 := fun o => (bcell B8_6).2 (w5.heap.size) o (by go_size)
      have z8_2 : w6.heap.size < w8.heap.size := by omega
      have q8_2 := fun o => (bcell B8_7).1 (w6.heap.size) o (by go_size)
      have f8_2 := fun o => (bcell B8_7).2 (w6.heap.size) o (by go_size)
      have H8 : Below w.heap.size w w8 := bthen (by repeat' (first | (with_reducible exact Below.refl _ _) | (with_reducible assumption) | (with_reducible refine bdrawn ?_ _) | (with_reducible refine Below.alloc ?_ ?_ _) | (with_reducible refine Below.drew ?_) | (with_reducible refine Below.setCell ?_ ?_ _) | go_size)) h8 (by go_size)
      have C8 := (bcell H8).1; have F8 := (bcell H8).2
      have P8 : Below w7.heap.size w7 w8 := bthen (by repeat' (first | (with_reducible exact Below.refl _ _) | (with_reducible assumption) | (with_reducible refine bdrawn ?_ _) | (with_reducible refine Below.alloc ?_ ?_ _) | (with_reducible refine Below.drew ?_) | (with_reducible refine Below.setCell ?_ ?_ _) | go_size)) h8 (by go_size)
      replace p := hide (p.out.below P8 (by omega))
      replace pe := hide (pe.out.below P8 (by omega))
      replace r0 := hide (r0.out.below P8 (by omega))
      replace x := hide (x.out.below P8 (by omega))
      replace y := hide (y.out.below P8 (by omega))
      have g := hide (Owned.of_own o8)
      clear o8
      have sG := (show w8.heap.size + 1 ≤ (w8.alloc (.cells #[.slice a8 n c8] 35)).heap.size by simp)
      have sG2 := (show (w8.alloc (.cells #[.slice a8 n c8] 35)).heap.size ≤ w8.heap.size + 1 by simp)
      go_wp2_with fail
      refine (laws_eqLogStore _ _ n _ _ S _ (isStrs_owned (g.out.below (B := w8.heap.size) (by go_grown) (by omega)) HSS.out) (isStrs_owned (r0.out.below (B := w8.heap.size) (by go_grown) (by omega)) HSS.out)).mono ?_
      rintro e w9 ⟨rfl, h9⟩
      have s9 := h9.size
      try simp only [World.size_alloc, World.size_setCell, World.size_drew, World.heap_drewN] at s9
      have B9_1 := bnext (by first | (with_reducible exact B8_1) | exact (bgrow B8_1 (by go_size) (by repeat' (first | (with_reducible exact Below.refl _ _) | (with_reducible assumption) | (with_reducible refine bdrawn ?_ _) | (with_reducible refine Below.alloc ?_ ?_ _) | (with_reducible refine Below.drew ?_) | (with_reducible refine Below.setCell ?_ ?_ _) | go_size)))) h9 (by go_size)
      have B9_6 := bnext (by first | (with_reducible exact B8_6) | exact (bgrow B8_6 (by go_size) (by repeat' (first | (with_reducible exact Below.refl _ _) | (with_reducible assumption) | (with_reducible refine bdrawn ?_ _) | (with_reducible refine Below.alloc ?_ ?_ _) | (with_reducible refine Below.drew ?_) | (with_reducible refine Below.setCell ?_ ?_ _) | go_size)))) h9 (by go_size)
      have B9_7 := bnext (by first | (with_reducible exact B8_7) | exact (bgrow B8_7 (by go_size) (by repeat' (first | (with_reducible exact Below.refl _ _) | (with_reducible assumption) | (with_reducible refine bdrawn ?_ _) | (with_reducible refine Below.alloc ?_ ?_ _) | (with_reducible refine Below.drew ?_) | (with_reducible refine Below.setCell ?_ ?_ _) | go_size)))) h9 (by go_size)
      have B9_9 := h9
      have z9_0 : w.heap.size < w9.heap.size := by omega
      have q9_0 := fun o => (bcell B9_1).1 (w.heap.size) o (by go_size)
      have f9_0 := fun o => (bcell B9_1).2 (w.heap.size) o (by go_size)
      have z9_1 : w5.heap.size < w9.heap.size := by omega
      have q9_1 := fun o => (bcell B9_6).1 (w5.heap.size) o (by go_size)
      have f9_1 := fun o => (bcell B9_6).2 (w5.heap.size) o (by go_size)
      have z9_2 : w6.heap.size < w9.heap.size := by omega
      have q9_2 := fun o => (bcell B9_7).1 (w6.heap.size) o (by go_size)
      have f9_2 := fun o => (bcell B9_7).2 (w6.heap.size) o (by go_size)
      have z9_3 : w8.heap.size < w9.heap.size := by omega
      have q9_3 := fun o => (bcell B9_9).1 (w8.heap.size) o (by go_size)
      have f9_3 := fun o => (bcell B9_9).2 (w8.heap.size) o (by go_size)
      have H9 : Below w.heap.size w w9 := bthen (by repeat' (first | (with_reducible exact Below.refl _ _) | (with_reducible assumption) | (with_reducible refine bdrawn ?_ _) | (with_reducible refine Below.alloc ?_ ?_ _) | (with_reducible refine Below.drew ?_) | (with_reducible refine Below.setCell ?_ ?_ _) | go_size)) h9 (by go_size)
      have C9 := (bcell H9).1; have F9 := (bcell H9).2
      have P9 : Below w8.heap.size w8 w9 := bthen (by repeat' (first | (with_reducible exact Below.refl _ _) | (with_reducible assumption) | (with_reducible refine bdrawn ?_ _) | (with_reducible refine Below.alloc ?_ ?_ _) | (with_reducible refine Below.drew ?_) | (with_reducible refine Below.setCell ?_ ?_ _) | go_size)) h9 (by go_size)
      replace p := hide (p.out.below P9 (by omega))
      replace pe := hide (pe.out.below P9 (by omega))
      replace r0 := hide (r0.out.below P9 (by omega))
      replace x := hide (x.out.below P9 (by omega))
      replace y := hide (y.out.below P9 (by omega))
      replace g := hide (g.out.below P9 (by omega))
      go_wp2_with fail
      go_region_held3 (fun v => v.cell? ⟨w.heap.size, 0, none⟩ = some (.slice a n c) ∧ v.cell? ⟨w6.heap.size, 0, none⟩ = some (.slice a6 n c6)) (first | go_keep | simp [go_sem, *]) (first | (go_at_call 26; refine (laws_toLogStore a n c ss _ (HA.out.below (B := w.heap.size) (by go_grown) (Nat.le_refl _)) hs1).mono ?_; rintro e w10 ⟨a10, c10, rfl, o10, h10⟩; have s10 := h10.size; (try simp only [World.size_alloc, World.size_setCell, World.size_drew, World.heap_drewN] at s10); have B10_1 := bnext (by first | (with_reducible exact B9_1) | exact (bgrow B9_1 (by go_size) (by repeat' (first | (with_reducible exact Below.refl _ _) | (with_reducible assumption) | (with_reducible refine bdrawn ?_ _) | (with_reducible refine Below.alloc ?_ ?_ _) | (with_reducible refine Below.drew ?_) | (with_reducible refine Below.setCell ?_ ?_ _) | go_size)))) h10 (by go_size); have B10_6 := bnext (by first | (with_reducible exact B9_6) | exact (bgrow B9_6 (by go_size) (by repeat' (first | (with_reducible exact Below.refl _ _) | (with_reducible assumption) | (with_reducible refine bdrawn ?_ _) | (with_reducible refine Below.alloc ?_ ?_ _) | (with_reducible refine Below.drew ?_) | (with_reducible refine Below.setCell ?_ ?_ _) | go_size)))) h10 (by go_size); have B10_7 := bnext (by first | (with_reducible exact B9_7) | exact (bgrow B9_7 (by go_size) (by repeat' (first | (with_reducible exact Below.refl _ _) | (with_reducible assumption) | (with_reducible refine bdrawn ?_ _) | (with_reducible refine Below.alloc ?_ ?_ _) | (with_reducible refine Below.drew ?_) | (with_reducible refine Below.setCell ?_ ?_ _) | go_size)))) h10 (by go_size); have B10_9 := bnext (by first | (with_reducible exact B9_9) | exact (bgrow B9_9 (by go_size) (by repeat' (first | (with_reducible exact Below.refl _ _) | (with_reducible assumption) | (with_reducible refine bdrawn ?_ _) | (with_reducible refine Below.alloc ?_ ?_ _) | (with_reducible refine Below.drew ?_) | (with_reducible refine Below.setCell ?_ ?_ _) | go_size)))) h10 (by go_size); have z10_0 : w.heap.size < w10.heap.size := (by omega); have q10_0 := fun o => (bcell B10_1).1 (w.heap.size) o (by go_size); have f10_0 := fun o => (bcell B10_1).2 (w.heap.size) o (by go_size); have z10_1 : w5.heap.size < w10.heap.size := (by omega); have q10_1 := fun o => (bcell B10_6).1 (w5.heap.size) o (by go_size); have f10_1 := fun o => (bcell B10_6).2 (w5.heap.size) o (by go_size); have z10_2 : w6.heap.size < w10.heap.size := (by omega); have q10_2 := fun o => (bcell B10_7).1 (w6.heap.size) o (by go_size); have f10_2 := fun o => (bcell B10_7).2 (w6.heap.size) o (by go_size); have z10_3 : w8.heap.size < w10.heap.size := (by omega); have q10_3 := fun o => (bcell B10_9).1 (w8.heap.size) o (by go_size); have f10_3 := fun o => (bcell B10_9).2 (w8.heap.size) o (by go_size); have H10 : Below w.heap.size w w10 := bthen (by repeat' (first | (with_reducible exact Below.refl _ _) | (with_reducible assumption) | (with_reducible refine bdrawn ?_ _) | (with_reducible refine Below.alloc ?_ ?_ _) | (with_reducible refine Below.drew ?_) | (with_reducible refine Below.setCell ?_ ?_ _) | go_size)) h10 (by go_size); have C10 := (bcell H10).1; have F10 := (bcell H10).2; have P10 : Below w9.heap.size w9 w10 := bthen (by repeat' (first | (with_reducible exact Below.refl _ _) | (with_reducible assumption) | (with_reducible refine bdrawn ?_ _) | (with_reducible refine Below.alloc ?_ ?_ _) | (with_reducible refine Below.drew ?_) | (with_reducible refine Below.setCell ?_ ?_ _) | go_size)) h10 (by go_size); replace p := hide (p.out.below P10 (by omega)); replace pe := hide (pe.out.below P10 (by omega)); replace r0 := hide (r0.out.below P10 (by omega)); replace x := hide (x.out.below P10 (by omega)); replace y := hide (y.out.below P10 (by omega)); replace g := hide (g.out.below P10 (by omega)); have x2 := hide (Owned.of_own o10); clear o10) | (go_at_call 21; refine (laws_eqLogStore _ _ n _ _ ss _ (isStrs_owned x.out HSM.out) (isStrs_owned x2.out HSM.out)).mono ?_; rintro e w11 ⟨rfl, h11⟩; have s11 := h11.size; (try simp only [World.size_alloc, World.size_setCell, World.size_drew, World.heap_drewN] at s11); have B11_1 := bnext (by first | (with_reducible exact B10_1) | exact (bgrow B10_1 (by go_size) (by repeat' (first | (with_reducible exact Below.refl _ _) | (with_reducible assumption) | (with_reducible refine bdrawn ?_ _) | (with_reducible refine Below.alloc ?_ ?_ _) | (with_reducible refine Below.drew ?_) | (with_reducible refine Below.setCell ?_ ?_ _) | go_size)))) h11 (by go_size); have B11_6 := bnext (by first | (with_reducible exact B10_6) | exact (bgrow B10_6 (by go_size) (by repeat' (first | (with_reducible exact Below.refl _ _) | (with_reducible assumption) | (with_reducible refine bdrawn ?_ _) | (with_reducible refine Below.alloc ?_ ?_ _) | (with_reducible refine Below.drew ?_) | (with_reducible refine Below.setCell ?_ ?_ _) | go_size)))) h11 (by go_size); have B11_7 := bnext (by first | (with_reducible exact B10_7) | exact (bgrow B10_7 (by go_size) (by repeat' (first | (with_reducible exact Below.refl _ _) | (with_reducible assumption) | (with_reducible refine bdrawn ?_ _) | (with_reducible refine Below.alloc ?_ ?_ _) | (with_reducible refine Below.drew ?_) | (with_reducible refine Below.setCell ?_ ?_ _) | go_size)))) h11 (by go_size); have B11_9 := bnext (by first | (with_reducible exact B10_9) | exact (bgrow B10_9 (by go_size) (by repeat' (first | (with_reducible exact Below.refl _ _) | (with_reducible assumption) | (with_reducible refine bdrawn ?_ _) | (with_reducible refine Below.alloc ?_ ?_ _) | (with_reducible refine Below.drew ?_) | (with_reducible refine Below.setCell ?_ ?_ _) | go_size)))) h11 (by go_size); have z11_0 : w.heap.size < w11.heap.size := (by omega); have q11_0 := fun o => (bcell B11_1).1 (w.heap.size) o (by go_size); have f11_0 := fun o => (bcell B11_1).2 (w.heap.size) o (by go_size); have z11_1 : w5.heap.size < w11.heap.size := (by omega); have q11_1 := fun o => (bcell B11_6).1 (w5.heap.size) o (by go_size); have f11_1 := fun o => (bcell B11_6).2 (w5.heap.size) o (by go_size); have z11_2 : w6.heap.size < w11.heap.size := (by omega); have q11_2 := fun o => (bcell B11_7).1 (w6.heap.size) o (by go_size); have f11_2 := fun o => (bcell B11_7).2 (w6.heap.size) o (by go_size); have z11_3 : w8.heap.size < w11.heap.size := (by omega); have q11_3 := fun o => (bcell B11_9).1 (w8.heap.size) o (by go_size); have f11_3 := fun o => (bcell B11_9).2 (w8.heap.size) o (by go_size); have H11 : Below w.heap.size w w11 := bthen (by repeat' (first | (with_reducible exact Below.refl _ _) | (with_reducible assumption) | (with_reducible refine bdrawn ?_ _) | (with_reducible refine Below.alloc ?_ ?_ _) | (with_reducible refine Below.drew ?_) | (with_reducible refine Below.setCell ?_ ?_ _) | go_size)) h11 (by go_size); have C11 := (bcell H11).1; have F11 := (bcell H11).2; have P11 : Below w10.heap.size w10 w11 := bthen (by repeat' (first | (with_reducible exact Below.refl _ _) | (with_reducible assumption) | (with_reducible refine bdrawn ?_ _) | (with_reducible refine Below.alloc ?_ ?_ _) | (with_reducible refine Below.drew ?_) | (with_reducible refine Below.setCell ?_ ?_ _) | go_size)) h11 (by go_size); replace p := hide (p.out.below P11 (by omega)); replace pe := hide (pe.out.below P11 (by omega)); replace r0 := hide (r0.out.below P11 (by omega)); replace x := hide (x.out.below P11 (by omega)); replace y := hide (y.out.below P11 (by omega)); replace g := hide (g.out.below P11 (by omega)); replace x2 := hide (x2.out.below P11 (by omega))))
      have sB : w9.heap.size ≤ (World.drew w9).heap.size := Nat.le_refl _
      go_wp2_with fail
      refine (laws_toErrorEntryS _ _ _ list _ (HA2.out.below H11 (Nat.le_refl _)) hs2).mono ?_
      rintro e w12 ⟨a12, c12, rfl, o12, h12⟩
      have s12 := h12.size
      try simp only [World.size_alloc, World.size_setCell, World.size_drew, World.heap_drewN] at s12
      have B12_1 := bnext (by first | (with_reducible exact B11_1) | exact (bgrow B11_1 (by go_size) (by repeat' (first | (with_reducible exact Below.refl _ _) | (with_reducible assumption) | (with_reducible refine bdrawn ?_ _) | (with_reducible refine Below.alloc ?_ ?_ _) | (with_reducible refine Below.drew ?_) | (with_reducible refine Below.setCell ?_ ?_ _) | go_size)))) h12 (by go_size)
      have B12_6 := bnext (by first | (with_reducible exact B11_6) | exact (bgrow B11_6 (by go_size) (by repeat' (first | (with_reducible exact Below.refl _ _) | (with_reducible assumption) | (with_reducible refine bdrawn ?_ _) | (with_reducible refine Below.alloc ?_ ?_ _) | (with_reducible refine Below.drew ?_) | (with_reducible refine Below.setCell ?_ ?_ _) | go_size)))) h12 (by go_size)
      have B12_7 := bnext (by first | (with_reducible exact B11_7) | exact (bgrow B11_7 (by go_size) (by repeat' (first | (with_reducible exact Below.refl _ _) | (with_reducible assumption) | (with_reducible refine bdrawn ?_ _) | (with_reducible refine Below.alloc ?_ ?_ _) | (with_reducible refine Below.drew ?_) | (with_reducible refine Below.setCell ?_ ?_ _) | go_size)))) h12 (by go_size)
      have B12_9 := bnext (by first | (with_reducible exact B11_9) | exact (bgrow B11_9 (by go_size) (by repeat' (first | (with_reducible exact Below.refl _ _) | (with_reducible assumption) | (with_reducible refine bdrawn ?_ _) | (with_reducible refine Below.alloc ?_ ?_ _) | (with_reducible refine Below.drew ?_) | (with_reducible refine Below.setCell ?_ ?_ _) | go_size)))) h12 (by go_size)
      have z12_0 : w.heap.size < w12.heap.size := by omega
      have q12_0 := fun o => (bcell B12_1).1 (w.heap.size) o (by go_size)
      have f12_0 := fun o => (bcell B12_1).2 (w.heap.size) o (by go_size)
      have z12_1 : w5.heap.size < w12.heap.size := by omega
      have q12_1 := fun o => (bcell B12_6).1 (w5.heap.size) o (by go_size)
      have f12_1 := fun o => (bcell B12_6).2 (w5.heap.size) o (by go_size)
      have z12_2 : w6.heap.size < w12.heap.size := by omega
      have q12_2 := fun o => (bcell B12_7).1 (w6.heap.size) o (by go_size)
      have f12_2 := fun o => (bcell B12_7).2 (w6.heap.size) o (by go_size)
      have z12_3 : w8.heap.size < w12.heap.size := by omega
      have q12_3 := fun o => (bcell B12_9).1 (w8.heap.size) o (by go_size)
      have f12_3 := fun o => (bcell B12_9).2 (w8.heap.size) o (by go_size)
      have H12 : Below w.heap.size w w12 := bthen (by repeat' (first | (with_reducible exact Below.refl _ _) | (with_reducible assumption) | (with_reducible refine bdrawn ?_ _) | (with_reducible refine Below.alloc ?_ ?_ _) | (with_reducible refine Below.drew ?_) | (with_reducible refine Below.setCell ?_ ?_ _) | go_size)) h12 (by go_size)
      have C12 := (bcell H12).1; have F12 := (bcell H12).2
      have P12 : Below w11.heap.size w11 w12 := bthen (by repeat' (first | (with_reducible exact Below.refl _ _) | (with_reducible assumption) | (with_reducible refine bdrawn ?_ _) | (with_reducible refine Below.alloc ?_ ?_ _) | (with_reducible refine Below.drew ?_) | (with_reducible refine Below.setCell ?_ ?_ _) | go_size)) h12 (by go_size)
      replace p := hide (p.out.below P12 (by omega))
      replace pe := hide (pe.out.below P12 (by omega))
      replace r0 := hide (r0.out.below P12 (by omega))
      replace x := hide (x.out.below P12 (by omega))
      replace y := hide (y.out.below P12 (by omega))
      replace g := hide (g.out.below P12 (by omega))
      replace x2 := hide (x2.out.below P12 (by omega))
      have y2 := hide (Owned.of_own o12)
      clear o12
      go_wp2_with fail
      refine (laws_eqErrorEntryS _ _ _ _ _ _ _ (isStructs_own enF_len (by omega) y.out.1) (isStructs_own enF_len (by omega) y2.out.1)).mono ?_
      rintro e w13 ⟨rfl, h13⟩
      have s13 := h13.size
      try simp only [World.size_alloc, World.size_setCell, World.size_drew, World.heap_drewN] at s13
      have B13_1 := bnext (by first | (with_reducible exact B12_1) | exact (bgrow B12_1 (by go_size) (by repeat' (first | (with_reducible exact Below.refl _ _) | (with_reducible assumption) | (with_reducible refine bdrawn ?_ _) | (with_reducible refine Below.alloc ?_ ?_ _) | (with_reducible refine Below.drew ?_) | (with_reducible refine Below.setCell ?_ ?_ _) | go_size)))) h13 (by go_size)
      have B13_6 := bnext (by first | (with_reducible exact B12_6) | exact (bgrow B12_6 (by go_size) (by repeat' (first | (with_reducible exact Below.refl _ _) | (with_reducible assumption) | (with_reducible refine bdrawn ?_ _) | (with_reducible refine Below.alloc ?_ ?_ _) | (with_reducible refine Below.drew ?_) | (with_reducible refine Below.setCell ?_ ?_ _) | go_size)))) h13 (by go_size)
      have B13_7 := bnext (by first | (with_reducible exact B12_7) | exact (bgrow B12_7 (by go_size) (by repeat' (first | (with_reducible exact Below.refl _ _) | (with_reducible assumption) | (with_reducible refine bdrawn ?_ _) | (with_reducible refine Below.alloc ?_ ?_ _) | (with_reducible refine Below.drew ?_) | (with_reducible refine Below.setCell ?_ ?_ _) | go_size)))) h13 (by go_size)
      have B13_9 := bnext (by first | (with_reducible exact B12_9) | exact (bgrow B12_9 (by go_size) (by repeat' (first | (with_reducible exact Below.refl _ _) | (with_reducible assumption) | (with_reducible refine bdrawn ?_ _) | (with_reducible refine Below.alloc ?_ ?_ _) | (with_reducible refine Below.drew ?_) | (with_reducible refine Below.setCell ?_ ?_ _) | go_size)))) h13 (by go_size)
      have z13_0 : w.heap.size < w13.heap.size := by omega
      have q13_0 := fun o => (bcell B13_1).1 (w.heap.size) o (by go_size)
      have f13_0 := fun o => (bcell B13_1).2 (w.heap.size) o (by go_size)
      have z13_1 : w5.heap.size < w13.heap.size := by omega
      have q13_1 := fun o => (bcell B13_6).1 (w5.heap.size) o (by go_size)
      have f13_1 := fun o => (bcell B13_6).2 (w5.heap.size) o (by go_size)
      have z13_2 : w6.heap.size < w13.heap.size := by omega
      have q13_2 := fun o => (bcell B13_7).1 (w6.heap.size) o (by go_size)
      have f13_2 := fun o => (bcell B13_7).2 (w6.heap.size) o (by go_size)
      have z13_3 : w8.heap.size < w13.heap.size := by omega
      have q13_3 := fun o => (bcell B13_9).1 (w8.heap.size) o (by go_size)
      have f13_3 := fun o => (bcell B13_9).2 (w8.heap.size) o (by go_size)
      have H13 : Below w.heap.size w w13 := bthen (by repeat' (first | (with_reducible exact Below.refl _ _) | (with_reducible assumption) | (with_reducible refine bdrawn ?_ _) | (with_reducible refine Below.alloc ?_ ?_ _) | (with_reducible refine Below.drew ?_) | (with_reducible refine Below.setCell ?_ ?_ _) | go_size)) h13 (by go_size)
      have C13 := (bcell H13).1; have F13 := (bcell H13).2
      have P13 : Below w12.heap.size w12 w13 := bthen (by repeat' (first | (with_reducible exact Below.refl _ _) | (with_reducible assumption) | (with_reducible refine bdrawn ?_ _) | (with_reducible refine Below.alloc ?_ ?_ _) | (with_reducible refine Below.drew ?_) | (with_reducible refine Below.setCell ?_ ?_ _) | go_size)) h13 (by go_size)
      replace p := hide (p.out.below P13 (by omega))
      replace pe := hide (pe.out.below P13 (by omega))
      replace r0 := hide (r0.out.below P13 (by omega))
      replace x := hide (x.out.below P13 (by omega))
      replace y := hide (y.out.below P13 (by omega))
      replace g := hide (g.out.below P13 (by omega))
      replace x2 := hide (x2.out.below P13 (by omega))
      replace y2 := hide (y2.out.below P13 (by omega))
      go_wp2_with fail
      refine (laws_markLogStore _ _ _ n _ 1 _ _ (by omega) hs1 (by omega) x.out).mono ?_
      rintro e w14 ⟨rfl, o14, v14⟩
      have h14 := Save.below v14 (by omega)
      have s14 := h14.size
      try simp only [World.size_alloc, World.size_setCell, World.size_drew, World.heap_drewN] at s14
      have B14_1 := bnext (by first | (with_reducible exact B13_1) | exact (bgrow B13_1 (by go_size) (by repeat' (first | (with_reducible exact Below.refl _ _) | (with_reducible assumption) | (with_reducible refine bdrawn ?_ _) | (with_reducible refine Below.alloc ?_ ?_ _) | (with_reducible refine Below.drew ?_) | (with_reducible refine Below.setCell ?_ ?_ _) | go_size)))) h14 (by go_size)
      have B14_6 := bnext (by first | (with_reducible exact B13_6) | exact (bgrow B13_6 (by go_size) (by repeat' (first | (with_reducible exact Below.refl _ _) | (with_reducible assumption) | (with_reducible refine bdrawn ?_ _) | (with_reducible refine Below.alloc ?_ ?_ _) | (with_reducible refine Below.drew ?_) | (with_reducible refine Below.setCell ?_ ?_ _) | go_size)))) h14 (by go_size)
      have z14_0 : w.heap.size < w14.heap.size := by omega
      have q14_0 := fun o => (bcell B14_1).1 (w.heap.size) o (by go_size)
      have f14_0 := fun o => (bcell B14_1).2 (w.heap.size) o (by go_size)
      have z14_1 : w5.heap.size < w14.heap.size := by omega
      have q14_1 := fun o => (bcell B14_6).1 (w5.heap.size) o (by go_size)
      have f14_1 := fun o => (bcell B14_6).2 (w5.heap.size) o (by go_size)
      have H14 : Below w.heap.size w w14 := bthen (by repeat' (first | (with_reducible exact Below.refl _ _) | (with_reducible assumption) | (with_reducible refine bdrawn ?_ _) | (with_reducible refine Below.alloc ?_ ?_ _) | (with_reducible refine Below.drew ?_) | (with_reducible refine Below.setCell ?_ ?_ _) | go_size)) h14 (by go_size)
      have C14 := (bcell H14).1; have F14 := (bcell H14).2
      replace p := hide (p.out.save v14 (by omega))
      replace pe := hide (pe.out.save v14 (by omega))
      replace r0 := hide (r0.out.save v14 (by omega))
      clear x o14
      replace y := hide (y.out.save v14 (by omega))
      replace g := hide (g.out.save v14 (by omega))
      replace x2 := hide (x2.out.save v14 (by omega))
      replace y2 := hide (y2.out.save v14 (by omega))
      have hk14 := fun o => save_cell v14 (b := w8.heap.size) (by omega) (by omega) o
      go_wp2_with fail
      refine (laws_markErrorEntryS _ _ _ _ _ _ _ _ (by omega) hs2 y.out).mono ?_
      rintro e w15 ⟨rfl, o15, v15⟩
      have h15 := Save.below v15 (by omega)
      have s15 := h15.size
      try simp only [World.size_alloc, World.size_setCell, World.size_drew, World.heap_drewN] at s15
      have B15_1 := bnext (by first | (with_reducible exact B14_1) | exact (bgrow B14_1 (by go_size) (by repeat' (first | (with_reducible exact Below.refl _ _) | (with_reducible assumption) | (with_reducible refine bdrawn ?_ _) | (with_reducible refine Below.alloc ?_ ?_ _) | (with_reducible refine Below.drew ?_) | (with_reducible refine Below.setCell ?_ ?_ _) | go_size)))) h15 (by go_size)
      have B15_6 := bnext (by first | (with_reducible exact B14_6) | exact (bgrow B14_6 (by go_size) (by repeat' (first | (with_reducible exact Below.refl _ _) | (with_reducible assumption) | (with_reducible refine bdrawn ?_ _) | (with_reducible refine Below.alloc ?_ ?_ _) | (with_reducible refine Below.drew ?_) | (with_reducible refine Below.setCell ?_ ?_ _) | go_size)))) h15 (by go_size)
      have z15_0 : w.heap.size < w15.heap.size := by omega
      have q15_0 := fun o => (bcell B15_1).1 (w.heap.size) o (by go_size)
      have f15_0 := fun o => (bcell B15_1).2 (w.heap.size) o (by go_size)
      have z15_1 : w5.heap.size < w15.heap.size := by omega
      have q15_1 := fun o => (bcell B15_6).1 (w5.heap.size) o (by go_size)
      have f15_1 := fun o => (bcell B15_6).2 (w5.heap.size) o (by go_size)
      have H15 : Below w.heap.size w w15 := bthen (by repeat' (first | (with_reducible exact Below.refl _ _) | (with_reducible assumption) | (with_reducible refine bdrawn ?_ _) | (with_reducible refine Below.alloc ?_ ?_ _) | (with_reducible refine Below.drew ?_) | (with_reducible refine Below.setCell ?_ ?_ _) | go_size)) h15 (by go_size)
      have C15 := (bcell H15).1; have F15 := (bcell H15).2
      replace p := hide (p.out.save v15 (by omega))
      replace pe := hide (pe.out.save v15 (by omega))
      replace r0 := hide (r0.out.save v15 (by omega))
      clear y o15
      replace g := hide (g.out.save v15 (by omega))
      replace x2 := hide (x2.out.save v15 (by omega))
      replace y2 := hide (y2.out.save v15 (by omega))
      have hk15 := fun o => save_cell v15 (b := w8.heap.size) (by omega) (by omega) o
      go_wp2_with fail
      refine (laws_eqLogStore _ _ n _ _ S _ (isStrs_owned g.out HSS.out) (isStrs_owned r0.out HSS.out)).mono ?_
      rintro e w16 ⟨rfl, h16⟩
      have s16 := h16.size
      try simp only [World.size_alloc, World.size_setCell, World.size_drew, World.heap_drewN] at s16
      have B16_1 := bnext (by first | (with_reducible exact B15_1) | exact (bgrow B15_1 (by go_size) (by repeat' (first | (with_reducible exact Below.refl _ _) | (with_reducible assumption) | (with_reducible refine bdrawn ?_ _) | (with_reducible refine Below.alloc ?_ ?_ _) | (with_reducible refine Below.drew ?_) | (with_reducible refine Below.setCell ?_ ?_ _) | go_size)))) h16 (by go_size)
      have B16_6 := bnext (by first | (with_reducible exact B15_6) | exact (bgrow B15_6 (by go_size) (by repeat' (first | (with_reducible exact Below.refl _ _) | (with_reducible assumption) | (with_reducible refine bdrawn ?_ _) | (with_reducible refine Below.alloc ?_ ?_ _) | (with_reducible refine Below.drew ?_) | (with_reducible refine Below.setCell ?_ ?_ _) | go_size)))) h16 (by go_size)
      have B16_16 := h16
      have z16_0 : w.heap.size < w16.heap.size := by omega
      have q16_0 := fun o => (bcell B16_1).1 (w.heap.size) o (by go_size)
      have f16_0 := fun o => (bcell B16_1).2 (w.heap.size) o (by go_size)
      have z16_1 : w5.heap.size < w16.heap.size := by omega
      have q16_1 := fun o => (bcell B16_6).1 (w5.heap.size) o (by go_size)
      have f16_1 := fun o => (bcell B16_6).2 (w5.heap.size) o (by go_size)
      have z16_4 : w8.heap.size < w16.heap.size := by omega
      have q16_4 := fun o => (bcell B16_16).1 (w8.heap.size) o (by go_size)
      have f16_4 := fun o => (bcell B16_16).2 (w8.heap.size) o (by go_size)
      have H16 : Below w.heap.size w w16 := bthen (by repeat' (first | (with_reducible exact Below.refl _ _) | (with_reducible assumption) | (with_reducible refine bdrawn ?_ _) | (with_reducible refine Below.alloc ?_ ?_ _) | (with_reducible refine Below.drew ?_) | (with_reducible refine Below.setCell ?_ ?_ _) | go_size)) h16 (by go_size)
      have C16 := (bcell H16).1; have F16 := (bcell H16).2
      have P16 : Below w15.heap.size w15 w16 := bthen (by repeat' (first | (with_reducible exact Below.refl _ _) | (with_reducible assumption) | (with_reducible refine bdrawn ?_ _) | (with_reducible refine Below.alloc ?_ ?_ _) | (with_reducible refine Below.drew ?_) | (with_reducible refine Below.setCell ?_ ?_ _) | go_size)) h16 (by go_size)
      replace p := hide (p.out.below P16 (by omega))
      replace pe := hide (pe.out.below P16 (by omega))
      replace r0 := hide (r0.out.below P16 (by omega))
      replace g := hide (g.out.below P16 (by omega))
      replace x2 := hide (x2.out.below P16 (by omega))
      replace y2 := hide (y2.out.below P16 (by omega))
      go_wp2_with fail
      refine (laws_markLogStore _ _ _ n _ 1 _ _ (by omega) hs1 (by omega) g.out).mono ?_
      rintro e w17 ⟨rfl, o17, v17⟩
      have h17 := Save.below v17 (by omega)
      have s17 := h17.size
      try simp only [World.size_alloc, World.size_setCell, World.size_drew, World.heap_drewN] at s17
      have B17_1 := bnext (by first | (with_reducible exact B16_1) | exact (bgrow B16_1 (by go_size) (by repeat' (first | (with_reducible exact Below.refl _ _) | (with_reducible assumption) | (with_reducible refine bdrawn ?_ _) | (with_reducible refine Below.alloc ?_ ?_ _) | (with_reducible refine Below.drew ?_) | (with_reducible refine Below.setCell ?_ ?_ _) | go_size)))) h17 (by go_size)
      have B17_6 := bnext (by first | (with_reducible exact B16_6) | exact (bgrow B16_6 (by go_size) (by repeat' (first | (with_reducible exact Below.refl _ _) | (with_reducible assumption) | (with_reducible refine bdrawn ?_ _) | (with_reducible refine Below.alloc ?_ ?_ _) | (with_reducible refine Below.drew ?_) | (with_reducible refine Below.setCell ?_ ?_ _) | go_size)))) h17 (by go_size)
      have z17_0 : w.heap.size < w17.heap.size := by omega
      have q17_0 := fun o => (bcell B17_1).1 (w.heap.size) o (by go_size)
      have f17_0 := fun o => (bcell B17_1).2 (w.heap.size) o (by go_size)
      have z17_1 : w5.heap.size < w17.heap.size := by omega
      have q17_1 := fun o => (bcell B17_6).1 (w5.heap.size) o (by go_size)
      have f17_1 := fun o => (bcell B17_6).2 (w5.heap.size) o (by go_size)
      have H17 : Below w.heap.size w w17 := bthen (by repeat' (first | (with_reducible exact Below.refl _ _) | (with_reducible assumption) | (with_reducible refine bdrawn ?_ _) | (with_reducible refine Below.alloc ?_ ?_ _) | (with_reducible refine Below.drew ?_) | (with_reducible refine Below.setCell ?_ ?_ _) | go_size)) h17 (by go_size)
      have C17 := (bcell H17).1; have F17 := (bcell H17).2
      replace p := hide (p.out.save v17 (by omega))
      replace pe := hide (pe.out.save v17 (by omega))
      replace r0 := hide (r0.out.save v17 (by omega))
      replace g := hide o17
      replace x2 := hide (x2.out.save v17 (by omega))
      replace y2 := hide (y2.out.save v17 (by omega))
      have hk17 := fun o => save_cell v17 (b := w8.heap.size) (by omega) (by omega) o
      go_wp2_with fail
      refine (laws_heldLogStore _ n _ 1 _ (by omega) hs1 (isStrs_owned g.out (markS_short (by omega) (by omega) hs1))).mono ?_
      rintro e w18 ⟨rfl, h18⟩
      have s18 := h18.size
      try simp only [World.size_alloc, World.size_setCell, World.size_drew, World.heap_drewN] at s18
      have B18_1 := bnext (by first | (with_reducible exact B17_1) | exact (bgrow B17_1 (by go_size) (by repeat' (first | (with_reducible exact Below.refl _ _) | (with_reducible assumption) | (with_reducible refine bdrawn ?_ _) | (with_reducible refine Below.alloc ?_ ?_ _) | (with_reducible refine Below.drew ?_) | (with_reducible refine Below.setCell ?_ ?_ _) | go_size)))) h18 (by go_size)
      have B18_6 := bnext (by first | (with_reducible exact B17_6) | exact (bgrow B17_6 (by go_size) (by repeat' (first | (with_reducible exact Below.refl _ _) | (with_reducible assumption) | (with_reducible refine bdrawn ?_ _) | (with_reducible refine Below.alloc ?_ ?_ _) | (with_reducible refine Below.drew ?_) | (with_reducible refine Below.setCell ?_ ?_ _) | go_size)))) h18 (by go_size)
      have B18_18 := h18
      have z18_0 : w.heap.size < w18.heap.size := by omega
      have q18_0 := fun o => (bcell B18_1).1 (w.heap.size) o (by go_size)
      have f18_0 := fun o => (bcell B18_1).2 (w.heap.size) o (by go_size)
      have z18_1 : w5.heap.size < w18.heap.size := by omega
      have q18_1 := fun o => (bcell B18_6).1 (w5.heap.size) o (by go_size)
      have f18_1 := fun o => (bcell B18_6).2 (w5.heap.size) o (by go_size)
      have z18_5 : w8.heap.size < w18.heap.size := by omega
      have q18_5 := fun o => (bcell B18_18).1 (w8.heap.size) o (by go_size)
      have f18_5 := fun o => (bcell B18_18).2 (w8.heap.size) o (by go_size)
      have H18 : Below w.heap.size w w18 := bthen (by repeat' (first | (with_reducible exact Below.refl _ _) | (with_reducible assumption) | (with_reducible refine bdrawn ?_ _) | (with_reducible refine Below.alloc ?_ ?_ _) | (with_reducible refine Below.drew ?_) | (with_reducible refine Below.setCell ?_ ?_ _) | go_size)) h18 (by go_size)
      have C18 := (bcell H18).1; have F18 := (bcell H18).2
      have P18 : Below w17.heap.size w17 w18 := bthen (by repeat' (first | (with_reducible exact Below.refl _ _) | (with_reducible assumption) | (with_reducible refine bdrawn ?_ _) | (with_reducible refine Below.alloc ?_ ?_ _) | (with_reducible refine Below.drew ?_) | (with_reducible refine Below.setCell ?_ ?_ _) | go_size)) h18 (by go_size)
      replace p := hide (p.out.below P18 (by omega))
      replace pe := hide (pe.out.below P18 (by omega))
      replace r0 := hide (r0.out.below P18 (by omega))
      replace g := hide (g.out.below P18 (by omega))
      replace x2 := hide (x2.out.below P18 (by omega))
      replace y2 := hide (y2.out.below P18 (by omega))
      go_wp2_with fail
      refine (laws_toLogStore a n c ss _ (HA.out.below H18 (Nat.le_refl _)) hs1).mono ?_
      rintro e w19 ⟨a19, c19, rfl, o19, h19⟩
      have s19 := h19.size
      try simp only [World.size_alloc, World.size_setCell, World.size_drew, World.heap_drewN] at s19
      have B19_1 := bnext (by first | (with_reducible exact B18_1) | exact (bgrow B18_1 (by go_size) (by repeat' (first | (with_reducible exact Below.refl _ _) | (with_reducible assumption) | (with_reducible refine bdrawn ?_ _) | (with_reducible refine Below.alloc ?_ ?_ _) | (with_reducible refine Below.drew ?_) | (with_reducible refine Below.setCell ?_ ?_ _) | go_size)))) h19 (by go_size)
      have B19_6 := bnext (by first | (with_reducible exact B18_6) | exact (bgrow B18_6 (by go_size) (by repeat' (first | (with_reducible exact Below.refl _ _) | (with_reducible assumption) | (with_reducible refine bdrawn ?_ _) | (with_reducible refine Below.alloc ?_ ?_ _) | (with_reducible refine Below.drew ?_) | (with_reducible refine Below.setCell ?_ ?_ _) | go_size)))) h19 (by go_size)
      have B19_18 := bnext (by first | (with_reducible exact B18_18) | exact (bgrow B18_18 (by go_size) (by repeat' (first | (with_reducible exact Below.refl _ _) | (with_reducible assumption) | (with_reducible refine bdrawn ?_ _) | (with_reducible refine Below.alloc ?_ ?_ _) | (with_reducible refine Below.drew ?_) | (with_reducible refine Below.setCell ?_ ?_ _) | go_size)))) h19 (by go_size)
      have z19_0 : w.heap.size < w19.heap.size := by omega
      have q19_0 := fun o => (bcell B19_1).1 (w.heap.size) o (by go_size)
      have f19_0 := fun o => (bcell B19_1).2 (w.heap.size) o (by go_size)
      have z19_1 : w5.heap.size < w19.heap.size := by omega
      have q19_1 := fun o => (bcell B19_6).1 (w5.heap.size) o (by go_size)
      have f19_1 := fun o => (bcell B19_6).2 (w5.heap.size) o (by go_size)
      have z19_5 : w8.heap.size < w19.heap.size := by omega
      have q19_5 := fun o => (bcell B19_18).1 (w8.heap.size) o (by go_size)
      have f19_5 := fun o => (bcell B19_18).2 (w8.heap.size) o (by go_size)
      have H19 : Below w.heap.size w w19 := bthen (by repeat' (first | (with_reducible exact Below.refl _ _) | (with_reducible assumption) | (with_reducible refine bdrawn ?_ _) | (with_reducible refine Below.alloc ?_ ?_ _) | (with_reducible refine Below.drew ?_) | (with_reducible refine Below.setCell ?_ ?_ _) | go_size)) h19 (by go_size)
      have C19 := (bcell H19).1; have F19 := (bcell H19).2
      have P19 : Below w18.heap.size w18 w19 := bthen (by repeat' (first | (with_reducible exact Below.refl _ _) | (with_reducible assumption) | (with_reducible refine bdrawn ?_ _) | (with_reducible refine Below.alloc ?_ ?_ _) | (with_reducible refine Below.drew ?_) | (with_reducible refine Below.setCell ?_ ?_ _) | go_size)) h19 (by go_size)
      replace p := hide (p.out.below P19 (by omega))
      replace pe := hide (pe.out.below P19 (by omega))
      replace r0 := hide (r0.out.below P19 (by omega))
      replace g := hide (g.out.below P19 (by omega))
      replace x2 := hide (x2.out.below P19 (by omega))
      replace y2 := hide (y2.out.below P19 (by omega))
      have p3 := hide (Owned.of_own o19)
      clear o19
      go_wp2_with fail
      refine (laws_toErrorEntryS _ _ _ list _ (HA2.out.below H19 (Nat.le_refl _)) hs2).mono ?_
      rintro e w20 ⟨a20, c20, rfl, o20, h20⟩
      have s20 := h20.size
      try simp only [World.size_alloc, World.size_setCell, World.size_drew, World.heap_drewN] at s20
      have B20_1 := bnext (by first | (with_reducible exact B19_1) | exact (bgrow B19_1 (by go_size) (by repeat' (first | (with_reducible exact Below.refl _ _) | (with_reducible assumption) | (with_reducible refine bdrawn ?_ _) | (with_reducible refine Below.alloc ?_ ?_ _) | (with_reducible refine Below.drew ?_) | (with_reducible refine Below.setCell ?_ ?_ _) | go_size)))) h20 (by go_size)
      have B20_6 := bnext (by first | (with_reducible exact B19_6) | exact (bgrow B19_6 (by go_size) (by repeat' (first | (with_reducible exact Below.refl _ _) | (with_reducible assumption) | (with_reducible refine bdrawn ?_ _) | (with_reducible refine Below.alloc ?_ ?_ _) | (with_reducible refine Below.drew ?_) | (with_reducible refine Below.setCell ?_ ?_ _) | go_size)))) h20 (by go_size)
      have B20_18 := bnext (by first | (with_reducible exact B19_18) | exact (bgrow B19_18 (by go_size) (by repeat' (first | (with_reducible exact Below.refl _ _) | (with_reducible assumption) | (with_reducible refine bdrawn ?_ _) | (with_reducible refine Below.alloc ?_ ?_ _) | (with_reducible refine Below.drew ?_) | (with_reducible refine Below.setCell ?_ ?_ _) | go_size)))) h20 (by go_size)
      have z20_0 : w.heap.size < w20.heap.size := by omega
      have q20_0 := fun o => (bcell B20_1).1 (w.heap.size) o (by go_size)
      have f20_0 := fun o => (bcell B20_1).2 (w.heap.size) o (by go_size)
      have z20_1 : w5.heap.size < w20.heap.size := by omega
      have q20_1 := fun o => (bcell B20_6).1 (w5.heap.size) o (by go_size)
      have f20_1 := fun o => (bcell B20_6).2 (w5.heap.size) o (by go_size)
      have z20_5 : w8.heap.size < w20.heap.size := by omega
      have q20_5 := fun o => (bcell B20_18).1 (w8.heap.size) o (by go_size)
      have f20_5 := fun o => (bcell B20_18).2 (w8.heap.size) o (by go_size)
      have H20 : Below w.heap.size w w20 := bthen (by repeat' (first | (with_reducible exact Below.refl _ _) | (with_reducible assumption) | (with_reducible refine bdrawn ?_ _) | (with_reducible refine Below.alloc ?_ ?_ _) | (with_reducible refine Below.drew ?_) | (with_reducible refine Below.setCell ?_ ?_ _) | go_size)) h20 (by go_size)
      have C20 := (bcell H20).1; have F20 := (bcell H20).2
      have P20 : Below w19.heap.size w19 w20 := bthen (by repeat' (first | (with_reducible exact Below.refl _ _) | (with_reducible assumption) | (with_reducible refine bdrawn ?_ _) | (with_reducible refine Below.alloc ?_ ?_ _) | (with_reducible refine Below.drew ?_) | (with_reducible refine Below.setCell ?_ ?_ _) | go_size)) h20 (by go_size)
      replace p := hide (p.out.below P20 (by omega))
      replace pe := hide (pe.out.below P20 (by omega))
      replace r0 := hide (r0.out.below P20 (by omega))
      replace g := hide (g.out.below P20 (by omega))
      replace x2 := hide (x2.out.below P20 (by omega))
      replace y2 := hide (y2.out.below P20 (by omega))
      replace p3 := hide (p3.out.below P20 (by omega))
      have pe3 := hide (Owned.of_own o20)
      clear o20
      go_wp2_with fail
      refine (impl_LogWrite _ n _ ss _ n2 _ list bytes S ok _ (isStrs_owned p3.out HSM.out) hs1 HSZ.out (isStructs_own enF_len (by omega) pe3.out.1) hs2 HI.out.1 HI.out.2 (HG.out.below H20)).mono ?_
      rintro e w21 ⟨a21, c21, rfl, o21, h21⟩
      have s21 := h21.size
      try simp only [World.size_alloc, World.size_setCell, World.size_drew, World.heap_drewN] at s21
      have B21_1 := bnext (by first | (with_reducible exact B20_1) | exact (bgrow B20_1 (by go_size) (by repeat' (first | (with_reducible exact Below.refl _ _) | (with_reducible assumption) | (with_reducible refine bdrawn ?_ _) | (with_reducible refine Below.alloc ?_ ?_ _) | (with_reducible refine Below.drew ?_) | (with_reducible refine Below.setCell ?_ ?_ _) | go_size)))) h21 (by go_size)
      have B21_6 := bnext (by first | (with_reducible exact B20_6) | exact (bgrow B20_6 (by go_size) (by repeat' (first | (with_reducible exact Below.refl _ _) | (with_reducible assumption) | (with_reducible refine bdrawn ?_ _) | (with_reducible refine Below.alloc ?_ ?_ _) | (with_reducible refine Below.drew ?_) | (with_reducible refine Below.setCell ?_ ?_ _) | go_size)))) h21 (by go_size)
      have B21_18 := bnext (by first | (with_reducible exact B20_18) | exact (bgrow B20_18 (by go_size) (by repeat' (first | (with_reducible exact Below.refl _ _) | (with_reducible assumption) | (with_reducible refine bdrawn ?_ _) | (with_reducible refine Below.alloc ?_ ?_ _) | (with_reducible refine Below.drew ?_) | (with_reducible refine Below.setCell ?_ ?_ _) | go_size)))) h21 (by go_size)
      have z21_0 : w.heap.size < w21.heap.size := by omega
      have q21_0 := fun o => (bcell B21_1).1 (w.heap.size) o (by go_size)
      have f21_0 := fun o => (bcell B21_1).2 (w.heap.size) o (by go_size)
      have z21_1 : w5.heap.size < w21.heap.size := by omega
      have q21_1 := fun o => (bcell B21_6).1 (w5.heap.size) o (by go_size)
      have f21_1 := fun o => (bcell B21_6).2 (w5.heap.size) o (by go_size)
      have z21_5 : w8.heap.size < w21.heap.size := by omega
      have q21_5 := fun o => (bcell B21_18).1 (w8.heap.size) o (by go_size)
      have f21_5 := fun o => (bcell B21_18).2 (w8.heap.size) o (by go_size)
      have H21 : Below w.heap.size w w21 := bthen (by repeat' (first | (with_reducible exact Below.refl _ _) | (with_reducible assumption) | (with_reducible refine bdrawn ?_ _) | (with_reducible refine Below.alloc ?_ ?_ _) | (with_reducible refine Below.drew ?_) | (with_reducible refine Below.setCell ?_ ?_ _) | go_size)) h21 (by go_size)
      have C21 := (bcell H21).1; have F21 := (bcell H21).2
      have P21 : Below w20.heap.size w20 w21 := bthen (by repeat' (first | (with_reducible exact Below.refl _ _) | (with_reducible assumption) | (with_reducible refine bdrawn ?_ _) | (with_reducible refine Below.alloc ?_ ?_ _) | (with_reducible refine Below.drew ?_) | (with_reducible refine Below.setCell ?_ ?_ _) | go_size)) h21 (by go_size)
      replace p := hide (p.out.below P21 (by omega))
      replace pe := hide (pe.out.below P21 (by omega))
      replace r0 := hide (r0.out.below P21 (by omega))
      replace g := hide (g.out.below P21 (by omega))
      replace x2 := hide (x2.out.below P21 (by omega))
      replace y2 := hide (y2.out.below P21 (by omega))
      replace p3 := hide (p3.out.below P21 (by omega))
      replace pe3 := hide (pe3.out.below P21 (by omega))
      have h := hide (Owned.of_own o21)
      clear o21
      go_wp2_with fail
      refine (laws_eqLogStore _ _ n _ _ S _ (isStrs_owned (h.out.below (B := w21.heap.size) (by go_grown) (by omega)) HSS.out) (isStrs_owned (r0.out.below (B := w21.heap.size) (by go_grown) (by omega)) HSS.out)).mono ?_
      rintro e w22 ⟨rfl, h22⟩
      have s22 := h22.size
      try simp only [World.size_alloc, World.size_setCell, World.size_drew, World.heap_drewN] at s22
      have B22_1 := bnext (by first | (with_reducible exact B21_1) | exact (bgrow B21_1 (by go_size) (by repeat' (first | (with_reducible exact Below.refl _ _) | (with_reducible assumption) | (with_reducible refine bdrawn ?_ _) | (with_reducible refine Below.alloc ?_ ?_ _) | (with_reducible refine Below.drew ?_) | (with_reducible refine Below.setCell ?_ ?_ _) | go_size)))) h22 (by go_size)
      have B22_6 := bnext (by first | (with_reducible exact B21_6) | exact (bgrow B21_6 (by go_size) (by repeat' (first | (with_reducible exact Below.refl _ _) | (with_reducible assumption) | (with_reducible refine bdrawn ?_ _) | (with_reducible refine Below.alloc ?_ ?_ _) | (with_reducible refine Below.drew ?_) | (with_reducible refine Below.setCell ?_ ?_ _) | go_size)))) h22 (by go_size)
      have B22_18 := bnext (by first | (with_reducible exact B21_18) | exact (bgrow B21_18 (by go_size) (by repeat' (first | (with_reducible exact Below.refl _ _) | (with_reducible assumption) | (with_reducible refine bdrawn ?_ _) | (with_reducible refine Below.alloc ?_ ?_ _) | (with_reducible refine Below.drew ?_) | (with_reducible refine Below.setCell ?_ ?_ _) | go_size)))) h22 (by go_size)
      have B22_22 := h22
      have z22_0 : w.heap.size < w22.heap.size := by omega
      have q22_0 := fun o => (bcell B22_1).1 (w.heap.size) o (by go_size)
      have f22_0 := fun o => (bcell B22_1).2 (w.heap.size) o (by go_size)
      have z22_1 : w5.heap.size < w22.heap.size := by omega
      have q22_1 := fun o => (bcell B22_6).1 (w5.heap.size) o (by go_size)
      have f22_1 := fun o => (bcell B22_6).2 (w5.heap.size) o (by go_size)
      have z22_5 : w8.heap.size < w22.heap.size := by omega
      have q22_5 := fun o => (bcell B22_18).1 (w8.heap.size) o (by go_size)
      have f22_5 := fun o => (bcell B22_18).2 (w8.heap.size) o (by go_size)
      have z22_6 : w21.heap.size < w22.heap.size := by omega
      have q22_6 := fun o => (bcell B22_22).1 (w21.heap.size) o (by go_size)
      have f22_6 := fun o => (bcell B22_22).2 (w21.heap.size) o (by go_size)
      have H22 : Below w.heap.size w w22 := bthen (by repeat' (first | (with_reducible exact Below.refl _ _) | (with_reducible assumption) | (with_reducible refine bdrawn ?_ _) | (with_reducible refine Below.alloc ?_ ?_ _) | (with_reducible refine Below.drew ?_) | (with_reducible refine Below.setCell ?_ ?_ _) | go_size)) h22 (by go_size)
      have C22 := (bcell H22).1; have F22 := (bcell H22).2
      have P22 : Below w21.heap.size w21 w22 := bthen (by repeat' (first | (with_reducible exact Below.refl _ _) | (with_reducible assumption) | (with_reducible refine bdrawn ?_ _) | (with_reducible refine Below.alloc ?_ ?_ _) | (with_reducible refine Below.drew ?_) | (with_reducible refine Below.setCell ?_ ?_ _) | go_size)) h22 (by go_size)
      replace p := hide (p.out.below P22 (by omega))
      replace pe := hide (pe.out.below P22 (by omega))
      replace r0 := hide (r0.out.below P22 (by omega))
      replace g := hide (g.out.below P22 (by omega))
      replace x2 := hide (x2.out.below P22 (by omega))
      replace y2 := hide (y2.out.below P22 (by omega))
      replace p3 := hide (p3.out.below P22 (by omega))
      replace pe3 := hide (pe3.out.below P22 (by omega))
      replace h := hide (h.out.below P22 (by omega))
      go_wp2_with fail
      refine (laws_heldLogStore _ n _ 1 _ (by omega) hs1 (isStrs_owned g.out (markS_short (by omega) (by omega) hs1))).mono ?_
      rintro e w23 ⟨rfl, h23⟩
      have s23 := h23.size
      try simp only [World.size_alloc, World.size_setCell, World.size_drew, World.heap_drewN] at s23
      have B23_1 := bnext (by first | (with_reducible exact B22_1) | exact (bgrow B22_1 (by go_size) (by repeat' (first | (with_reducible exact Below.refl _ _) | (with_reducible assumption) | (with_reducible refine bdrawn ?_ _) | (with_reducible refine Below.alloc ?_ ?_ _) | (with_reducible refine Below.drew ?_) | (with_reducible refine Below.setCell ?_ ?_ _) | go_size)))) h23 (by go_size)
      have B23_6 := bnext (by first | (with_reducible exact B22_6) | exact (bgrow B22_6 (by go_size) (by repeat' (first | (with_reducible exact Below.refl _ _) | (with_reducible assumption) | (with_reducible refine bdrawn ?_ _) | (with_reducible refine Below.alloc ?_ ?_ _) | (with_reducible refine Below.drew ?_) | (with_reducible refine Below.setCell ?_ ?_ _) | go_size)))) h23 (by go_size)
      have B23_18 := bnext (by first | (with_reducible exact B22_18) | exact (bgrow B22_18 (by go_size) (by repeat' (first | (with_reducible exact Below.refl _ _) | (with_reducible assumption) | (with_reducible refine bdrawn ?_ _) | (with_reducible refine Below.alloc ?_ ?_ _) | (with_reducible refine Below.drew ?_) | (with_reducible refine Below.setCell ?_ ?_ _) | go_size)))) h23 (by go_size)
      have B23_22 := bnext (by first | (with_reducible exact B22_22) | exact (bgrow B22_22 (by go_size) (by repeat' (first | (with_reducible exact Below.refl _ _) | (with_reducible assumption) | (with_reducible refine bdrawn ?_ _) | (with_reducible refine Below.alloc ?_ ?_ _) | (with_reducible refine Below.drew ?_) | (with_reducible refine Below.setCell ?_ ?_ _) | go_size)))) h23 (by go_size)
      have z23_0 : w.heap.size < w23.heap.size := by omega
      have q23_0 := fun o => (bcell B23_1).1 (w.heap.size) o (by go_size)
      have f23_0 := fun o => (bcell B23_1).2 (w.heap.size) o (by go_size)
      have z23_1 : w5.heap.size < w23.heap.size := by omega
      have q23_1 := fun o => (bcell B23_6).1 (w5.heap.size) o (by go_size)
      have f23_1 := fun o => (bcell B23_6).2 (w5.heap.size) o (by go_size)
      have z23_5 : w8.heap.size < w23.heap.size := by omega
      have q23_5 := fun o => (bcell B23_18).1 (w8.heap.size) o (by go_size)
      have f23_5 := fun o => (bcell B23_18).2 (w8.heap.size) o (by go_size)
      have z23_6 : w21.heap.size < w23.heap.size := by omega
      have q23_6 := fun o => (bcell B23_22).1 (w21.heap.size) o (by go_size)
      have f23_6 := fun o => (bcell B23_22).2 (w21.heap.size) o (by go_size)
      have H23 : Below w.heap.size w w23 := bthen (by repeat' (first | (with_reducible exact Below.refl _ _) | (with_reducible assumption) | (with_reducible refine bdrawn ?_ _) | (with_reducible refine Below.alloc ?_ ?_ _) | (with_reducible refine Below.drew ?_) | (with_reducible refine Below.setCell ?_ ?_ _) | go_size)) h23 (by go_size)
      have C23 := (bcell H23).1; have F23 := (bcell H23).2
      have P23 : Below w22.heap.size w22 w23 := bthen (by repeat' (first | (with_reducible exact Below.refl _ _) | (with_reducible assumption) | (with_reducible refine bdrawn ?_ _) | (with_reducible refine Below.alloc ?_ ?_ _) | (with_reducible refine Below.drew ?_) | (with_reducible refine Below.setCell ?_ ?_ _) | go_size)) h23 (by go_size)
      replace p := hide (p.out.below P23 (by omega))
      replace pe := hide (pe.out.below P23 (by omega))
      replace r0 := hide (r0.out.below P23 (by omega))
      replace g := hide (g.out.below P23 (by omega))
      replace x2 := hide (x2.out.below P23 (by omega))
      replace y2 := hide (y2.out.below P23 (by omega))
      replace p3 := hide (p3.out.below P23 (by omega))
      replace pe3 := hide (pe3.out.below P23 (by omega))
      replace h := hide (h.out.below P23 (by omega))
      go_wp2_with fail
      go_ret
      exact ⟨rfl, by go_grown⟩
    · have HA := hide ha; have HR := hide hr
      clear ha hr
      go_enter Tryd.func7, Tryd.ntmps7
      go_wp2_with fail
      refine (laws_szLogStore a n c ss _ r _ (HA.out.below (B := w.heap.size) (by go_grown) (Nat.le_refl _)) (by omega) (by omega) HR.out).mono ?_
      rintro e w1 ⟨rfl, h1⟩
      have s1 := h1.size
      try simp only [World.size_alloc, World.size_setCell, World.size_drew, World.heap_drewN] at s1
      have B1_1 := h1
      have z1_0 : w.heap.size < w1.heap.size := by omega
      have q1_0 := fun o => (bcell B1_1).1 (w.heap.size) o (by go_size)
      have f1_0 := fun o => (bcell B1_1).2 (w.heap.size) o (by go_size)
      have H1 : Below w.heap.size w w1 := bthen (by repeat' (first | (with_reducible exact Below.refl _ _) | (with_reducible assumption) | (with_reducible refine bdrawn ?_ _) | (with_reducible refine Below.alloc ?_ ?_ _) | (with_reducible refine Below.drew ?_) | (with_reducible refine Below.setCell ?_ ?_ _) | go_size)) h1 (by go_size)
      have C1 := (bcell H1).1; have F1 := (bcell H1).2
      go_wp2_with fail
      refine (laws_szErrorEntryS_no _ _ _ _ _ (by omega) (by omega) (by omega) ⟨hc2, hm2⟩).mono ?_
      rintro e w2 ⟨rfl, h2⟩
      have s2 := h2.size
      try simp only [World.size_alloc, World.size_setCell, World.size_drew, World.heap_drewN] at s2
      have B2_1 := bnext (by first | (with_reducible exact B1_1) | exact (bgrow B1_1 (by go_size) (by repeat' (first | (with_reducible exact Below.refl _ _) | (with_reducible assumption) | (with_reducible refine bdrawn ?_ _) | (with_reducible refine Below.alloc ?_ ?_ _) | (with_reducible refine Below.drew ?_) | (with_reducible refine Below.setCell ?_ ?_ _) | go_size)))) h2 (by go_size)
      have z2_0 : w.heap.size < w2.heap.size := by omega
      have q2_0 := fun o => (bcell B2_1).1 (w.heap.size) o (by go_size)
      have f2_0 := fun o => (bcell B2_1).2 (w.heap.size) o (by go_size)
      have H2 : Below w.heap.size w w2 := bthen (by repeat' (first | (with_reducible exact Below.refl _ _) | (with_reducible assumption) | (with_reducible refine bdrawn ?_ _) | (with_reducible refine Below.alloc ?_ ?_ _) | (with_reducible refine Below.drew ?_) | (with_reducible refine Below.setCell ?_ ?_ _) | go_size)) h2 (by go_size)
      have C2 := (bcell H2).1; have F2 := (bcell H2).2
      go_wp2_with fail
      go_ret
      exact ⟨rfl, by go_grown⟩
  · have HR : Hid ((if ((n + sumS ss ss.length : Nat) : Int) ≤ 1048576 then 1048576 - ((n + sumS ss ss.length : Nat) : Int) else -1) = -1) := hide (if_neg (by omega))
    have HA := hide ha
    clear ha
    go_enter Tryd.func7, Tryd.ntmps7
    go_wp2_with fail
    refine (laws_szLogStore a n c ss _ (-1) _ (HA.out.below (B := w.heap.size) (by go_grown) (Nat.le_refl _)) (by omega) (by omega) HR.out).mono ?_
    rintro e w1 ⟨rfl, h1⟩
    have s1 := h1.size
    try simp only [World.size_alloc, World.size_setCell, World.size_drew, World.heap_drewN] at s1
    have B1_1 := h1
    have z1_0 : w.heap.size < w1.heap.size := by omega
    have q1_0 := fun o => (bcell B1_1).1 (w.heap.size) o (by go_size)
    have f1_0 := fun o => (bcell B1_1).2 (w.heap.size) o (by go_size)
    have H1 : Below w.heap.size w w1 := bthen (by repeat' (first | (with_reducible exact Below.refl _ _) | (with_reducible assumption) | (with_reducible refine bdrawn ?_ _) | (with_reducible refine Below.alloc ?_ ?_ _) | (with_reducible refine Below.drew ?_) | (with_reducible refine Below.setCell ?_ ?_ _) | go_size)) h1 (by go_size)
    have C1 := (bcell H1).1; have F1 := (bcell H1).2
    go_wp2_with fail
    go_ret
    exact ⟨rfl, by go_grown⟩
set_option maxRecDepth 100000 in
theorem FnExactLogWrite_lifted (os : Os) (started : os.Started) (H : Type) (enc : TypeId × Value → H) :
    ReturnsInHanded {} Tryd.checked os 7 .any (fun w args => (Rows.fnExactLogWriteSpec.pre enc Tryd.prog Tryd.f7 [] false w args ∧ laidMetH Tryd.prog Rows.fnExactLogWriteRow.laid w) ∧ sizedMet enc Tryd.prog Tryd.f7 (OpenSpec.ofChange Rows.fnExactLogWriteSpec) false w args)
      (Rows.fnExactLogWriteSpec.post enc Tryd.prog Tryd.f7 false true false false) := by
  refine door_wrap (C := Tryd.checked) (X := fun w _ => laidMetH Tryd.prog Rows.fnExactLogWriteRow.laid w) (fun _ _ _ hh h => h.of_heap hh) try_own started (by kernel_rfl) Tryd.func7
    (ChangeSpec.witness_shaped (enc := enc) (C := Tryd.checked) (os := os) (X := fun w _ => laidMetH Tryd.prog Rows.fnExactLogWriteRow.laid w) false (World.laidAll Tryd.prog os Rows.fnExactLogWriteRow.laid) #[.agg #[.slice none 0 0], .slice none 0 0, .int .i64 0] 8 (World.laidAll_os _ _ _)
      (World.shaped_of_ZipB (by kernel_rfl) (by kernel_rfl)) (by kernel_rfl) (by kernel_rfl) (by kernel_rfl)
      (by rw [MakeChecks.laidMetH_plain _ _ _ (by kernel_rfl)]; exact laidMet_laidAll _ (by kernel_rfl) (by kernel_rfl))) ?_
  intro W base args ds gs before hval0 hW _ _ hL hSh _
  rw [MakeChecks.laidMetH_plain _ _ _ (by kernel_rfl)] at hL
  have hgood : Good W := good_of hL hSh
  have hval : ∀ (j : Nat) t v, Tryd.f7.params[j]? = some t → args[j]? = some v → Value.okWide Tryd.prog W .any base t v := hval0
  have hW' := hW
  obtain ⟨p, q, hA0, hV, rfl, hfz, hnd⟩ := hW
  have hA : DataW.TrodAll enc Tryd.prog W 0 (fun _ => true) true Tryd.f7.params.toList args.toList ds p := hA0
  rw [Tryd.params7] at hA hval
  obtain ⟨v0, vs0, d0, ds0, p0, q0, hargs, rfl, rfl, h0, r0⟩ := trodAll_cons hA
  obtain ⟨v1, vs1, d1, ds1, p1, q1, rfl, rfl, rfl, h1, r1⟩ := trodAll_cons r0
  obtain ⟨v2, vs2, d2, ds2, p2, q2, rfl, rfl, rfl, h2, r2⟩ := trodAll_cons r1
  obtain ⟨rfl, rfl, rfl⟩ := trodAll_nil r2
  obtain rfl : args = #[v0, v1, v2] := by cases args; simp_all
  obtain ⟨rfl, rfl⟩ := trodVars_none hV
  try simp only [List.append_nil] at hW'
  have k0 := h0
  have lt0 : ∀ x ∈ p0, x.block < W.heap.size := by obtain ⟨m, hm⟩ := k0; exact DataW.trod_lt m _ _ _ hm
  have k1 := h1
  have lt1 : ∀ x ∈ p1, x.block < W.heap.size := by obtain ⟨m, hm⟩ := k1; exact DataW.trod_lt m _ _ _ hm
  have k2 := h2
  have lt2 : ∀ x ∈ p2, x.block < W.heap.size := by obtain ⟨m, hm⟩ := k2; exact DataW.trod_lt m _ _ _ hm
  obtain ⟨v0_0, y0_0, m0, rfl, rfl, _, hy0_0⟩ := open_agg1 Tryd.underlying40 (by kernel_rfl) (by kernel_rfl) (hval 0 40 v0 rfl rfl) h0
  obtain ⟨a_x0_0, n_x0_0, c_x0_0, x0_0, e_x0_0, w_x0_0⟩ := isStrs_of Tryd.underlying33 Tryd.underlying9 (by kernel_rfl) hy0_0
  obtain ⟨b_x1, m_x1, l_x1, rfl⟩ := okWide_slice Tryd.underlying22 (hval 1 22 v1 rfl rfl)
  obtain ⟨fu1, h1⟩ := h1
  obtain ⟨a_x1, n_x1, c_x1, x1, e_x1, w_x1⟩ := isErrorEntrys_of h1
  obtain ⟨x2, rfl, rfl, rfl, w_x2⟩ := open_int Tryd.underlying3 (hval 2 3 v2 rfl rfl) h2
  simp only [List.cons.injEq, and_true] at e_x0_0; subst e_x0_0
  simp only [Value.cells, List.cons.injEq, and_true] at e_x1
  obtain ⟨q1, q2, q3⟩ : b_x1 = a_x1 ∧ m_x1 = n_x1 ∧ l_x1 = c_x1 := by simpa using e_x1
  replace q1 := q1.symm; replace q2 := q2.symm; replace q3 := q3.symm; subst q1 q2 q3
  clear hA0 hval0
  refine (FnExactLogWrite_walk a_x0_0 n_x0_0 c_x0_0 x0_0 a_x1 n_x1 c_x1 x1 x2 W w_x0_0 w_x1 hgood).mono fun e W' ⟨he, bel⟩ => ?_
  subst he
  exact ⟨_, rfl, _, _, _, [], _, [], hW', trodAll_mk1 (shut_bool Tryd.underlying4 _), (trodAll_cons_mk (Below.trod try_laidOut (by kernel_rfl) (of_decide_eq_true (by kernel_rfl)) k0 bel lt0) (trodAll_cons_mk (Below.trod try_laidOut (by kernel_rfl) (of_decide_eq_true (by kernel_rfl)) k1 bel lt1) (trodAll_cons_mk (Below.trod try_laidOut (by kernel_rfl) (of_decide_eq_true (by kernel_rfl)) k2 bel lt2) trodAll_mk0))), rfl, bel.frame _, fun h => by cases h⟩

theorem FnExactLogWrite_holds : Rows.FnExactLogWriteSaid :=
  OpenClaim.holds_of_wide 7 Tryd.f7 rfl rfl rfl rfl rfl rfl rfl ⟨rfl, rfl, rfl, rfl, rfl⟩ rfl rfl rfl rfl rfl (by kernel_rfl) Tryd.func7 (by kernel_rfl)
    (of_decide_eq_true (by kernel_rfl)) (by unfold Func.isWrapper; rw [if_neg (of_decide_eq_false (by kernel_rfl))]; exact ⟨rfl, rfl⟩)
    (fun os started H enc _ => FnExactLogWrite_lifted os started H enc)
theorem FnExactLogWrite_card : Rows.FnExactLogWriteCardSaid :=
  Claim7.holds_tied_plain_at .later [] [.data, .data, .data, .data, .pinned] true (true, "db3932f5ca78fea8835bc8ddd515987acb19a4f8921aa1f4aa3ed976f54975c6") false FnExactLogWrite_holds (fun _ h => by cases h) (by kernel_rfl) (fun _ h => by cases h) fnExactLogWrite_row_tie rfl ⟨rfl, rfl⟩ (by kernel_rfl) rfl
    (fun f fn hf hfn => by
      obtain rfl : f = 7 := Option.some.inj ((show Tryd.prog.funcNamed Rows.fnExactLogWriteRow.func = some 7 by kernel_rfl).symm.trans hf) |>.symm
      obtain rfl : fn = Tryd.f7 := (Option.some.inj (Tryd.func7.symm.trans hfn)).symm
      exact ⟨by kernel_rfl, fun j t ht => by
        rw [Tryd.params7] at ht
        have hm : t ∈ [40, 22, 3] := by simpa using Array.mem_of_getElem? ht
        have hall : ([40, 22, 3].all fun u => !Tryd.prog.wantsStandIn u) = true := by kernel_rfl
        exact (show Tryd.prog.wantsStandIn t = false by simpa using List.all_eq_true.1 hall t hm)⟩)
    (by kernel_rfl)
#print axioms FnExactLogWrite_card
end Go.Proofs.YtheifhjnbpbkhaaDoor
