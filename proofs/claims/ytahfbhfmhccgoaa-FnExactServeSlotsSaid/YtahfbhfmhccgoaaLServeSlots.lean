/- For all slots, every time and every list of requests the program's ServeSlots returns what the reference's returns, in memory of its own, and leaves its arguments as they were. No condition. -/
import Derived.Test.YtahfbhfmhccgoaaSlotMark
set_option linter.unusedSimpArgs false
set_option linter.unusedVariables false
namespace Go.Proofs.Ytahfbhfmhccgoaa
open Go.RowKit Go.ChangeShapes Go.WideShapes Go.ChangeAt Go.Joins Go.Deep
open Go.ChangeMaps (open_string shut_string)
set_option maxRecDepth 100000 in
set_option maxHeartbeats 4000000 in
theorem FnExactServeSlots_walk (a1 : Option Addr) (n1 c1 : Nat) (zs : List Int) (l u : Int) (a : Option Addr) (n c : Nat) (es : List Rq) (w : World) (hz : IsInts .i64 w a1 n1 c1 zs) (ha : IsStructs rqF 6 w a n c es) :
    Calls Try.prog 9 #[.agg #[.slice a1 n1 c1, .int .i64 l], .int .i64 u, .slice a n c] w fun e w' => e = .returned (.bool true) ∧ Below w.heap.size w w' := by
  have hm : c ≤ 9223372036854775807 := ha.2.2.1
  have hc := ha.2.1
  have hm1 : c1 ≤ 9223372036854775807 := hz.2.2.1
  have hc1 := hz.2.1
  have hw := hide hz.2.2.2.1
  by_cases hs1 : n1 ≤ 1048576
  · by_cases hs : n ≤ 1048576 - n1
    · obtain ⟨K, hK'⟩ : ∃ K, (servedAll es zs l u).length = K := ⟨_, rfl⟩
      have hKn : K ≤ 1001 := by rw [← hK']; exact servedAll_le _ _ _ _
      have hK := hide hK'
      have HA := hide ha; have HZ := hide hz
      clear ha hz hK'
      have g9 : (0 : Int) ≤ 1048576 - (n1 : Int) := by omega
      have g8 : (0 : Int) ≤ 1048576 - (n1 : Int) - (n : Int) := by omega
      have g7 : (0 : Int) ≤ (K : Int) := by omega
      have g6 : (0 : Int) ≤ (n : Int) := by omega
      have g5 : (0 : Int) ≤ (n1 : Int) := by omega
      go_enter Try.func9, Try.ntmps9
      go_wp2_with fail
      refine (laws_szSlots _ _ _ _ _ _ (by omega) (by omega) (by omega)).mono ?_
      rintro e w1 ⟨rfl, h1⟩
      have s1 := h1.size
      try simp only [World.size_alloc, World.size_setCell, World.size_drew, World.heap_drewN] at s1
      have B1_1 := h1
      have z1_0 : w.heap.size < w1.heap.size := by omega
      have q1_0 := fun o => (bcell B1_1).1 (w.heap.size) o (by go_size)
      have f1_0 := fun o => (bcell B1_1).2 (w.heap.size) o (by go_size)
      have H1 : Below w.heap.size w w1 := bthen (by repeat' (first | (with_reducible exact Below.refl _ _) | (with_reducible assumption) | (with_reducible refine bdrawn ?_ _) | (with_reducible refine Below.alloc ?_ ?_ _) | (with_reducible refine Below.drew ?_) | (with_reducible refine Below.setCell ?_ ?_ _) | go_size)) h1 (by go_size)
      have C1 := (bcell H1).1; have F1 := (bcell H1).2
      go_wp2_with fail
      refine (laws_szRequestS _ _ _ _ _ (by omega) (by omega) (by omega)).mono ?_
      rintro e w2 ⟨rfl, h2⟩
      have s2 := h2.size
      try simp only [World.size_alloc, World.size_setCell, World.size_drew, World.heap_drewN] at s2
      have B2_1 := bnext (by first | (with_reducible exact B1_1) | exact (bgrow B1_1 (by go_size) (by repeat' (first | (with_reducible exact Below.refl _ _) | (with_reducible assumption) | (with_reducible refine bdrawn ?_ _) | (with_reducible refine Below.alloc ?_ ?_ _) | (with_reducible refine Below.drew ?_) | (with_reducible refine Below.setCell ?_ ?_ _) | go_size)))) h2 (by go_size)
      have z2_0 : w.heap.size < w2.heap.size := by omega
      have q2_0 := fun o => (bcell B2_1).1 (w.heap.size) o (by go_size)
      have f2_0 := fun o => (bcell B2_1).2 (w.heap.size) o (by go_size)
      have H2 : Below w.heap.size w w2 := bthen (by repeat' (first | (with_reducible exact Below.refl _ _) | (with_reducible assumption) | (with_reducible refine bdrawn ?_ _) | (with_reducible refine Below.alloc ?_ ?_ _) | (with_reducible refine Below.drew ?_) | (with_reducible refine Below.setCell ?_ ?_ _) | go_size)) h2 (by go_size)
      have C2 := (bcell H2).1; have F2 := (bcell H2).2
      go_wp2_with fail
      refine (laws_toSlots _ _ _ zs l _ (HZ.out.below H2 (Nat.le_refl _)) hs1).mono ?_
      rintro e w3 ⟨a3, c3, rfl, o3, h3⟩
      have s3 := h3.size
      try simp only [World.size_alloc, World.size_setCell, World.size_drew, World.heap_drewN] at s3
      have B3_1 := bnext (by first | (with_reducible exact B2_1) | exact (bgrow B2_1 (by go_size) (by repeat' (first | (with_reducible exact Below.refl _ _) | (with_reducible assumption) | (with_reducible refine bdrawn ?_ _) | (with_reducible refine Below.alloc ?_ ?_ _) | (with_reducible refine Below.drew ?_) | (with_reducible refine Below.setCell ?_ ?_ _) | go_size)))) h3 (by go_size)
      have z3_0 : w.heap.size < w3.heap.size := by omega
      have q3_0 := fun o => (bcell B3_1).1 (w.heap.size) o (by go_size)
      have f3_0 := fun o => (bcell B3_1).2 (w.heap.size) o (by go_size)
      have H3 : Below w.heap.size w w3 := bthen (by repeat' (first | (with_reducible exact Below.refl _ _) | (with_reducible assumption) | (with_reducible refine bdrawn ?_ _) | (with_reducible refine Below.alloc ?_ ?_ _) | (with_reducible refine Below.drew ?_) | (with_reducible refine Below.setCell ?_ ?_ _) | go_size)) h3 (by go_size)
      have C3 := (bcell H3).1; have F3 := (bcell H3).2
      have p := hide (Owned.of_own o3)
      clear o3
      go_wp2_with fail
      refine (laws_toRequestS _ _ _ es _ (HA.out.below H3 (Nat.le_refl _)) (by omega)).mono ?_
      rintro e w4 ⟨a4, c4, rfl, o4, h4⟩
      have s4 := h4.size
      try simp only [World.size_alloc, World.size_setCell, World.size_drew, World.heap_drewN] at s4
      have B4_1 := bnext (by first | (with_reducible exact B3_1) | exact (bgrow B3_1 (by go_size) (by repeat' (first | (with_reducible exact Below.refl _ _) | (with_reducible assumption) | (with_reducible refine bdrawn ?_ _) | (with_reducible refine Below.alloc ?_ ?_ _) | (with_reducible refine Below.drew ?_) | (with_reducible refine Below.setCell ?_ ?_ _) | go_size)))) h4 (by go_size)
      have z4_0 : w.heap.size < w4.heap.size := by omega
      have q4_0 := fun o => (bcell B4_1).1 (w.heap.size) o (by go_size)
      have f4_0 := fun o => (bcell B4_1).2 (w.heap.size) o (by go_size)
      have H4 : Below w.heap.size w w4 := bthen (by repeat' (first | (with_reducible exact Below.refl _ _) | (with_reducible assumption) | (with_reducible refine bdrawn ?_ _) | (with_reducible refine Below.alloc ?_ ?_ _) | (with_reducible refine Below.drew ?_) | (with_reducible refine Below.setCell ?_ ?_ _) | go_size)) h4 (by go_size)
      have C4 := (bcell H4).1; have F4 := (bcell H4).2
      have P4 : Below w3.heap.size w3 w4 := bthen (by repeat' (first | (with_reducible exact Below.refl _ _) | (with_reducible assumption) | (with_reducible refine bdrawn ?_ _) | (with_reducible refine Below.alloc ?_ ?_ _) | (with_reducible refine Below.drew ?_) | (with_reducible refine Below.setCell ?_ ?_ _) | go_size)) h4 (by go_size)
      replace p := hide (p.out.below P4 (by omega))
      have q := hide (Owned.of_own o4)
      clear o4
      go_wp2_with fail
      refine (spec_ServeSlots _ _ _ zs l u _ _ _ es K _ (isInts_own p.out.1 hw.out) hs1 (isStructs_own rqF_len (by omega) q.out.1) hK.out).mono ?_
      rintro e w5 ⟨a5, c5, rfl, o5, h5⟩
      have s5 := h5.size
      try simp only [World.size_alloc, World.size_setCell, World.size_drew, World.heap_drewN] at s5
      have B5_1 := bnext (by first | (with_reducible exact B4_1) | exact (bgrow B4_1 (by go_size) (by repeat' (first | (with_reducible exact Below.refl _ _) | (with_reducible assumption) | (with_reducible refine bdrawn ?_ _) | (with_reducible refine Below.alloc ?_ ?_ _) | (with_reducible refine Below.drew ?_) | (with_reducible refine Below.setCell ?_ ?_ _) | go_size)))) h5 (by go_size)
      have z5_0 : w.heap.size < w5.heap.size := by omega
      have q5_0 := fun o => (bcell B5_1).1 (w.heap.size) o (by go_size)
      have f5_0 := fun o => (bcell B5_1).2 (w.heap.size) o (by go_size)
      have H5 : Below w.heap.size w w5 := bthen (by repeat' (first | (with_reducible exact Below.refl _ _) | (with_reducible assumption) | (with_reducible refine bdrawn ?_ _) | (with_reducible refine Below.alloc ?_ ?_ _) | (with_reducible refine Below.drew ?_) | (with_reducible refine Below.setCell ?_ ?_ _) | go_size)) h5 (by go_size)
      have C5 := (bcell H5).1; have F5 := (bcell H5).2
      have P5 : Below w4.heap.size w4 w5 := bthen (by repeat' (first | (with_reducible exact Below.refl _ _) | (with_reducible assumption) | (with_reducible refine bdrawn ?_ _) | (with_reducible refine Below.alloc ?_ ?_ _) | (with_reducible refine Below.drew ?_) | (with_reducible refine Below.setCell ?_ ?_ _) | go_size)) h5 (by go_size)
      replace p := hide (p.out.below P5 (by omega))
      replace q := hide (q.out.below P5 (by omega))
      have r := hide (Owned.of_own o5)
      clear o5
      go_wp2_with fail
      refine (laws_toSlots _ _ _ zs l _ (HZ.out.below H5 (Nat.le_refl _)) hs1).mono ?_
      rintro e w6 ⟨a6, c6, rfl, o6, h6⟩
      have s6 := h6.size
      try simp only [World.size_alloc, World.size_setCell, World.size_drew, World.heap_drewN] at s6
      have B6_1 := bnext (by first | (with_reducible exact B5_1) | exact (bgrow B5_1 (by go_size) (by repeat' (first | (with_reducible exact Below.refl _ _) | (with_reducible assumption) | (with_reducible refine bdrawn ?_ _) | (with_reducible refine Below.alloc ?_ ?_ _) | (with_reducible refine Below.drew ?_) | (with_reducible refine Below.setCell ?_ ?_ _) | go_size)))) h6 (by go_size)
      have z6_0 : w.heap.size < w6.heap.size := by omega
      have q6_0 := fun o => (bcell B6_1).1 (w.heap.size) o (by go_size)
      have f6_0 := fun o => (bcell B6_1).2 (w.heap.size) o (by go_size)
      have H6 : Below w.heap.size w w6 := bthen (by repeat' (first | (with_reducible exact Below.refl _ _) | (with_reducible assumption) | (with_reducible refine bdrawn ?_ _) | (with_reducible refine Below.alloc ?_ ?_ _) | (with_reducible refine Below.drew ?_) | (with_reducible refine Below.setCell ?_ ?_ _) | go_size)) h6 (by go_size)
      have C6 := (bcell H6).1; have F6 := (bcell H6).2
      have P6 : Below w5.heap.size w5 w6 := bthen (by repeat' (first | (with_reducible exact Below.refl _ _) | (with_reducible assumption) | (with_reducible refine bdrawn ?_ _) | (with_reducible refine Below.alloc ?_ ?_ _) | (with_reducible refine Below.drew ?_) | (with_reducible refine Below.setCell ?_ ?_ _) | go_size)) h6 (by go_size)
      replace p := hide (p.out.below P6 (by omega))
      replace q := hide (q.out.below P6 (by omega))
      replace r := hide (r.out.below P6 (by omega))
      have x := hide (Owned.of_own o6)
      clear o6
      go_wp2_with fail
      refine (laws_toRequestS _ _ _ es _ (HA.out.below (B := w.heap.size) (by go_grown) (Nat.le_refl _)) (by omega)).mono ?_
      rintro e w7 ⟨a7, c7, rfl, o7, h7⟩
      have s7 := h7.size
      try simp only [World.size_alloc, World.size_setCell, World.size_drew, World.heap_drewN] at s7
      have B7_1 := bnext (by first | (with_reducible exact B6_1) | exact (bgrow B6_1 (by go_size) (by repeat' (first | (with_reducible exact Below.refl _ _) | (with_reducible assumption) | (with_reducible refine bdrawn ?_ _) | (with_reducible refine Below.alloc ?_ ?_ _) | (with_reducible refine Below.drew ?_) | (with_reducible refine Below.setCell ?_ ?_ _) | go_size)))) h7 (by go_size)
      have B7_7 := h7
      have z7_0 : w.heap.size < w7.heap.size := by omega
      have q7_0 := fun o => (bcell B7_1).1 (w.heap.size) o (by go_size)
      have f7_0 := fun o => (bcell B7_1).2 (w.heap.size) o (by go_size)
      have z7_1 : w6.heap.size < w7.heap.size := by omega
      have q7_1 := fun o => (bcell B7_7).1 (w6.heap.size) o (by go_size)
      have f7_1 := fun o => (bcell B7_7).2 (w6.heap.size) o (by go_size)
      have H7 : Below w.heap.size w w7 := bthen (by repeat' (first | (with_reducible exact Below.refl _ _) | (with_reducible assumption) | (with_reducible refine bdrawn ?_ _) | (with_reducible refine Below.alloc ?_ ?_ _) | (with_reducible refine Below.drew ?_) | (with_reducible refine Below.setCell ?_ ?_ _) | go_size)) h7 (by go_size)
      have C7 := (bcell H7).1; have F7 := (bcell H7).2
      have P7 : Below w6.heap.size w6 w7 := bthen (by repeat' (first | (with_reducible exact Below.refl _ _) | (with_reducible assumption) | (with_reducible refine bdrawn ?_ _) | (with_reducible refine Below.alloc ?_ ?_ _) | (with_reducible refine Below.drew ?_) | (with_reducible refine Below.setCell ?_ ?_ _) | go_size)) h7 (by go_size)
      replace p := hide (p.out.below P7 (by omega))
      replace q := hide (q.out.below P7 (by omega))
      replace r := hide (r.out.below P7 (by omega))
      replace x := hide (x.out.below P7 (by omega))
      have y := hide (Owned.of_own o7)
      clear o7
      go_wp2_with fail
      refine (impl_ServeSlots _ _ _ zs l u _ _ _ es K _ (isInts_own x.out.1 hw.out) hs1 (isStructs_own rqF_len (by omega) y.out.1) hK.out).mono ?_
      rintro e w8 ⟨a8, c8, rfl, o8, h8⟩
      have s8 := h8.size
      try simp only [World.size_alloc, World.size_setCell, World.size_drew, World.heap_drewN] at s8
      have B8_1 := bnext (by first | (with_reducible exact B7_1) | exact (bgrow B7_1 (by go_size) (by repeat' (first | (with_reducible exact Below.refl _ _) | (with_reducible assumption) | (with_reducible refine bdrawn ?_ _) | (with_reducible refine Below.alloc ?_ ?_ _) | (with_reducible refine Below.drew ?_) | (with_reducible refine Below.setCell ?_ ?_ _) | go_size)))) h8 (by go_size)
      have B8_7 := bnext (by first | (with_reducible exact B7_7) | exact (bgrow B7_7 (by go_size) (by repeat' (first | (with_reducible exact Below.refl _ _) | (with_reducible assumption) | (with_reducible refine bdrawn ?_ _) | (with_reducible refine Below.alloc ?_ ?_ _) | (with_reducible refine Below.drew ?_) | (with_reducible refine Below.setCell ?_ ?_ _) | go_size)))) h8 (by go_size)
      have z8_0 : w.heap.size < w8.heap.size := by omega
      have q8_0 := fun o => (bcell B8_1).1 (w.heap.size) o (by go_size)
      have f8_0 := fun o => (bcell B8_1).2 (w.heap.size) o (by go_size)
      have z8_1 : w6.heap.size < w8.heap.size := by omega
      have q8_1 := fun o => (bcell B8_7).1 (w6.heap.size) o (by go_size)
      have f8_1 := fun o => (bcell B8_7).2 (w6.heap.size) o (by go_size)
      have H8 : Below w.heap.size w w8 := bthen (by repeat' (first | (with_reducible exact Below.refl _ _) | (with_reducible assumption) | (with_reducible refine bdrawn ?_ _) | (with_reducible refine Below.alloc ?_ ?_ _) | (with_reducible refine Below.drew ?_) | (with_reducible refine Below.setCell ?_ ?_ _) | go_size)) h8 (by go_size)
      have C8 := (bcell H8).1; have F8 := (bcell H8).2
      have P8 : Below w7.heap.size w7 w8 := bthen (by repeat' (first | (with_reducible exact Below.refl _ _) | (with_reducible assumption) | (with_reducible refine bdrawn ?_ _) | (with_reducible refine Below.alloc ?_ ?_ _) | (with_reducible refine Below.drew ?_) | (with_reducible refine Below.setCell ?_ ?_ _) | go_size)) h8 (by go_size)
      replace p := hide (p.out.below P8 (by omega))
      replace q := hide (q.out.below P8 (by omega))
      replace r := hide (r.out.below P8 (by omega))
      replace x := hide (x.out.below P8 (by omega))
      replace y := hide (y.out.below P8 (by omega))
      have g := hide (Owned.of_own o8)
      clear o8
      go_wp2_with fail
      refine (laws_eqServedS _ _ _ _ _ _ _ (isStructs_own svF_len (by omega) g.out.1) (isStructs_own svF_len (by omega) r.out.1)).mono ?_
      rintro e w9 ⟨rfl, h9⟩
      have s9 := h9.size
      try simp only [World.size_alloc, World.size_setCell, World.size_drew, World.heap_drewN] at s9
      have B9_1 := bnext (by first | (with_reducible exact B8_1) | exact (bgrow B8_1 (by go_size) (by repeat' (first | (with_reducible exact Below.refl _ _) | (with_reducible assumption) | (with_reducible refine bdrawn ?_ _) | (with_reducible refine Below.alloc ?_ ?_ _) | (with_reducible refine Below.drew ?_) | (with_reducible refine Below.setCell ?_ ?_ _) | go_size)))) h9 (by go_size)
      have B9_7 := bnext (by first | (with_reducible exact B8_7) | exact (bgrow B8_7 (by go_size) (by repeat' (first | (with_reducible exact Below.refl _ _) | (with_reducible assumption) | (with_reducible refine bdrawn ?_ _) | (with_reducible refine Below.alloc ?_ ?_ _) | (with_reducible refine Below.drew ?_) | (with_reducible refine Below.setCell ?_ ?_ _) | go_size)))) h9 (by go_size)
      have z9_0 : w.heap.size < w9.heap.size := by omega
      have q9_0 := fun o => (bcell B9_1).1 (w.heap.size) o (by go_size)
      have f9_0 := fun o => (bcell B9_1).2 (w.heap.size) o (by go_size)
      have z9_1 : w6.heap.size < w9.heap.size := by omega
      have q9_1 := fun o => (bcell B9_7).1 (w6.heap.size) o (by go_size)
      have f9_1 := fun o => (bcell B9_7).2 (w6.heap.size) o (by go_size)
      have H9 : Below w.heap.size w w9 := bthen (by repeat' (first | (with_reducible exact Below.refl _ _) | (with_reducible assumption) | (with_reducible refine bdrawn ?_ _) | (with_reducible refine Below.alloc ?_ ?_ _) | (with_reducible refine Below.drew ?_) | (with_reducible refine Below.setCell ?_ ?_ _) | go_size)) h9 (by go_size)
      have C9 := (bcell H9).1; have F9 := (bcell H9).2
      have P9 : Below w8.heap.size w8 w9 := bthen (by repeat' (first | (with_reducible exact Below.refl _ _) | (with_reducible assumption) | (with_reducible refine bdrawn ?_ _) | (with_reducible refine Below.alloc ?_ ?_ _) | (with_reducible refine Below.drew ?_) | (with_reducible refine Below.setCell ?_ ?_ _) | go_size)) h9 (by go_size)
      replace p := hide (p.out.below P9 (by omega))
      replace q := hide (q.out.below P9 (by omega))
      replace r := hide (r.out.below P9 (by omega))
      replace x := hide (x.out.below P9 (by omega))
      replace y := hide (y.out.below P9 (by omega))
      replace g := hide (g.out.below P9 (by omega))
      go_wp2_with fail
      go_region_held3 (fun v => v.cell? ⟨w.heap.size, 0, none⟩ = some (.slice a1 n1 c1) ∧ v.cell? ⟨w.heap.size, 1, none⟩ = some (.int .i64 l) ∧ v.cell? ⟨w6.heap.size, 0, none⟩ = some (.slice a6 n1 c6) ∧ v.cell? ⟨w6.heap.size, 1, none⟩ = some (.int .i64 l)) (first | go_keep | simp [go_sem, *]) (first | (go_at_call 39; refine (laws_toSlots _ _ _ zs l _ (HZ.out.below (B := w.heap.size) (bthen H9 (Below.refl _ _).drew (Nat.le_refl _)) (Nat.le_refl _)) hs1).mono ?_; rintro e w10 ⟨a10, c10, rfl, o10, h10⟩; have s10 := h10.size; (try simp only [World.size_alloc, World.size_setCell, World.size_drew, World.heap_drewN] at s10); have B10_1 := bnext (by first | (with_reducible exact B9_1) | exact (bgrow B9_1 (by go_size) (by repeat' (first | (with_reducible exact Below.refl _ _) | (with_reducible assumption) | (with_reducible refine bdrawn ?_ _) | (with_reducible refine Below.alloc ?_ ?_ _) | (with_reducible refine Below.drew ?_) | (with_reducible refine Below.setCell ?_ ?_ _) | go_size)))) h10 (by go_size); have B10_7 := bnext (by first | (with_reducible exact B9_7) | exact (bgrow B9_7 (by go_size) (by repeat' (first | (with_reducible exact Below.refl _ _) | (with_reducible assumption) | (with_reducible refine bdrawn ?_ _) | (with_reducible refine Below.alloc ?_ ?_ _) | (with_reducible refine Below.drew ?_) | (with_reducible refine Below.setCell ?_ ?_ _) | go_size)))) h10 (by go_size); have z10_0 : w.heap.size < w10.heap.size := (by omega); have q10_0 := fun o => (bcell B10_1).1 (w.heap.size) o (by go_size); have f10_0 := fun o => (bcell B10_1).2 (w.heap.size) o (by go_size); have z10_1 : w6.heap.size < w10.heap.size := (by omega); have q10_1 := fun o => (bcell B10_7).1 (w6.heap.size) o (by go_size); have f10_1 := fun o => (bcell B10_7).2 (w6.heap.size) o (by go_size); have H10 : Below w.heap.size w w10 := bthen (by repeat' (first | (with_reducible exact Below.refl _ _) | (with_reducible assumption) | (with_reducible refine bdrawn ?_ _) | (with_reducible refine Below.alloc ?_ ?_ _) | (with_reducible refine Below.drew ?_) | (with_reducible refine Below.setCell ?_ ?_ _) | go_size)) h10 (by go_size); have C10 := (bcell H10).1; have F10 := (bcell H10).2; have P10 : Below w9.heap.size w9 w10 := bthen (by repeat' (first | (with_reducible exact Below.refl _ _) | (with_reducible assumption) | (with_reducible refine bdrawn ?_ _) | (with_reducible refine Below.alloc ?_ ?_ _) | (with_reducible refine Below.drew ?_) | (with_reducible refine Below.setCell ?_ ?_ _) | go_size)) h10 (by go_size); replace p := hide (p.out.below P10 (by omega)); replace q := hide (q.out.below P10 (by omega)); replace r := hide (r.out.below P10 (by omega)); replace x := hide (x.out.below P10 (by omega)); replace y := hide (y.out.below P10 (by omega)); replace g := hide (g.out.below P10 (by omega)); have x2 := hide (Owned.of_own o10); clear o10) | (go_at_call 42; refine (laws_eqSlots _ _ _ _ _ _ _ _ (isInts_own x.out.1 hw.out) (isInts_own x2.out.1 hw.out)).mono ?_; rintro e w11 ⟨rfl, h11⟩; have s11 := h11.size; (try simp only [World.size_alloc, World.size_setCell, World.size_drew, World.heap_drewN] at s11); have B11_1 := bnext (by first | (with_reducible exact B10_1) | exact (bgrow B10_1 (by go_size) (by repeat' (first | (with_reducible exact Below.refl _ _) | (with_reducible assumption) | (with_reducible refine bdrawn ?_ _) | (with_reducible refine Below.alloc ?_ ?_ _) | (with_reducible refine Below.drew ?_) | (with_reducible refine Below.setCell ?_ ?_ _) | go_size)))) h11 (by go_size); have B11_7 := bnext (by first | (with_reducible exact B10_7) | exact (bgrow B10_7 (by go_size) (by repeat' (first | (with_reducible exact Below.refl _ _) | (with_reducible assumption) | (with_reducible refine bdrawn ?_ _) | (with_reducible refine Below.alloc ?_ ?_ _) | (with_reducible refine Below.drew ?_) | (with_reducible refine Below.setCell ?_ ?_ _) | go_size)))) h11 (by go_size); have z11_0 : w.heap.size < w11.heap.size := (by omega); have q11_0 := fun o => (bcell B11_1).1 (w.heap.size) o (by go_size); have f11_0 := fun o => (bcell B11_1).2 (w.heap.size) o (by go_size); have z11_1 : w6.heap.size < w11.heap.size := (by omega); have q11_1 := fun o => (bcell B11_7).1 (w6.heap.size) o (by go_size); have f11_1 := fun o => (bcell B11_7).2 (w6.heap.size) o (by go_size); have H11 : Below w.heap.size w w11 := bthen (by repeat' (first | (with_reducible exact Below.refl _ _) | (with_reducible assumption) | (with_reducible refine bdrawn ?_ _) | (with_reducible refine Below.alloc ?_ ?_ _) | (with_reducible refine Below.drew ?_) | (with_reducible refine Below.setCell ?_ ?_ _) | go_size)) h11 (by go_size); have C11 := (bcell H11).1; have F11 := (bcell H11).2; have P11 : Below w10.heap.size w10 w11 := bthen (by repeat' (first | (with_reducible exact Below.refl _ _) | (with_reducible assumption) | (with_reducible refine bdrawn ?_ _) | (with_reducible refine Below.alloc ?_ ?_ _) | (with_reducible refine Below.drew ?_) | (with_reducible refine Below.setCell ?_ ?_ _) | go_size)) h11 (by go_size); replace p := hide (p.out.below P11 (by omega)); replace q := hide (q.out.below P11 (by omega)); replace r := hide (r.out.below P11 (by omega)); replace x := hide (x.out.below P11 (by omega)); replace y := hide (y.out.below P11 (by omega)); replace g := hide (g.out.below P11 (by omega)); replace x2 := hide (x2.out.below P11 (by omega))))
      go_wp2_with fail
      refine (laws_toRequestS _ _ _ es _ (HA.out.below H11 (Nat.le_refl _)) (by omega)).mono ?_
      rintro e w12 ⟨a12, c12, rfl, o12, h12⟩
      have s12 := h12.size
      try simp only [World.size_alloc, World.size_setCell, World.size_drew, World.heap_drewN] at s12
      have B12_1 := bnext (by first | (with_reducible exact B11_1) | exact (bgrow B11_1 (by go_size) (by repeat' (first | (with_reducible exact Below.refl _ _) | (with_reducible assumption) | (with_reducible refine bdrawn ?_ _) | (with_reducible refine Below.alloc ?_ ?_ _) | (with_reducible refine Below.drew ?_) | (with_reducible refine Below.setCell ?_ ?_ _) | go_size)))) h12 (by go_size)
      have B12_7 := bnext (by first | (with_reducible exact B11_7) | exact (bgrow B11_7 (by go_size) (by repeat' (first | (with_reducible exact Below.refl _ _) | (with_reducible assumption) | (with_reducible refine bdrawn ?_ _) | (with_reducible refine Below.alloc ?_ ?_ _) | (with_reducible refine Below.drew ?_) | (with_reducible refine Below.setCell ?_ ?_ _) | go_size)))) h12 (by go_size)
      have z12_0 : w.heap.size < w12.heap.size := by omega
      have q12_0 := fun o => (bcell B12_1).1 (w.heap.size) o (by go_size)
      have f12_0 := fun o => (bcell B12_1).2 (w.heap.size) o (by go_size)
      have z12_1 : w6.heap.size < w12.heap.size := by omega
      have q12_1 := fun o => (bcell B12_7).1 (w6.heap.size) o (by go_size)
      have f12_1 := fun o => (bcell B12_7).2 (w6.heap.size) o (by go_size)
      have H12 : Below w.heap.size w w12 := bthen (by repeat' (first | (with_reducible exact Below.refl _ _) | (with_reducible assumption) | (with_reducible refine bdrawn ?_ _) | (with_reducible refine Below.alloc ?_ ?_ _) | (with_reducible refine Below.drew ?_) | (with_reducible refine Below.setCell ?_ ?_ _) | go_size)) h12 (by go_size)
      have C12 := (bcell H12).1; have F12 := (bcell H12).2
      have P12 : Below w11.heap.size w11 w12 := bthen (by repeat' (first | (with_reducible exact Below.refl _ _) | (with_reducible assumption) | (with_reducible refine bdrawn ?_ _) | (with_reducible refine Below.alloc ?_ ?_ _) | (with_reducible refine Below.drew ?_) | (with_reducible refine Below.setCell ?_ ?_ _) | go_size)) h12 (by go_size)
      replace p := hide (p.out.below P12 (by omega))
      replace q := hide (q.out.below P12 (by omega))
      replace r := hide (r.out.below P12 (by omega))
      replace x := hide (x.out.below P12 (by omega))
      replace y := hide (y.out.below P12 (by omega))
      replace g := hide (g.out.below P12 (by omega))
      replace x2 := hide (x2.out.below P12 (by omega))
      have y2 := hide (Owned.of_own o12)
      clear o12
      go_wp2_with fail
      refine (laws_eqRequestS _ _ _ _ _ _ _ (isStructs_own rqF_len (by omega) y.out.1) (isStructs_own rqF_len (by omega) y2.out.1)).mono ?_
      rintro e w13 ⟨rfl, h13⟩
      have s13 := h13.size
      try simp only [World.size_alloc, World.size_setCell, World.size_drew, World.heap_drewN] at s13
      have B13_1 := bnext (by first | (with_reducible exact B12_1) | exact (bgrow B12_1 (by go_size) (by repeat' (first | (with_reducible exact Below.refl _ _) | (with_reducible assumption) | (with_reducible refine bdrawn ?_ _) | (with_reducible refine Below.alloc ?_ ?_ _) | (with_reducible refine Below.drew ?_) | (with_reducible refine Below.setCell ?_ ?_ _) | go_size)))) h13 (by go_size)
      have B13_7 := bnext (by first | (with_reducible exact B12_7) | exact (bgrow B12_7 (by go_size) (by repeat' (first | (with_reducible exact Below.refl _ _) | (with_reducible assumption) | (with_reducible refine bdrawn ?_ _) | (with_reducible refine Below.alloc ?_ ?_ _) | (with_reducible refine Below.drew ?_) | (with_reducible refine Below.setCell ?_ ?_ _) | go_size)))) h13 (by go_size)
      have z13_0 : w.heap.size < w13.heap.size := by omega
      have q13_0 := fun o => (bcell B13_1).1 (w.heap.size) o (by go_size)
      have f13_0 := fun o => (bcell B13_1).2 (w.heap.size) o (by go_size)
      have z13_1 : w6.heap.size < w13.heap.size := by omega
      have q13_1 := fun o => (bcell B13_7).1 (w6.heap.size) o (by go_size)
      have f13_1 := fun o => (bcell B13_7).2 (w6.heap.size) o (by go_size)
      have H13 : Below w.heap.size w w13 := bthen (by repeat' (first | (with_reducible exact Below.refl _ _) | (with_reducible assumption) | (with_reducible refine bdrawn ?_ _) | (with_reducible refine Below.alloc ?_ ?_ _) | (with_reducible refine Below.drew ?_) | (with_reducible refine Below.setCell ?_ ?_ _) | go_size)) h13 (by go_size)
      have C13 := (bcell H13).1; have F13 := (bcell H13).2
      have P13 : Below w12.heap.size w12 w13 := bthen (by repeat' (first | (with_reducible exact Below.refl _ _) | (with_reducible assumption) | (with_reducible refine bdrawn ?_ _) | (with_reducible refine Below.alloc ?_ ?_ _) | (with_reducible refine Below.drew ?_) | (with_reducible refine Below.setCell ?_ ?_ _) | go_size)) h13 (by go_size)
      replace p := hide (p.out.below P13 (by omega))
      replace q := hide (q.out.below P13 (by omega))
      replace r := hide (r.out.below P13 (by omega))
      replace x := hide (x.out.below P13 (by omega))
      replace y := hide (y.out.below P13 (by omega))
      replace g := hide (g.out.below P13 (by omega))
      replace x2 := hide (x2.out.below P13 (by omega))
      replace y2 := hide (y2.out.below P13 (by omega))
      have sA2 : (w6.alloc (.cells #[.slice a6 n1 c6, .int .i64 l] 48)).heap.size ≤ w6.heap.size + 1 := (by simp)
      have sB : w9.heap.size ≤ (World.drew w9).heap.size := Nat.le_refl _
      have sA : w6.heap.size + 1 ≤ (w6.alloc (.cells #[.slice a6 n1 c6, .int .i64 l] 48)).heap.size := (by simp)
      go_wp2_with fail
      refine (laws_markSlots _ _ _ _ _ _ _ _ _ (by omega) hs1 (by omega) x.out).mono ?_
      rintro e w14 ⟨rfl, o14, v14⟩
      have h14 := Save.below v14 (by omega)
      have s14 := h14.size
      try simp only [World.size_alloc, World.size_setCell, World.size_drew, World.heap_drewN] at s14
      have B14_1 := bnext (by first | (with_reducible exact B13_1) | exact (bgrow B13_1 (by go_size) (by repeat' (first | (with_reducible exact Below.refl _ _) | (with_reducible assumption) | (with_reducible refine bdrawn ?_ _) | (with_reducible refine Below.alloc ?_ ?_ _) | (with_reducible refine Below.drew ?_) | (with_reducible refine Below.setCell ?_ ?_ _) | go_size)))) h14 (by go_size)
      have z14_0 : w.heap.size < w14.heap.size := by omega
      have q14_0 := fun o => (bcell B14_1).1 (w.heap.size) o (by go_size)
      have f14_0 := fun o => (bcell B14_1).2 (w.heap.size) o (by go_size)
      have H14 : Below w.heap.size w w14 := bthen (by repeat' (first | (with_reducible exact Below.refl _ _) | (with_reducible assumption) | (with_reducible refine bdrawn ?_ _) | (with_reducible refine Below.alloc ?_ ?_ _) | (with_reducible refine Below.drew ?_) | (with_reducible refine Below.setCell ?_ ?_ _) | go_size)) h14 (by go_size)
      have C14 := (bcell H14).1; have F14 := (bcell H14).2
      replace p := hide (p.out.save v14 (by omega))
      replace q := hide (q.out.save v14 (by omega))
      replace r := hide (r.out.save v14 (by omega))
      clear x o14
      replace y := hide (y.out.save v14 (by omega))
      replace g := hide (g.out.save v14 (by omega))
      replace x2 := hide (x2.out.save v14 (by omega))
      replace y2 := hide (y2.out.save v14 (by omega))
      go_wp2_with fail
      refine (laws_markRequestS _ _ _ _ _ _ _ _ (by omega) (by omega) y.out).mono ?_
      rintro e w15 ⟨rfl, o15, v15⟩
      have h15 := Save.below v15 (by omega)
      have s15 := h15.size
      try simp only [World.size_alloc, World.size_setCell, World.size_drew, World.heap_drewN] at s15
      have B15_1 := bnext (by first | (with_reducible exact B14_1) | exact (bgrow B14_1 (by go_size) (by repeat' (first | (with_reducible exact Below.refl _ _) | (with_reducible assumption) | (with_reducible refine bdrawn ?_ _) | (with_reducible refine Below.alloc ?_ ?_ _) | (with_reducible refine Below.drew ?_) | (with_reducible refine Below.setCell ?_ ?_ _) | go_size)))) h15 (by go_size)
      have z15_0 : w.heap.size < w15.heap.size := by omega
      have q15_0 := fun o => (bcell B15_1).1 (w.heap.size) o (by go_size)
      have f15_0 := fun o => (bcell B15_1).2 (w.heap.size) o (by go_size)
      have H15 : Below w.heap.size w w15 := bthen (by repeat' (first | (with_reducible exact Below.refl _ _) | (with_reducible assumption) | (with_reducible refine bdrawn ?_ _) | (with_reducible refine Below.alloc ?_ ?_ _) | (with_reducible refine Below.drew ?_) | (with_reducible refine Below.setCell ?_ ?_ _) | go_size)) h15 (by go_size)
      have C15 := (bcell H15).1; have F15 := (bcell H15).2
      replace p := hide (p.out.save v15 (by omega))
      replace q := hide (q.out.save v15 (by omega))
      replace r := hide (r.out.save v15 (by omega))
      replace y := hide o15
      replace g := hide (g.out.save v15 (by omega))
      replace x2 := hide (x2.out.save v15 (by omega))
      replace y2 := hide (y2.out.save v15 (by omega))
      go_wp2_with fail
      refine (laws_eqServedS _ _ _ _ _ _ _ (isStructs_own svF_len (by omega) g.out.1) (isStructs_own svF_len (by omega) r.out.1)).mono ?_
      rintro e w16 ⟨rfl, h16⟩
      have s16 := h16.size
      try simp only [World.size_alloc, World.size_setCell, World.size_drew, World.heap_drewN] at s16
      have B16_1 := bnext (by first | (with_reducible exact B15_1) | exact (bgrow B15_1 (by go_size) (by repeat' (first | (with_reducible exact Below.refl _ _) | (with_reducible assumption) | (with_reducible refine bdrawn ?_ _) | (with_reducible refine Below.alloc ?_ ?_ _) | (with_reducible refine Below.drew ?_) | (with_reducible refine Below.setCell ?_ ?_ _) | go_size)))) h16 (by go_size)
      have z16_0 : w.heap.size < w16.heap.size := by omega
      have q16_0 := fun o => (bcell B16_1).1 (w.heap.size) o (by go_size)
      have f16_0 := fun o => (bcell B16_1).2 (w.heap.size) o (by go_size)
      have H16 : Below w.heap.size w w16 := bthen (by repeat' (first | (with_reducible exact Below.refl _ _) | (with_reducible assumption) | (with_reducible refine bdrawn ?_ _) | (with_reducible refine Below.alloc ?_ ?_ _) | (with_reducible refine Below.drew ?_) | (with_reducible refine Below.setCell ?_ ?_ _) | go_size)) h16 (by go_size)
      have C16 := (bcell H16).1; have F16 := (bcell H16).2
      have P16 : Below w15.heap.size w15 w16 := bthen (by repeat' (first | (with_reducible exact Below.refl _ _) | (with_reducible assumption) | (with_reducible refine bdrawn ?_ _) | (with_reducible refine Below.alloc ?_ ?_ _) | (with_reducible refine Below.drew ?_) | (with_reducible refine Below.setCell ?_ ?_ _) | go_size)) h16 (by go_size)
      replace p := hide (p.out.below P16 (by omega))
      replace q := hide (q.out.below P16 (by omega))
      replace r := hide (r.out.below P16 (by omega))
      replace y := hide (y.out.below P16 (by omega))
      replace g := hide (g.out.below P16 (by omega))
      replace x2 := hide (x2.out.below P16 (by omega))
      replace y2 := hide (y2.out.below P16 (by omega))
      go_wp2_with fail
      refine (laws_markServedS _ _ _ _ _ _ _ _ (by omega) (by omega) g.out).mono ?_
      rintro e w17 ⟨rfl, o17, v17⟩
      have h17 := Save.below v17 (by omega)
      have s17 := h17.size
      try simp only [World.size_alloc, World.size_setCell, World.size_drew, World.heap_drewN] at s17
      have B17_1 := bnext (by first | (with_reducible exact B16_1) | exact (bgrow B16_1 (by go_size) (by repeat' (first | (with_reducible exact Below.refl _ _) | (with_reducible assumption) | (with_reducible refine bdrawn ?_ _) | (with_reducible refine Below.alloc ?_ ?_ _) | (with_reducible refine Below.drew ?_) | (with_reducible refine Below.setCell ?_ ?_ _) | go_size)))) h17 (by go_size)
      have z17_0 : w.heap.size < w17.heap.size := by omega
      have q17_0 := fun o => (bcell B17_1).1 (w.heap.size) o (by go_size)
      have f17_0 := fun o => (bcell B17_1).2 (w.heap.size) o (by go_size)
      have H17 : Below w.heap.size w w17 := bthen (by repeat' (first | (with_reducible exact Below.refl _ _) | (with_reducible assumption) | (with_reducible refine bdrawn ?_ _) | (with_reducible refine Below.alloc ?_ ?_ _) | (with_reducible refine Below.drew ?_) | (with_reducible refine Below.setCell ?_ ?_ _) | go_size)) h17 (by go_size)
      have C17 := (bcell H17).1; have F17 := (bcell H17).2
      replace p := hide (p.out.save v17 (by omega))
      replace q := hide (q.out.save v17 (by omega))
      replace r := hide (r.out.save v17 (by omega))
      replace y := hide (y.out.save v17 (by omega))
      replace g := hide o17
      replace x2 := hide (x2.out.save v17 (by omega))
      replace y2 := hide (y2.out.save v17 (by omega))
      go_wp2_with fail
      refine (laws_heldServedS _ _ _ _ _ (by omega) (by omega) (isStructs_own svF_len (by omega) g.out.1)).mono ?_
      rintro e w18 ⟨rfl, h18⟩
      have s18 := h18.size
      try simp only [World.size_alloc, World.size_setCell, World.size_drew, World.heap_drewN] at s18
      have B18_1 := bnext (by first | (with_reducible exact B17_1) | exact (bgrow B17_1 (by go_size) (by repeat' (first | (with_reducible exact Below.refl _ _) | (with_reducible assumption) | (with_reducible refine bdrawn ?_ _) | (with_reducible refine Below.alloc ?_ ?_ _) | (with_reducible refine Below.drew ?_) | (with_reducible refine Below.setCell ?_ ?_ _) | go_size)))) h18 (by go_size)
      have z18_0 : w.heap.size < w18.heap.size := by omega
      have q18_0 := fun o => (bcell B18_1).1 (w.heap.size) o (by go_size)
      have f18_0 := fun o => (bcell B18_1).2 (w.heap.size) o (by go_size)
      have H18 : Below w.heap.size w w18 := bthen (by repeat' (first | (with_reducible exact Below.refl _ _) | (with_reducible assumption) | (with_reducible refine bdrawn ?_ _) | (with_reducible refine Below.alloc ?_ ?_ _) | (with_reducible refine Below.drew ?_) | (with_reducible refine Below.setCell ?_ ?_ _) | go_size)) h18 (by go_size)
      have C18 := (bcell H18).1; have F18 := (bcell H18).2
      have P18 : Below w17.heap.size w17 w18 := bthen (by repeat' (first | (with_reducible exact Below.refl _ _) | (with_reducible assumption) | (with_reducible refine bdrawn ?_ _) | (with_reducible refine Below.alloc ?_ ?_ _) | (with_reducible refine Below.drew ?_) | (with_reducible refine Below.setCell ?_ ?_ _) | go_size)) h18 (by go_size)
      replace p := hide (p.out.below P18 (by omega))
      replace q := hide (q.out.below P18 (by omega))
      replace r := hide (r.out.below P18 (by omega))
      replace y := hide (y.out.below P18 (by omega))
      replace g := hide (g.out.below P18 (by omega))
      replace x2 := hide (x2.out.below P18 (by omega))
      replace y2 := hide (y2.out.below P18 (by omega))
      go_wp2_with fail
      refine (laws_toSlots _ _ _ zs l _ (HZ.out.below H18 (Nat.le_refl _)) hs1).mono ?_
      rintro e w19 ⟨a19, c19, rfl, o19, h19⟩
      have s19 := h19.size
      try simp only [World.size_alloc, World.size_setCell, World.size_drew, World.heap_drewN] at s19
      have B19_1 := bnext (by first | (with_reducible exact B18_1) | exact (bgrow B18_1 (by go_size) (by repeat' (first | (with_reducible exact Below.refl _ _) | (with_reducible assumption) | (with_reducible refine bdrawn ?_ _) | (with_reducible refine Below.alloc ?_ ?_ _) | (with_reducible refine Below.drew ?_) | (with_reducible refine Below.setCell ?_ ?_ _) | go_size)))) h19 (by go_size)
      have z19_0 : w.heap.size < w19.heap.size := by omega
      have q19_0 := fun o => (bcell B19_1).1 (w.heap.size) o (by go_size)
      have f19_0 := fun o => (bcell B19_1).2 (w.heap.size) o (by go_size)
      have H19 : Below w.heap.size w w19 := bthen (by repeat' (first | (with_reducible exact Below.refl _ _) | (with_reducible assumption) | (with_reducible refine bdrawn ?_ _) | (with_reducible refine Below.alloc ?_ ?_ _) | (with_reducible refine Below.drew ?_) | (with_reducible refine Below.setCell ?_ ?_ _) | go_size)) h19 (by go_size)
      have C19 := (bcell H19).1; have F19 := (bcell H19).2
      have P19 : Below w18.heap.size w18 w19 := bthen (by repeat' (first | (with_reducible exact Below.refl _ _) | (with_reducible assumption) | (with_reducible refine bdrawn ?_ _) | (with_reducible refine Below.alloc ?_ ?_ _) | (with_reducible refine Below.drew ?_) | (with_reducible refine Below.setCell ?_ ?_ _) | go_size)) h19 (by go_size)
      replace p := hide (p.out.below P19 (by omega))
      replace q := hide (q.out.below P19 (by omega))
      replace r := hide (r.out.below P19 (by omega))
      replace y := hide (y.out.below P19 (by omega))
      replace g := hide (g.out.below P19 (by omega))
      replace x2 := hide (x2.out.below P19 (by omega))
      replace y2 := hide (y2.out.below P19 (by omega))
      have p3 := hide (Owned.of_own o19)
      clear o19
      go_wp2_with fail
      refine (laws_toRequestS _ _ _ es _ (HA.out.below H19 (Nat.le_refl _)) (by omega)).mono ?_
      rintro e w20 ⟨a20, c20, rfl, o20, h20⟩
      have s20 := h20.size
      try simp only [World.size_alloc, World.size_setCell, World.size_drew, World.heap_drewN] at s20
      have B20_1 := bnext (by first | (with_reducible exact B19_1) | exact (bgrow B19_1 (by go_size) (by repeat' (first | (with_reducible exact Below.refl _ _) | (with_reducible assumption) | (with_reducible refine bdrawn ?_ _) | (with_reducible refine Below.alloc ?_ ?_ _) | (with_reducible refine Below.drew ?_) | (with_reducible refine Below.setCell ?_ ?_ _) | go_size)))) h20 (by go_size)
      have z20_0 : w.heap.size < w20.heap.size := by omega
      have q20_0 := fun o => (bcell B20_1).1 (w.heap.size) o (by go_size)
      have f20_0 := fun o => (bcell B20_1).2 (w.heap.size) o (by go_size)
      have H20 : Below w.heap.size w w20 := bthen (by repeat' (first | (with_reducible exact Below.refl _ _) | (with_reducible assumption) | (with_reducible refine bdrawn ?_ _) | (with_reducible refine Below.alloc ?_ ?_ _) | (with_reducible refine Below.drew ?_) | (with_reducible refine Below.setCell ?_ ?_ _) | go_size)) h20 (by go_size)
      have C20 := (bcell H20).1; have F20 := (bcell H20).2
      have P20 : Below w19.heap.size w19 w20 := bthen (by repeat' (first | (with_reducible exact Below.refl _ _) | (with_reducible assumption) | (with_reducible refine bdrawn ?_ _) | (with_reducible refine Below.alloc ?_ ?_ _) | (with_reducible refine Below.drew ?_) | (with_reducible refine Below.setCell ?_ ?_ _) | go_size)) h20 (by go_size)
      replace p := hide (p.out.below P20 (by omega))
      replace q := hide (q.out.below P20 (by omega))
      replace r := hide (r.out.below P20 (by omega))
      replace y := hide (y.out.below P20 (by omega))
      replace g := hide (g.out.below P20 (by omega))
      replace x2 := hide (x2.out.below P20 (by omega))
      replace y2 := hide (y2.out.below P20 (by omega))
      replace p3 := hide (p3.out.below P20 (by omega))
      have q3 := hide (Owned.of_own o20)
      clear o20
      go_wp2_with fail
      refine (impl_ServeSlots _ _ _ zs l u _ _ _ es K _ (isInts_own p3.out.1 hw.out) hs1 (isStructs_own rqF_len (by omega) q3.out.1) hK.out).mono ?_
      rintro e w21 ⟨a21, c21, rfl, o21, h21⟩
      have s21 := h21.size
      try simp only [World.size_alloc, World.size_setCell, World.size_drew, World.heap_drewN] at s21
      have B21_1 := bnext (by first | (with_reducible exact B20_1) | exact (bgrow B20_1 (by go_size) (by repeat' (first | (with_reducible exact Below.refl _ _) | (with_reducible assumption) | (with_reducible refine bdrawn ?_ _) | (with_reducible refine Below.alloc ?_ ?_ _) | (with_reducible refine Below.drew ?_) | (with_reducible refine Below.setCell ?_ ?_ _) | go_size)))) h21 (by go_size)
      have z21_0 : w.heap.size < w21.heap.size := by omega
      have q21_0 := fun o => (bcell B21_1).1 (w.heap.size) o (by go_size)
      have f21_0 := fun o => (bcell B21_1).2 (w.heap.size) o (by go_size)
      have H21 : Below w.heap.size w w21 := bthen (by repeat' (first | (with_reducible exact Below.refl _ _) | (with_reducible assumption) | (with_reducible refine bdrawn ?_ _) | (with_reducible refine Below.alloc ?_ ?_ _) | (with_reducible refine Below.drew ?_) | (with_reducible refine Below.setCell ?_ ?_ _) | go_size)) h21 (by go_size)
      have C21 := (bcell H21).1; have F21 := (bcell H21).2
      have P21 : Below w20.heap.size w20 w21 := bthen (by repeat' (first | (with_reducible exact Below.refl _ _) | (with_reducible assumption) | (with_reducible refine bdrawn ?_ _) | (with_reducible refine Below.alloc ?_ ?_ _) | (with_reducible refine Below.drew ?_) | (with_reducible refine Below.setCell ?_ ?_ _) | go_size)) h21 (by go_size)
      replace p := hide (p.out.below P21 (by omega))
      replace q := hide (q.out.below P21 (by omega))
      replace r := hide (r.out.below P21 (by omega))
      replace y := hide (y.out.below P21 (by omega))
      replace g := hide (g.out.below P21 (by omega))
      replace x2 := hide (x2.out.below P21 (by omega))
      replace y2 := hide (y2.out.below P21 (by omega))
      replace p3 := hide (p3.out.below P21 (by omega))
      replace q3 := hide (q3.out.below P21 (by omega))
      have h := hide (Owned.of_own o21)
      clear o21
      go_wp2_with fail
      refine (laws_eqServedS _ _ _ _ _ _ _ (isStructs_own svF_len (by omega) h.out.1) (isStructs_own svF_len (by omega) r.out.1)).mono ?_
      rintro e w22 ⟨rfl, h22⟩
      have s22 := h22.size
      try simp only [World.size_alloc, World.size_setCell, World.size_drew, World.heap_drewN] at s22
      have B22_1 := bnext (by first | (with_reducible exact B21_1) | exact (bgrow B21_1 (by go_size) (by repeat' (first | (with_reducible exact Below.refl _ _) | (with_reducible assumption) | (with_reducible refine bdrawn ?_ _) | (with_reducible refine Below.alloc ?_ ?_ _) | (with_reducible refine Below.drew ?_) | (with_reducible refine Below.setCell ?_ ?_ _) | go_size)))) h22 (by go_size)
      have z22_0 : w.heap.size < w22.heap.size := by omega
      have q22_0 := fun o => (bcell B22_1).1 (w.heap.size) o (by go_size)
      have f22_0 := fun o => (bcell B22_1).2 (w.heap.size) o (by go_size)
      have H22 : Below w.heap.size w w22 := bthen (by repeat' (first | (with_reducible exact Below.refl _ _) | (with_reducible assumption) | (with_reducible refine bdrawn ?_ _) | (with_reducible refine Below.alloc ?_ ?_ _) | (with_reducible refine Below.drew ?_) | (with_reducible refine Below.setCell ?_ ?_ _) | go_size)) h22 (by go_size)
      have C22 := (bcell H22).1; have F22 := (bcell H22).2
      have P22 : Below w21.heap.size w21 w22 := bthen (by repeat' (first | (with_reducible exact Below.refl _ _) | (with_reducible assumption) | (with_reducible refine bdrawn ?_ _) | (with_reducible refine Below.alloc ?_ ?_ _) | (with_reducible refine Below.drew ?_) | (with_reducible refine Below.setCell ?_ ?_ _) | go_size)) h22 (by go_size)
      replace p := hide (p.out.below P22 (by omega))
      replace q := hide (q.out.below P22 (by omega))
      replace r := hide (r.out.below P22 (by omega))
      replace y := hide (y.out.below P22 (by omega))
      replace g := hide (g.out.below P22 (by omega))
      replace x2 := hide (x2.out.below P22 (by omega))
      replace y2 := hide (y2.out.below P22 (by omega))
      replace p3 := hide (p3.out.below P22 (by omega))
      replace q3 := hide (q3.out.below P22 (by omega))
      replace h := hide (h.out.below P22 (by omega))
      go_wp2_with fail
      refine (laws_heldServedS _ _ _ _ _ (by omega) (by omega) (isStructs_own svF_len (by omega) g.out.1)).mono ?_
      rintro e w23 ⟨rfl, h23⟩
      have s23 := h23.size
      try simp only [World.size_alloc, World.size_setCell, World.size_drew, World.heap_drewN] at s23
      have B23_1 := bnext (by first | (with_reducible exact B22_1) | exact (bgrow B22_1 (by go_size) (by repeat' (first | (with_reducible exact Below.refl _ _) | (with_reducible assumption) | (with_reducible refine bdrawn ?_ _) | (with_reducible refine Below.alloc ?_ ?_ _) | (with_reducible refine Below.drew ?_) | (with_reducible refine Below.setCell ?_ ?_ _) | go_size)))) h23 (by go_size)
      have z23_0 : w.heap.size < w23.heap.size := by omega
      have q23_0 := fun o => (bcell B23_1).1 (w.heap.size) o (by go_size)
      have f23_0 := fun o => (bcell B23_1).2 (w.heap.size) o (by go_size)
      have H23 : Below w.heap.size w w23 := bthen (by repeat' (first | (with_reducible exact Below.refl _ _) | (with_reducible assumption) | (with_reducible refine bdrawn ?_ _) | (with_reducible refine Below.alloc ?_ ?_ _) | (with_reducible refine Below.drew ?_) | (with_reducible refine Below.setCell ?_ ?_ _) | go_size)) h23 (by go_size)
      have C23 := (bcell H23).1; have F23 := (bcell H23).2
      have P23 : Below w22.heap.size w22 w23 := bthen (by repeat' (first | (with_reducible exact Below.refl _ _) | (with_reducible assumption) | (with_reducible refine bdrawn ?_ _) | (with_reducible refine Below.alloc ?_ ?_ _) | (with_reducible refine Below.drew ?_) | (with_reducible refine Below.setCell ?_ ?_ _) | go_size)) h23 (by go_size)
      replace p := hide (p.out.below P23 (by omega))
      replace q := hide (q.out.below P23 (by omega))
      replace r := hide (r.out.below P23 (by omega))
      replace y := hide (y.out.below P23 (by omega))
      replace g := hide (g.out.below P23 (by omega))
      replace x2 := hide (x2.out.below P23 (by omega))
      replace y2 := hide (y2.out.below P23 (by omega))
      replace p3 := hide (p3.out.below P23 (by omega))
      replace q3 := hide (q3.out.below P23 (by omega))
      replace h := hide (h.out.below P23 (by omega))
      go_wp2_with fail
      go_ret
      exact ⟨rfl, by go_grown⟩
    · have g9 : (0 : Int) ≤ 1048576 - (n1 : Int) := by omega
      clear ha hz
      go_enter Try.func9, Try.ntmps9
      go_wp2_with fail
      refine (laws_szSlots _ _ _ _ _ _ (by omega) (by omega) (by omega)).mono ?_
      rintro e w1 ⟨rfl, h1⟩
      have s1 := h1.size
      try simp only [World.size_alloc, World.size_setCell, World.size_drew, World.heap_drewN] at s1
      have B1_1 := h1
      have z1_0 : w.heap.size < w1.heap.size := by omega
      have q1_0 := fun o => (bcell B1_1).1 (w.heap.size) o (by go_size)
      have f1_0 := fun o => (bcell B1_1).2 (w.heap.size) o (by go_size)
      have H1 : Below w.heap.size w w1 := bthen (by repeat' (first | (with_reducible exact Below.refl _ _) | (with_reducible assumption) | (with_reducible refine bdrawn ?_ _) | (with_reducible refine Below.alloc ?_ ?_ _) | (with_reducible refine Below.drew ?_) | (with_reducible refine Below.setCell ?_ ?_ _) | go_size)) h1 (by go_size)
      have C1 := (bcell H1).1; have F1 := (bcell H1).2
      go_wp2_with fail
      refine (laws_szRequestS_no _ _ _ _ _ (by omega) (by omega) (by omega) ⟨hc, hm⟩).mono ?_
      rintro e w2 ⟨rfl, h2⟩
      have s2 := h2.size
      try simp only [World.size_alloc, World.size_setCell, World.size_drew, World.heap_drewN] at s2
      have B2_1 := bnext (by first | (with_reducible exact B1_1) | exact (bgrow B1_1 (by go_size) (by repeat' (first | (with_reducible exact Below.refl _ _) | (with_reducible assumption) | (with_reducible refine bdrawn ?_ _) | (with_reducible refine Below.alloc ?_ ?_ _) | (with_reducible refine Below.drew ?_) | (with_reducible refine Below.setCell ?_ ?_ _) | go_size)))) h2 (by go_size)
      have z2_0 : w.heap.size < w2.heap.size := by omega
      have q2_0 := fun o => (bcell B2_1).1 (w.heap.size) o (by go_size)
      have f2_0 := fun o => (bcell B2_1).2 (w.heap.size) o (by go_size)
      have H2 : Below w.heap.size w w2 := bthen (by repeat' (first | (with_reducible exact Below.refl _ _) | (with_reducible assumption) | (with_reducible refine bdrawn ?_ _) | (with_reducible refine Below.alloc ?_ ?_ _) | (with_reducible refine Below.drew ?_) | (with_reducible refine Below.setCell ?_ ?_ _) | go_size)) h2 (by go_size)
      have C2 := (bcell H2).1; have F2 := (bcell H2).2
      go_wp2_with fail
      go_ret
      exact ⟨rfl, H2⟩
  · go_enter Try.func9, Try.ntmps9
    go_wp2_with fail
    refine (laws_szSlots_no _ _ _ _ _ _ (by omega) (by omega) (by omega) ⟨hc1, hm1⟩).mono ?_
    rintro e w1 ⟨rfl, h1⟩
    go_wp2_with fail
    go_ret
    exact ⟨rfl, bthen (by go_grown) h1 (by go_size)⟩

set_option maxRecDepth 100000 in
theorem FnExactServeSlots_lifted (os : Os) (started : os.Started) (H : Type) (enc : TypeId × Value → H) :
    ReturnsInHanded {} Try.checked os 9 .any (Rows.fnExactServeSlotsSpec.pre6 enc Try.prog Try.f9 Rows.fnExactServeSlotsRow.domain false) (Rows.fnExactServeSlotsSpec.post enc Try.prog Try.f9 false true false false) := by
  refine returnsInHanded_of_change (C := Try.checked) try_own started (by kernel_rfl) Try.func9
    (ChangeSpec.witness6 (enc := enc) (C := Try.checked) false ⟨#[], #[.agg #[.slice none 0 0, .int .i64 0], .int .i64 0, .slice none 0 0], []⟩ 8 (by kernel_rfl) (by kernel_rfl) (by kernel_rfl) (by kernel_rfl)) ?_
  intro W base args ds gs before hval0 hW _ _
  have hval : ∀ (j : Nat) t v, Try.f9.params[j]? = some t → args[j]? = some v → Value.okWide Try.prog W .any base t v := hval0
  have hW' := hW
  obtain ⟨p, q, hA0, hV, rfl, hfz, hnd⟩ := hW
  have hA : DataW.TrodAll enc Try.prog W 0 (fun _ => true) true Try.f9.params.toList args.toList ds p := hA0
  rw [Try.params9] at hA hval
  obtain ⟨v0, vs0, d0, ds0, p0, q0, hargs, rfl, rfl, h0, r0⟩ := trodAll_cons hA
  obtain ⟨v1, vs1, d1, ds1, p1, q1, rfl, rfl, rfl, h1, r1⟩ := trodAll_cons r0
  obtain ⟨v2, vs2, d2, ds2, p2, q2, rfl, rfl, rfl, h2, r2⟩ := trodAll_cons r1
  obtain ⟨rfl, rfl, rfl⟩ := trodAll_nil r2
  obtain rfl : args = #[v0, v1, v2] := by cases args; simp_all
  obtain ⟨rfl, rfl⟩ := trodVars_none hV
  have k0 := h0
  have lt0 : ∀ x ∈ p0, x.block < W.heap.size := by obtain ⟨m, hm⟩ := k0; exact DataW.trod_lt m _ _ _ hm
  have k1 := h1
  have lt1 : ∀ x ∈ p1, x.block < W.heap.size := by obtain ⟨m, hm⟩ := k1; exact DataW.trod_lt m _ _ _ hm
  have k2 := h2
  have lt2 : ∀ x ∈ p2, x.block < W.heap.size := by obtain ⟨m, hm⟩ := k2; exact DataW.trod_lt m _ _ _ hm
  obtain ⟨v0_0, v0_1, y0_0, y0_1, m0, rfl, rfl, _, hy0_0, hy0_1⟩ := open_agg2 Try.underlying62 (by kernel_rfl) (by kernel_rfl) (hval 0 62 v0 rfl rfl) h0
  obtain ⟨a_x0_0, n_x0_0, c_x0_0, x0_0, e_x0_0, w_x0_0⟩ := isInts_of Try.underlying46 Try.underlying3 (by kernel_rfl) hy0_0
  obtain ⟨x0_1, e_x0_1, rfl, w_x0_1⟩ := DataW.trod_int Try.underlying3 hy0_1
  obtain ⟨x1, rfl, rfl, rfl, w_x1⟩ := open_int Try.underlying3 (hval 1 3 v1 rfl rfl) h1
  obtain ⟨b_x2, m_x2, l_x2, rfl⟩ := okWide_slice Try.underlying63 (hval 2 63 v2 rfl rfl)
  obtain ⟨fu2, h2⟩ := h2
  obtain ⟨a_x2, n_x2, c_x2, x2, e_x2, w_x2⟩ := isRequests_of h2
  simp only [List.cons.injEq, and_true] at e_x0_0; subst e_x0_0
  simp only [List.cons.injEq, and_true] at e_x0_1; subst e_x0_1
  simp only [Value.cells, List.cons.injEq, and_true] at e_x2
  obtain ⟨q1, q2, q3⟩ : b_x2 = a_x2 ∧ m_x2 = n_x2 ∧ l_x2 = c_x2 := by simpa using e_x2
  replace q1 := q1.symm; replace q2 := q2.symm; replace q3 := q3.symm; subst q1 q2 q3
  clear hA0 hval0
  refine (FnExactServeSlots_walk a_x0_0 n_x0_0 c_x0_0 x0_0 x0_1 x1 a_x2 n_x2 c_x2 x2 W w_x0_0 w_x2).mono fun e W' ⟨he, bel⟩ => ?_
  subst he
  exact ⟨_, rfl, _, _, _, [], _, [], hW', trodAll_mk1 (shut_bool Try.underlying4 _), (trodAll_cons_mk (Below.trod try_laidOut (by kernel_rfl) (of_decide_eq_true (by kernel_rfl)) k0 bel lt0) (trodAll_cons_mk (Below.trod try_laidOut (by kernel_rfl) (of_decide_eq_true (by kernel_rfl)) k1 bel lt1) (trodAll_cons_mk (Below.trod try_laidOut (by kernel_rfl) (of_decide_eq_true (by kernel_rfl)) k2 bel lt2) trodAll_mk0))), rfl, bel.frame _, fun h => by cases h⟩

theorem FnExactServeSlots_holds : Rows.FnExactServeSlotsSaid :=
  OpenClaim.holds_of_wide 9 Try.f9 rfl rfl rfl rfl rfl rfl rfl ⟨rfl, rfl, rfl, rfl, rfl⟩ rfl rfl rfl rfl rfl (by kernel_rfl) Try.func9 (by kernel_rfl)
    (of_decide_eq_true (by kernel_rfl)) (by unfold Func.isWrapper; rw [if_neg (of_decide_eq_false (by kernel_rfl))]; exact ⟨rfl, rfl⟩)
    (fun os started H enc _ => FnExactServeSlots_lifted os started H enc)
#print axioms FnExactServeSlots_holds
end Go.Proofs.Ytahfbhfmhccgoaa
