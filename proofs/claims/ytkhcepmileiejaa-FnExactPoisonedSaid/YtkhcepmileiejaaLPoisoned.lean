/- For every geometry and every array the program's Poisoned returns what the reference's returns, in memory of its own, and leaves the array as it was. No condition. -/
import Derived.Test.YtkhcepmileiejaaPoisW
import Derived.Test.YtkhcepmileiejaaCellsH
set_option linter.unusedSimpArgs false
set_option linter.unusedVariables false
namespace Go.Proofs.Ytkhcepmileiejaa
open Go.RowKit Go.ChangeShapes Go.WideShapes Go.ChangeAt Go.Joins Go.Deep
open Go.ChangeMaps (open_string shut_string)
set_option maxHeartbeats 400000 in
theorem laws_toGeometry (g : Ge) (w : World) :
    Calls Try.prog 12 #[.agg #[.int .i64 g.gr, .int .i64 g.bk, .int .i64 g.rw, .int .i64 g.cl]] w fun e w' => e = .returned (.agg #[.int .i64 g.gr, .int .i64 g.bk, .int .i64 g.rw, .int .i64 g.cl]) ∧ Below w.heap.size w w' := by
  go_enter Try.func12, Try.ntmps12
  go_wp2_with fail
  refine bodyPost_ret (by simp [results, Try.results12, go_sem, *]; try rfl) rfl ?_
  exact ⟨rfl, by go_grown⟩
theorem tot_of_con {w w' : World} {A B : Ar} (hA : IsAr w A) (hB : IsAr w' B) (h : A.con = B.con) : A.tot = B.tot := by
  simp only [Ar.con, Con.mk.injEq] at h
  obtain ⟨h1, h2, h3⟩ := h
  have k1 := sum_of_con h1 (fun e he => (hA.1.2 e he).1) (fun e he => (hB.1.2 e he).1)
  have k2 := congrArg List.length h1
  rw [List.length_map, List.length_map, hA.1.1.1, hB.1.1.1] at k2
  have k3 := congrArg List.length h2
  rw [hA.2.1.1, hB.2.1.1] at k3
  have k4 := congrArg List.length h3
  rw [hA.2.2.1, hB.2.2.1] at k4
  unfold Ar.tot; omega
theorem poisL_wf (g : Ge) (C : Con) (h : C.cs.length ≤ 1048576) : ∀ z ∈ ints (poisL g C), (Lit.int .i64 z).wf = true := by
  intro z hz
  simp only [ints, List.mem_map] at hz
  obtain ⟨x, hx, rfl⟩ := hz
  have hx2 : x < 1048576 := by
    unfold poisL at hx
    split at hx
    · have := poisTo_lt x hx; omega
    · simp at hx
  show (decide (IntKind.min .i64 ≤ (x : Int)) && decide ((x : Int) ≤ IntKind.max .i64)) = true
  rw [show IntKind.min .i64 = -9223372036854775808 from rfl, show IntKind.max .i64 = 9223372036854775807 from rfl]
  simp; omega
theorem poisL_len (g : Ge) (C : Con) : (poisL g C).length ≤ C.cs.length := by
  unfold poisL; split
  · exact poisTo_len _ _
  · exact Nat.zero_le _
set_option maxRecDepth 100000 in
set_option maxHeartbeats 4000000 in
theorem FnExactPoisoned_walk (g1 g2 g3 g4 : Int) (a : Option Addr) (n c : Nat) (es : List Cl) (a2 : Option Addr) (n2 c2 : Nat) (z2 : List Int) (a3 : Option Addr) (n3 c3 : Nat) (z3 : List Int) (w : World) (h1 : IsCells w a n c es) (h2 : IsInts .i64 w a2 n2 c2 z2) (h3 : IsInts .i64 w a3 n3 c3 z3) :
    Calls Try.prog 3 #[.agg #[.int .i64 g1, .int .i64 g2, .int .i64 g3, .int .i64 g4], .agg #[.slice a n c, .slice a2 n2 c2, .slice a3 n3 c3]] w fun e w' => e = .returned (.bool true) ∧ Below w.heap.size w w' := by
  obtain ⟨A, hAe⟩ : ∃ A : Ar, A = ⟨a, n, c, es, ⟨⟨a2, n2, c2⟩, z2⟩, ⟨⟨a3, n3, c3⟩, z3⟩⟩ := ⟨_, rfl⟩
  obtain ⟨g, hge⟩ : ∃ g : Ge, g = ⟨g1, g2, g3, g4⟩ := ⟨_, rfl⟩
  have hA : IsAr w A := by subst hAe; exact ⟨h1, h2, h3⟩
  have goal : Calls Try.prog 3 #[.agg #[.int .i64 g.gr, .int .i64 g.bk, .int .i64 g.rw, .int .i64 g.cl], .agg #[.slice A.a A.n A.c, .slice A.ag.1.a A.ag.1.n A.ag.1.c, .slice A.ht.1.a A.ht.1.n A.ht.1.c]] w fun e w' => e = .returned (.bool true) ∧ Below w.heap.size w w' := by
    clear hAe hge h1 h2 h3
    by_cases ht : A.tot ≤ 1048576
    · obtain ⟨N, hN⟩ : ∃ N, (poisL g A.con).length = N := ⟨_, rfl⟩
      have hcl : A.con.cs.length = A.n := by simp only [Ar.con, List.length_map]; exact hA.1.1.1
      have hnn : A.n ≤ 1048576 := by unfold Ar.tot at ht; omega
      have hNn : N ≤ 1048576 := by have := poisL_len g A.con; omega
      have hwf := hide (poisL_wf g A.con (by omega))
      have HA := hide hA
      have HN := hide hN
      have hsz := szI_fit (l := 1048576) (m := A.tot) (by omega)
      have hpos : (0 : Int) ≤ 1048576 - (A.tot : Int) := by omega
      have hk9 : ¬ 1 + (A.tot : Int) < 0 := by omega
      have hk8 : ¬ 1 + (N : Int) < 0 := by omega
      clear hcl hnn hA hN
      go_enter Try.func3, Try.ntmps3
      go_wp2_with fail
      refine (laws_szArray A _ _ _ (HA.out.below (B := w.heap.size) (by go_grown) (Nat.le_refl _)) (by omega) (by omega) hsz).mono ?_
      rintro e w1 ⟨rfl, h1⟩
      have s1 := h1.size
      try simp only [World.size_alloc, World.size_setCell, World.size_drew, World.heap_drewN] at s1
      have B1_1 := h1
      have z1_0 : w.heap.size < w1.heap.size := by omega
      have q1_0 := fun o => (bcell B1_1).1 (w.heap.size) o (by go_size)
      have f1_0 := fun o => (bcell B1_1).2 (w.heap.size) o (by go_size)
      have z1_1 : w.heap.size + 1 < w1.heap.size := by omega
      have q1_1 := fun o => (bcell B1_1).1 (w.heap.size + 1) o (by go_size)
      have f1_1 := fun o => (bcell B1_1).2 (w.heap.size + 1) o (by go_size)
      have H1 : Below w.heap.size w w1 := bthen (by repeat' (first | (with_reducible exact Below.refl _ _) | (with_reducible assumption) | (with_reducible refine bdrawn ?_ _) | (with_reducible refine Below.alloc ?_ ?_ _) | (with_reducible refine Below.drew ?_) | (with_reducible refine Below.setCell ?_ ?_ _) | go_size)) h1 (by go_size)
      have C1 := (bcell H1).1; have F1 := (bcell H1).2
      go_wp2_with fail
      go_region_held3 (fun v => v.cell? ⟨w.heap.size, 0, none⟩ = some (.int .i64 g.gr) ∧ v.cell? ⟨w.heap.size, 1, none⟩ = some (.int .i64 g.bk) ∧ v.cell? ⟨w.heap.size, 2, none⟩ = some (.int .i64 g.rw) ∧ v.cell? ⟨w.heap.size, 3, none⟩ = some (.int .i64 g.cl) ∧ v.cell? ⟨w.heap.size + 1, 0, none⟩ = some (.slice A.a A.n A.c) ∧ v.cell? ⟨w.heap.size + 1, 1, none⟩ = some (.slice A.ag.1.a A.ag.1.n A.ag.1.c) ∧ v.cell? ⟨w.heap.size + 1, 2, none⟩ = some (.slice A.ht.1.a A.ht.1.n A.ht.1.c)) (first | go_keep | simp [go_sem, *]) (first | (go_at_call 12; refine (laws_toGeometry g _).mono ?_; rintro e w2 ⟨rfl, h2⟩; have s2 := h2.size; (try simp only [World.size_alloc, World.size_setCell, World.size_drew, World.heap_drewN] at s2); have B2_1 := bnext (by first | (with_reducible exact B1_1) | exact (bgrow B1_1 (by go_size) (by repeat' (first | (with_reducible exact Below.refl _ _) | (with_reducible assumption) | (with_reducible refine bdrawn ?_ _) | (with_reducible refine Below.alloc ?_ ?_ _) | (with_reducible refine Below.drew ?_) | (with_reducible refine Below.setCell ?_ ?_ _) | go_size)))) h2 (by go_size); have z2_0 : w.heap.size < w2.heap.size := (by omega); have q2_0 := fun o => (bcell B2_1).1 (w.heap.size) o (by go_size); have f2_0 := fun o => (bcell B2_1).2 (w.heap.size) o (by go_size); have z2_1 : w.heap.size + 1 < w2.heap.size := (by omega); have q2_1 := fun o => (bcell B2_1).1 (w.heap.size + 1) o (by go_size); have f2_1 := fun o => (bcell B2_1).2 (w.heap.size + 1) o (by go_size); have H2 : Below w.heap.size w w2 := bthen (by repeat' (first | (with_reducible exact Below.refl _ _) | (with_reducible assumption) | (with_reducible refine bdrawn ?_ _) | (with_reducible refine Below.alloc ?_ ?_ _) | (with_reducible refine Below.drew ?_) | (with_reducible refine Below.setCell ?_ ?_ _) | go_size)) h2 (by go_size); have C2 := (bcell H2).1; have F2 := (bcell H2).2) | (go_at_call 13; refine (laws_toArray A _ (HA.out.below H2 (Nat.le_refl _)) ht).mono ?_; rintro e w3 ⟨P, rfl, o3, hcp, h3⟩; have s3 := h3.size; (try simp only [World.size_alloc, World.size_setCell, World.size_drew, World.heap_drewN] at s3); have B3_1 := bnext (by first | (with_reducible exact B2_1) | exact (bgrow B2_1 (by go_size) (by repeat' (first | (with_reducible exact Below.refl _ _) | (with_reducible assumption) | (with_reducible refine bdrawn ?_ _) | (with_reducible refine Below.alloc ?_ ?_ _) | (with_reducible refine Below.drew ?_) | (with_reducible refine Below.setCell ?_ ?_ _) | go_size)))) h3 (by go_size); have z3_0 : w.heap.size < w3.heap.size := (by omega); have q3_0 := fun o => (bcell B3_1).1 (w.heap.size) o (by go_size); have f3_0 := fun o => (bcell B3_1).2 (w.heap.size) o (by go_size); have z3_1 : w.heap.size + 1 < w3.heap.size := (by omega); have q3_1 := fun o => (bcell B3_1).1 (w.heap.size + 1) o (by go_size); have f3_1 := fun o => (bcell B3_1).2 (w.heap.size + 1) o (by go_size); have H3 : Below w.heap.size w w3 := bthen (by repeat' (first | (with_reducible exact Below.refl _ _) | (with_reducible assumption) | (with_reducible refine bdrawn ?_ _) | (with_reducible refine Below.alloc ?_ ?_ _) | (with_reducible refine Below.drew ?_) | (with_reducible refine Below.setCell ?_ ?_ _) | go_size)) h3 (by go_size); have C3 := (bcell H3).1; have F3 := (bcell H3).2; have p := hide o3; clear o3; have HTP := hide (show P.tot ≤ 1048576 by have := tot_of_con p.out.is HA.out hcp; omega); have HCP := hide hcp; clear hcp) | (go_at_call 11; refine (spec_Poisoned g P _ N (by rw [HCP.out]; exact HN.out) p.out.is HTP.out).mono ?_; rintro e w4 ⟨ar, cr, rfl, o4, h4⟩; have s4 := h4.size; (try simp only [World.size_alloc, World.size_setCell, World.size_drew, World.heap_drewN] at s4); have B4_1 := bnext (by first | (with_reducible exact B3_1) | exact (bgrow B3_1 (by go_size) (by repeat' (first | (with_reducible exact Below.refl _ _) | (with_reducible assumption) | (with_reducible refine bdrawn ?_ _) | (with_reducible refine Below.alloc ?_ ?_ _) | (with_reducible refine Below.drew ?_) | (with_reducible refine Below.setCell ?_ ?_ _) | go_size)))) h4 (by go_size); have z4_0 : w.heap.size < w4.heap.size := (by omega); have q4_0 := fun o => (bcell B4_1).1 (w.heap.size) o (by go_size); have f4_0 := fun o => (bcell B4_1).2 (w.heap.size) o (by go_size); have z4_1 : w.heap.size + 1 < w4.heap.size := (by omega); have q4_1 := fun o => (bcell B4_1).1 (w.heap.size + 1) o (by go_size); have f4_1 := fun o => (bcell B4_1).2 (w.heap.size + 1) o (by go_size); have H4 : Below w.heap.size w w4 := bthen (by repeat' (first | (with_reducible exact Below.refl _ _) | (with_reducible assumption) | (with_reducible refine bdrawn ?_ _) | (with_reducible refine Below.alloc ?_ ?_ _) | (with_reducible refine Below.drew ?_) | (with_reducible refine Below.setCell ?_ ?_ _) | go_size)) h4 (by go_size); have C4 := (bcell H4).1; have F4 := (bcell H4).2; have P4 : Below w3.heap.size w3 w4 := bthen (by repeat' (first | (with_reducible exact Below.refl _ _) | (with_reducible assumption) | (with_reducible refine bdrawn ?_ _) | (with_reducible refine Below.alloc ?_ ?_ _) | (with_reducible refine Below.drew ?_) | (with_reducible refine Below.setCell ?_ ?_ _) | go_size)) h4 (by go_size); replace p := hide (p.out.below P4 (by omega)); have r := hide (Owned.of_own o4); clear o4))
      go_wp2_with fail
      refine (laws_toArray A _ (HA.out.below H4 (Nat.le_refl _)) ht).mono ?_
      rintro e w5 ⟨X, rfl, o5, hcx, h5⟩
      have s5 := h5.size
      try simp only [World.size_alloc, World.size_setCell, World.size_drew, World.heap_drewN] at s5
      have B5_1 := bnext (by first | (with_reducible exact B4_1) | exact (bgrow B4_1 (by go_size) (by repeat' (first | (with_reducible exact Below.refl _ _) | (with_reducible assumption) | (with_reducible refine bdrawn ?_ _) | (with_reducible refine Below.alloc ?_ ?_ _) | (with_reducible refine Below.drew ?_) | (with_reducible refine Below.setCell ?_ ?_ _) | go_size)))) h5 (by go_size)
      have z5_0 : w.heap.size < w5.heap.size := by omega
      have q5_0 := fun o => (bcell B5_1).1 (w.heap.size) o (by go_size)
      have f5_0 := fun o => (bcell B5_1).2 (w.heap.size) o (by go_size)
      have z5_1 : w.heap.size + 1 < w5.heap.size := by omega
      have q5_1 := fun o => (bcell B5_1).1 (w.heap.size + 1) o (by go_size)
      have f5_1 := fun o => (bcell B5_1).2 (w.heap.size + 1) o (by go_size)
      have H5 : Below w.heap.size w w5 := bthen (by repeat' (first | (with_reducible exact Below.refl _ _) | (with_reducible assumption) | (with_reducible refine bdrawn ?_ _) | (with_reducible refine Below.alloc ?_ ?_ _) | (with_reducible refine Below.drew ?_) | (with_reducible refine Below.setCell ?_ ?_ _) | go_size)) h5 (by go_size)
      have C5 := (bcell H5).1; have F5 := (bcell H5).2
      have P5 : Below w4.heap.size w4 w5 := bthen (by repeat' (first | (with_reducible exact Below.refl _ _) | (with_reducible assumption) | (with_reducible refine bdrawn ?_ _) | (with_reducible refine Below.alloc ?_ ?_ _) | (with_reducible refine Below.drew ?_) | (with_reducible refine Below.setCell ?_ ?_ _) | go_size)) h5 (by go_size)
      replace p := hide (p.out.below P5 (by omega))
      replace r := hide (r.out.below P5 (by omega))
      have x := hide o5
      clear o5
      have htx := tot_of_con x.out.is HA.out hcx
      have HTX := hide (show X.tot ≤ 1048576 by omega); have HTXe := hide htx; clear htx
      have HCX := hide hcx; clear hcx
      go_wp2_with fail
      go_region_held3 (fun v => v.cell? ⟨w.heap.size, 0, none⟩ = some (.int .i64 g.gr) ∧ v.cell? ⟨w.heap.size, 1, none⟩ = some (.int .i64 g.bk) ∧ v.cell? ⟨w.heap.size, 2, none⟩ = some (.int .i64 g.rw) ∧ v.cell? ⟨w.heap.size, 3, none⟩ = some (.int .i64 g.cl) ∧ v.cell? ⟨w.heap.size + 1, 0, none⟩ = some (.slice A.a A.n A.c) ∧ v.cell? ⟨w.heap.size + 1, 1, none⟩ = some (.slice A.ag.1.a A.ag.1.n A.ag.1.c) ∧ v.cell? ⟨w.heap.size + 1, 2, none⟩ = some (.slice A.ht.1.a A.ht.1.n A.ht.1.c) ∧ v.cell? ⟨w5.heap.size, 0, none⟩ = some (.slice X.a X.n X.c) ∧ v.cell? ⟨w5.heap.size, 1, none⟩ = some (.slice X.ag.1.a X.ag.1.n X.ag.1.c) ∧ v.cell? ⟨w5.heap.size, 2, none⟩ = some (.slice X.ht.1.a X.ht.1.n X.ht.1.c)) (first | go_keep | simp [go_sem, *]) (first | (go_at_call 12; refine (laws_toGeometry g _).mono ?_; rintro e w6 ⟨rfl, h6⟩; have s6 := h6.size; (try simp only [World.size_alloc, World.size_setCell, World.size_drew, World.heap_drewN] at s6); have B6_1 := bnext (by first | (with_reducible exact B5_1) | exact (bgrow B5_1 (by go_size) (by repeat' (first | (with_reducible exact Below.refl _ _) | (with_reducible assumption) | (with_reducible refine bdrawn ?_ _) | (with_reducible refine Below.alloc ?_ ?_ _) | (with_reducible refine Below.drew ?_) | (with_reducible refine Below.setCell ?_ ?_ _) | go_size)))) h6 (by go_size); have B6_6 := h6; have z6_0 : w.heap.size < w6.heap.size := (by omega); have q6_0 := fun o => (bcell B6_1).1 (w.heap.size) o (by go_size); have f6_0 := fun o => (bcell B6_1).2 (w.heap.size) o (by go_size); have z6_1 : w.heap.size + 1 < w6.heap.size := (by omega); have q6_1 := fun o => (bcell B6_1).1 (w.heap.size + 1) o (by go_size); have f6_1 := fun o => (bcell B6_1).2 (w.heap.size + 1) o (by go_size); have z6_2 : w5.heap.size < w6.heap.size := (by omega); have q6_2 := fun o => (bcell B6_6).1 (w5.heap.size) o (by go_size); have f6_2 := fun o => (bcell B6_6).2 (w5.heap.size) o (by go_size); have H6 : Below w.heap.size w w6 := bthen (by repeat' (first | (with_reducible exact Below.refl _ _) | (with_reducible assumption) | (with_reducible refine bdrawn ?_ _) | (with_reducible refine Below.alloc ?_ ?_ _) | (with_reducible refine Below.drew ?_) | (with_reducible refine Below.setCell ?_ ?_ _) | go_size)) h6 (by go_size); have C6 := (bcell H6).1; have F6 := (bcell H6).2; have P6 : Below w5.heap.size w5 w6 := bthen (by repeat' (first | (with_reducible exact Below.refl _ _) | (with_reducible assumption) | (with_reducible refine bdrawn ?_ _) | (with_reducible refine Below.alloc ?_ ?_ _) | (with_reducible refine Below.drew ?_) | (with_reducible refine Below.setCell ?_ ?_ _) | go_size)) h6 (by go_size); replace p := hide (p.out.below P6 (by omega)); replace r := hide (r.out.below P6 (by omega)); replace x := hide (x.out.below P6 (by omega))) | (go_at_call 14; refine (impl_Poisoned g X _ N (by rw [HCX.out]; exact HN.out) x.out.is HTX.out).mono ?_; rintro e w7 ⟨ag, cg, rfl, o7, h7⟩; have s7 := h7.size; (try simp only [World.size_alloc, World.size_setCell, World.size_drew, World.heap_drewN] at s7); have B7_1 := bnext (by first | (with_reducible exact B6_1) | exact (bgrow B6_1 (by go_size) (by repeat' (first | (with_reducible exact Below.refl _ _) | (with_reducible assumption) | (with_reducible refine bdrawn ?_ _) | (with_reducible refine Below.alloc ?_ ?_ _) | (with_reducible refine Below.drew ?_) | (with_reducible refine Below.setCell ?_ ?_ _) | go_size)))) h7 (by go_size); have B7_6 := bnext (by first | (with_reducible exact B6_6) | exact (bgrow B6_6 (by go_size) (by repeat' (first | (with_reducible exact Below.refl _ _) | (with_reducible assumption) | (with_reducible refine bdrawn ?_ _) | (with_reducible refine Below.alloc ?_ ?_ _) | (with_reducible refine Below.drew ?_) | (with_reducible refine Below.setCell ?_ ?_ _) | go_size)))) h7 (by go_size); have z7_0 : w.heap.size < w7.heap.size := (by omega); have q7_0 := fun o => (bcell B7_1).1 (w.heap.size) o (by go_size); have f7_0 := fun o => (bcell B7_1).2 (w.heap.size) o (by go_size); have z7_1 : w.heap.size + 1 < w7.heap.size := (by omega); have q7_1 := fun o => (bcell B7_1).1 (w.heap.size + 1) o (by go_size); have f7_1 := fun o => (bcell B7_1).2 (w.heap.size + 1) o (by go_size); have z7_2 : w5.heap.size < w7.heap.size := (by omega); have q7_2 := fun o => (bcell B7_6).1 (w5.heap.size) o (by go_size); have f7_2 := fun o => (bcell B7_6).2 (w5.heap.size) o (by go_size); have H7 : Below w.heap.size w w7 := bthen (by repeat' (first | (with_reducible exact Below.refl _ _) | (with_reducible assumption) | (with_reducible refine bdrawn ?_ _) | (with_reducible refine Below.alloc ?_ ?_ _) | (with_reducible refine Below.drew ?_) | (with_reducible refine Below.setCell ?_ ?_ _) | go_size)) h7 (by go_size); have C7 := (bcell H7).1; have F7 := (bcell H7).2; have P7 : Below w6.heap.size w6 w7 := bthen (by repeat' (first | (with_reducible exact Below.refl _ _) | (with_reducible assumption) | (with_reducible refine bdrawn ?_ _) | (with_reducible refine Below.alloc ?_ ?_ _) | (with_reducible refine Below.drew ?_) | (with_reducible refine Below.setCell ?_ ?_ _) | go_size)) h7 (by go_size); replace p := hide (p.out.below P7 (by omega)); replace r := hide (r.out.below P7 (by omega)); replace x := hide (x.out.below P7 (by omega)); have q := hide (Owned.of_own o7); clear o7))
      rw [HCP.out] at r; rw [HCX.out] at q
      go_wp2_with fail
      refine (laws_eqIntS _ _ _ _ _ _ _ (isInts_own q.out.1 hwf.out) (isInts_own r.out.1 hwf.out)).mono ?_
      rintro e w8 ⟨rfl, h8⟩
      have s8 := h8.size
      try simp only [World.size_alloc, World.size_setCell, World.size_drew, World.heap_drewN] at s8
      have B8_1 := bnext (by first | (with_reducible exact B7_1) | exact (bgrow B7_1 (by go_size) (by repeat' (first | (with_reducible exact Below.refl _ _) | (with_reducible assumption) | (with_reducible refine bdrawn ?_ _) | (with_reducible refine Below.alloc ?_ ?_ _) | (with_reducible refine Below.drew ?_) | (with_reducible refine Below.setCell ?_ ?_ _) | go_size)))) h8 (by go_size)
      have B8_6 := bnext (by first | (with_reducible exact B7_6) | exact (bgrow B7_6 (by go_size) (by repeat' (first | (with_reducible exact Below.refl _ _) | (with_reducible assumption) | (with_reducible refine bdrawn ?_ _) | (with_reducible refine Below.alloc ?_ ?_ _) | (with_reducible refine Below.drew ?_) | (with_reducible refine Below.setCell ?_ ?_ _) | go_size)))) h8 (by go_size)
      have z8_0 : w.heap.size < w8.heap.size := by omega
      have q8_0 := fun o => (bcell B8_1).1 (w.heap.size) o (by go_size)
      have f8_0 := fun o => (bcell B8_1).2 (w.heap.size) o (by go_size)
      have z8_1 : w.heap.size + 1 < w8.heap.size := by omega
      have q8_1 := fun o => (bcell B8_1).1 (w.heap.size + 1) o (by go_size)
      have f8_1 := fun o => (bcell B8_1).2 (w.heap.size + 1) o (by go_size)
      have z8_2 : w5.heap.size < w8.heap.size := by omega
      have q8_2 := fun o => (bcell B8_6).1 (w5.heap.size) o (by go_size)
      have f8_2 := fun o => (bcell B8_6).2 (w5.heap.size) o (by go_size)
      have H8 : Below w.heap.size w w8 := bthen (by repeat' (first | (with_reducible exact Below.refl _ _) | (with_reducible assumption) | (with_reducible refine bdrawn ?_ _) | (with_reducible refine Below.alloc ?_ ?_ _) | (with_reducible refine Below.drew ?_) | (with_reducible refine Below.setCell ?_ ?_ _) | go_size)) h8 (by go_size)
      have C8 := (bcell H8).1; have F8 := (bcell H8).2
      have P8 : Below w7.heap.size w7 w8 := bthen (by repeat' (first | (with_reducible exact Below.refl _ _) | (with_reducible assumption) | (with_reducible refine bdrawn ?_ _) | (with_reducible refine Below.alloc ?_ ?_ _) | (with_reducible refine Below.drew ?_) | (with_reducible refine Below.setCell ?_ ?_ _) | go_size)) h8 (by go_size)
      replace p := hide (p.out.below P8 (by omega))
      replace r := hide (r.out.below P8 (by omega))
      replace x := hide (x.out.below P8 (by omega))
      replace q := hide (q.out.below P8 (by omega))
      go_wp2_with fail
      go_region_held3 (fun v => v.cell? ⟨w.heap.size, 0, none⟩ = some (.int .i64 g.gr) ∧ v.cell? ⟨w.heap.size, 1, none⟩ = some (.int .i64 g.bk) ∧ v.cell? ⟨w.heap.size, 2, none⟩ = some (.int .i64 g.rw) ∧ v.cell? ⟨w.heap.size, 3, none⟩ = some (.int .i64 g.cl) ∧ v.cell? ⟨w.heap.size + 1, 0, none⟩ = some (.slice A.a A.n A.c) ∧ v.cell? ⟨w.heap.size + 1, 1, none⟩ = some (.slice A.ag.1.a A.ag.1.n A.ag.1.c) ∧ v.cell? ⟨w.heap.size + 1, 2, none⟩ = some (.slice A.ht.1.a A.ht.1.n A.ht.1.c) ∧ v.cell? ⟨w5.heap.size, 0, none⟩ = some (.slice X.a X.n X.c) ∧ v.cell? ⟨w5.heap.size, 1, none⟩ = some (.slice X.ag.1.a X.ag.1.n X.ag.1.c) ∧ v.cell? ⟨w5.heap.size, 2, none⟩ = some (.slice X.ht.1.a X.ht.1.n X.ht.1.c)) (first | go_keep | simp [go_sem, *]) (first | (go_at_call 13; refine (laws_toArray A _ (HA.out.below (B := w.heap.size) (bthen H8 (Below.refl _ _).drew (Nat.le_refl _)) (Nat.le_refl _)) ht).mono ?_; rintro e w9 ⟨Y, rfl, o9, hcy, h9⟩; have s9 := h9.size; (try simp only [World.size_alloc, World.size_setCell, World.size_drew, World.heap_drewN] at s9); have B9_1 := bnext (by first | (with_reducible exact B8_1) | exact (bgrow B8_1 (by go_size) (by repeat' (first | (with_reducible exact Below.refl _ _) | (with_reducible assumption) | (with_reducible refine bdrawn ?_ _) | (with_reducible refine Below.alloc ?_ ?_ _) | (with_reducible refine Below.drew ?_) | (with_reducible refine Below.setCell ?_ ?_ _) | go_size)))) h9 (by go_size); have B9_6 := bnext (by first | (with_reducible exact B8_6) | exact (bgrow B8_6 (by go_size) (by repeat' (first | (with_reducible exact Below.refl _ _) | (with_reducible assumption) | (with_reducible refine bdrawn ?_ _) | (with_reducible refine Below.alloc ?_ ?_ _) | (with_reducible refine Below.drew ?_) | (with_reducible refine Below.setCell ?_ ?_ _) | go_size)))) h9 (by go_size); have z9_0 : w.heap.size < w9.heap.size := (by omega); have q9_0 := fun o => (bcell B9_1).1 (w.heap.size) o (by go_size); have f9_0 := fun o => (bcell B9_1).2 (w.heap.size) o (by go_size); have z9_1 : w.heap.size + 1 < w9.heap.size := (by omega); have q9_1 := fun o => (bcell B9_1).1 (w.heap.size + 1) o (by go_size); have f9_1 := fun o => (bcell B9_1).2 (w.heap.size + 1) o (by go_size); have z9_2 : w5.heap.size < w9.heap.size := (by omega); have q9_2 := fun o => (bcell B9_6).1 (w5.heap.size) o (by go_size); have f9_2 := fun o => (bcell B9_6).2 (w5.heap.size) o (by go_size); have H9 : Below w.heap.size w w9 := bthen (by repeat' (first | (with_reducible exact Below.refl _ _) | (with_reducible assumption) | (with_reducible refine bdrawn ?_ _) | (with_reducible refine Below.alloc ?_ ?_ _) | (with_reducible refine Below.drew ?_) | (with_reducible refine Below.setCell ?_ ?_ _) | go_size)) h9 (by go_size); have C9 := (bcell H9).1; have F9 := (bcell H9).2; have P9 : Below w8.heap.size w8 w9 := bthen (by repeat' (first | (with_reducible exact Below.refl _ _) | (with_reducible assumption) | (with_reducible refine bdrawn ?_ _) | (with_reducible refine Below.alloc ?_ ?_ _) | (with_reducible refine Below.drew ?_) | (with_reducible refine Below.setCell ?_ ?_ _) | go_size)) h9 (by go_size); replace p := hide (p.out.below P9 (by omega)); replace r := hide (r.out.below P9 (by omega)); replace x := hide (x.out.below P9 (by omega)); replace q := hide (q.out.below P9 (by omega)); have y := hide o9; clear o9; have HCY := hide hcy; clear hcy) | (go_at_call 16; refine (laws_eqArray X Y _ x.out.is y.out.is (HCX.out.trans HCY.out.symm)).mono ?_; rintro e w10 ⟨rfl, h10⟩; have s10 := h10.size; (try simp only [World.size_alloc, World.size_setCell, World.size_drew, World.heap_drewN] at s10); have B10_1 := bnext (by first | (with_reducible exact B9_1) | exact (bgrow B9_1 (by go_size) (by repeat' (first | (with_reducible exact Below.refl _ _) | (with_reducible assumption) | (with_reducible refine bdrawn ?_ _) | (with_reducible refine Below.alloc ?_ ?_ _) | (with_reducible refine Below.drew ?_) | (with_reducible refine Below.setCell ?_ ?_ _) | go_size)))) h10 (by go_size); have B10_6 := bnext (by first | (with_reducible exact B9_6) | exact (bgrow B9_6 (by go_size) (by repeat' (first | (with_reducible exact Below.refl _ _) | (with_reducible assumption) | (with_reducible refine bdrawn ?_ _) | (with_reducible refine Below.alloc ?_ ?_ _) | (with_reducible refine Below.drew ?_) | (with_reducible refine Below.setCell ?_ ?_ _) | go_size)))) h10 (by go_size); have z10_0 : w.heap.size < w10.heap.size := (by omega); have q10_0 := fun o => (bcell B10_1).1 (w.heap.size) o (by go_size); have f10_0 := fun o => (bcell B10_1).2 (w.heap.size) o (by go_size); have z10_1 : w.heap.size + 1 < w10.heap.size := (by omega); have q10_1 := fun o => (bcell B10_1).1 (w.heap.size + 1) o (by go_size); have f10_1 := fun o => (bcell B10_1).2 (w.heap.size + 1) o (by go_size); have z10_2 : w5.heap.size < w10.heap.size := (by omega); have q10_2 := fun o => (bcell B10_6).1 (w5.heap.size) o (by go_size); have f10_2 := fun o => (bcell B10_6).2 (w5.heap.size) o (by go_size); have H10 : Below w.heap.size w w10 := bthen (by repeat' (first | (with_reducible exact Below.refl _ _) | (with_reducible assumption) | (with_reducible refine bdrawn ?_ _) | (with_reducible refine Below.alloc ?_ ?_ _) | (with_reducible refine Below.drew ?_) | (with_reducible refine Below.setCell ?_ ?_ _) | go_size)) h10 (by go_size); have C10 := (bcell H10).1; have F10 := (bcell H10).2; have P10 : Below w9.heap.size w9 w10 := bthen (by repeat' (first | (with_reducible exact Below.refl _ _) | (with_reducible assumption) | (with_reducible refine bdrawn ?_ _) | (with_reducible refine Below.alloc ?_ ?_ _) | (with_reducible refine Below.drew ?_) | (with_reducible refine Below.setCell ?_ ?_ _) | go_size)) h10 (by go_size); replace p := hide (p.out.below P10 (by omega)); replace r := hide (r.out.below P10 (by omega)); replace x := hide (x.out.below P10 (by omega)); replace q := hide (q.out.below P10 (by omega)); replace y := hide (y.out.below P10 (by omega))))
      go_wp2_with fail
      refine (laws_markArray _ _ X 1 A.tot _ (by omega) HTX.out HTXe.out (by omega) x.out).mono ?_
      rintro e w11 ⟨rfl, o11, v11⟩
      have h11 := Save.below v11 (by omega)
      have s11 := h11.size
      try simp only [World.size_alloc, World.size_setCell, World.size_drew, World.heap_drewN] at s11
      have B11_1 := bnext (by first | (with_reducible exact B10_1) | exact (bgrow B10_1 (by go_size) (by repeat' (first | (with_reducible exact Below.refl _ _) | (with_reducible assumption) | (with_reducible refine bdrawn ?_ _) | (with_reducible refine Below.alloc ?_ ?_ _) | (with_reducible refine Below.drew ?_) | (with_reducible refine Below.setCell ?_ ?_ _) | go_size)))) h11 (by go_size)
      have z11_0 : w.heap.size < w11.heap.size := by omega
      have q11_0 := fun o => (bcell B11_1).1 (w.heap.size) o (by go_size)
      have f11_0 := fun o => (bcell B11_1).2 (w.heap.size) o (by go_size)
      have z11_1 : w.heap.size + 1 < w11.heap.size := by omega
      have q11_1 := fun o => (bcell B11_1).1 (w.heap.size + 1) o (by go_size)
      have f11_1 := fun o => (bcell B11_1).2 (w.heap.size + 1) o (by go_size)
      have H11 : Below w.heap.size w w11 := bthen (by repeat' (first | (with_reducible exact Below.refl _ _) | (with_reducible assumption) | (with_reducible refine bdrawn ?_ _) | (with_reducible refine Below.alloc ?_ ?_ _) | (with_reducible refine Below.drew ?_) | (with_reducible refine Below.setCell ?_ ?_ _) | go_size)) h11 (by go_size)
      have C11 := (bcell H11).1; have F11 := (bcell H11).2
      replace p := hide (p.out.save v11 (by omega))
      replace r := hide (r.out.save v11 (by omega))
      replace x := hide o11
      replace q := hide (q.out.save v11 (by omega))
      go_wp2_with fail
      refine (laws_eqIntS _ _ _ _ _ _ _ (isInts_own q.out.1 hwf.out) (isInts_own r.out.1 hwf.out)).mono ?_
      rintro e w12 ⟨rfl, h12⟩
      have s12 := h12.size
      try simp only [World.size_alloc, World.size_setCell, World.size_drew, World.heap_drewN] at s12
      have B12_1 := bnext (by first | (with_reducible exact B11_1) | exact (bgrow B11_1 (by go_size) (by repeat' (first | (with_reducible exact Below.refl _ _) | (with_reducible assumption) | (with_reducible refine bdrawn ?_ _) | (with_reducible refine Below.alloc ?_ ?_ _) | (with_reducible refine Below.drew ?_) | (with_reducible refine Below.setCell ?_ ?_ _) | go_size)))) h12 (by go_size)
      have z12_0 : w.heap.size < w12.heap.size := by omega
      have q12_0 := fun o => (bcell B12_1).1 (w.heap.size) o (by go_size)
      have f12_0 := fun o => (bcell B12_1).2 (w.heap.size) o (by go_size)
      have z12_1 : w.heap.size + 1 < w12.heap.size := by omega
      have q12_1 := fun o => (bcell B12_1).1 (w.heap.size + 1) o (by go_size)
      have f12_1 := fun o => (bcell B12_1).2 (w.heap.size + 1) o (by go_size)
      have H12 : Below w.heap.size w w12 := bthen (by repeat' (first | (with_reducible exact Below.refl _ _) | (with_reducible assumption) | (with_reducible refine bdrawn ?_ _) | (with_reducible refine Below.alloc ?_ ?_ _) | (with_reducible refine Below.drew ?_) | (with_reducible refine Below.setCell ?_ ?_ _) | go_size)) h12 (by go_size)
      have C12 := (bcell H12).1; have F12 := (bcell H12).2
      have P12 : Below w11.heap.size w11 w12 := bthen (by repeat' (first | (with_reducible exact Below.refl _ _) | (with_reducible assumption) | (with_reducible refine bdrawn ?_ _) | (with_reducible refine Below.alloc ?_ ?_ _) | (with_reducible refine Below.drew ?_) | (with_reducible refine Below.setCell ?_ ?_ _) | go_size)) h12 (by go_size)
      replace p := hide (p.out.below P12 (by omega))
      replace r := hide (r.out.below P12 (by omega))
      replace x := hide (x.out.below P12 (by omega))
      replace q := hide (q.out.below P12 (by omega))
      go_wp2_with fail
      refine (laws_markIntS _ _ _ _ _ _ _ _ (by omega) (by omega) q.out).mono ?_
      rintro e w13 ⟨rfl, o13, v13⟩
      have h13 := Save.below v13 (by omega)
      have s13 := h13.size
      try simp only [World.size_alloc, World.size_setCell, World.size_drew, World.heap_drewN] at s13
      have B13_1 := bnext (by first | (with_reducible exact B12_1) | exact (bgrow B12_1 (by go_size) (by repeat' (first | (with_reducible exact Below.refl _ _) | (with_reducible assumption) | (with_reducible refine bdrawn ?_ _) | (with_reducible refine Below.alloc ?_ ?_ _) | (with_reducible refine Below.drew ?_) | (with_reducible refine Below.setCell ?_ ?_ _) | go_size)))) h13 (by go_size)
      have z13_0 : w.heap.size < w13.heap.size := by omega
      have q13_0 := fun o => (bcell B13_1).1 (w.heap.size) o (by go_size)
      have f13_0 := fun o => (bcell B13_1).2 (w.heap.size) o (by go_size)
      have z13_1 : w.heap.size + 1 < w13.heap.size := by omega
      have q13_1 := fun o => (bcell B13_1).1 (w.heap.size + 1) o (by go_size)
      have f13_1 := fun o => (bcell B13_1).2 (w.heap.size + 1) o (by go_size)
      have H13 : Below w.heap.size w w13 := bthen (by repeat' (first | (with_reducible exact Below.refl _ _) | (with_reducible assumption) | (with_reducible refine bdrawn ?_ _) | (with_reducible refine Below.alloc ?_ ?_ _) | (with_reducible refine Below.drew ?_) | (with_reducible refine Below.setCell ?_ ?_ _) | go_size)) h13 (by go_size)
      have C13 := (bcell H13).1; have F13 := (bcell H13).2
      replace p := hide (p.out.save v13 (by omega))
      replace r := hide (r.out.save v13 (by omega))
      replace x := hide (x.out.save v13 (by omega))
      replace q := hide o13
      go_wp2_with fail
      refine (laws_heldIntS _ _ _ _ _ (by omega) (by omega) (isInts_own q.out.1 (markI_wf _ _ (by omega) (by omega) (by omega)))).mono ?_
      rintro e w14 ⟨rfl, h14⟩
      have s14 := h14.size
      try simp only [World.size_alloc, World.size_setCell, World.size_drew, World.heap_drewN] at s14
      have B14_1 := bnext (by first | (with_reducible exact B13_1) | exact (bgrow B13_1 (by go_size) (by repeat' (first | (with_reducible exact Below.refl _ _) | (with_reducible assumption) | (with_reducible refine bdrawn ?_ _) | (with_reducible refine Below.alloc ?_ ?_ _) | (with_reducible refine Below.drew ?_) | (with_reducible refine Below.setCell ?_ ?_ _) | go_size)))) h14 (by go_size)
      have z14_0 : w.heap.size < w14.heap.size := by omega
      have q14_0 := fun o => (bcell B14_1).1 (w.heap.size) o (by go_size)
      have f14_0 := fun o => (bcell B14_1).2 (w.heap.size) o (by go_size)
      have z14_1 : w.heap.size + 1 < w14.heap.size := by omega
      have q14_1 := fun o => (bcell B14_1).1 (w.heap.size + 1) o (by go_size)
      have f14_1 := fun o => (bcell B14_1).2 (w.heap.size + 1) o (by go_size)
      have H14 : Below w.heap.size w w14 := bthen (by repeat' (first | (with_reducible exact Below.refl _ _) | (with_reducible assumption) | (with_reducible refine bdrawn ?_ _) | (with_reducible refine Below.alloc ?_ ?_ _) | (with_reducible refine Below.drew ?_) | (with_reducible refine Below.setCell ?_ ?_ _) | go_size)) h14 (by go_size)
      have C14 := (bcell H14).1; have F14 := (bcell H14).2
      have P14 : Below w13.heap.size w13 w14 := bthen (by repeat' (first | (with_reducible exact Below.refl _ _) | (with_reducible assumption) | (with_reducible refine bdrawn ?_ _) | (with_reducible refine Below.alloc ?_ ?_ _) | (with_reducible refine Below.drew ?_) | (with_reducible refine Below.setCell ?_ ?_ _) | go_size)) h14 (by go_size)
      replace p := hide (p.out.below P14 (by omega))
      replace r := hide (r.out.below P14 (by omega))
      replace x := hide (x.out.below P14 (by omega))
      replace q := hide (q.out.below P14 (by omega))
      go_wp2_with fail
      go_region_held3 (fun v => v.cell? ⟨w.heap.size, 0, none⟩ = some (.int .i64 g.gr) ∧ v.cell? ⟨w.heap.size, 1, none⟩ = some (.int .i64 g.bk) ∧ v.cell? ⟨w.heap.size, 2, none⟩ = some (.int .i64 g.rw) ∧ v.cell? ⟨w.heap.size, 3, none⟩ = some (.int .i64 g.cl) ∧ v.cell? ⟨w.heap.size + 1, 0, none⟩ = some (.slice A.a A.n A.c) ∧ v.cell? ⟨w.heap.size + 1, 1, none⟩ = some (.slice A.ag.1.a A.ag.1.n A.ag.1.c) ∧ v.cell? ⟨w.heap.size + 1, 2, none⟩ = some (.slice A.ht.1.a A.ht.1.n A.ht.1.c)) (first | go_keep | simp [go_sem, *]) (first | (go_at_call 12; refine (laws_toGeometry g _).mono ?_; rintro e w15 ⟨rfl, h15⟩; have s15 := h15.size; (try simp only [World.size_alloc, World.size_setCell, World.size_drew, World.heap_drewN] at s15); have B15_1 := bnext (by first | (with_reducible exact B14_1) | exact (bgrow B14_1 (by go_size) (by repeat' (first | (with_reducible exact Below.refl _ _) | (with_reducible assumption) | (with_reducible refine bdrawn ?_ _) | (with_reducible refine Below.alloc ?_ ?_ _) | (with_reducible refine Below.drew ?_) | (with_reducible refine Below.setCell ?_ ?_ _) | go_size)))) h15 (by go_size); have z15_0 : w.heap.size < w15.heap.size := (by omega); have q15_0 := fun o => (bcell B15_1).1 (w.heap.size) o (by go_size); have f15_0 := fun o => (bcell B15_1).2 (w.heap.size) o (by go_size); have z15_1 : w.heap.size + 1 < w15.heap.size := (by omega); have q15_1 := fun o => (bcell B15_1).1 (w.heap.size + 1) o (by go_size); have f15_1 := fun o => (bcell B15_1).2 (w.heap.size + 1) o (by go_size); have H15 : Below w.heap.size w w15 := bthen (by repeat' (first | (with_reducible exact Below.refl _ _) | (with_reducible assumption) | (with_reducible refine bdrawn ?_ _) | (with_reducible refine Below.alloc ?_ ?_ _) | (with_reducible refine Below.drew ?_) | (with_reducible refine Below.setCell ?_ ?_ _) | go_size)) h15 (by go_size); have C15 := (bcell H15).1; have F15 := (bcell H15).2; have P15 : Below w14.heap.size w14 w15 := bthen (by repeat' (first | (with_reducible exact Below.refl _ _) | (with_reducible assumption) | (with_reducible refine bdrawn ?_ _) | (with_reducible refine Below.alloc ?_ ?_ _) | (with_reducible refine Below.drew ?_) | (with_reducible refine Below.setCell ?_ ?_ _) | go_size)) h15 (by go_size); replace p := hide (p.out.below P15 (by omega)); replace r := hide (r.out.below P15 (by omega)); replace x := hide (x.out.below P15 (by omega)); replace q := hide (q.out.below P15 (by omega))) | (go_at_call 13; refine (laws_toArray A _ (HA.out.below H15 (Nat.le_refl _)) ht).mono ?_; rintro e w16 ⟨Z, rfl, o16, hcz, h16⟩; have s16 := h16.size; (try simp only [World.size_alloc, World.size_setCell, World.size_drew, World.heap_drewN] at s16); have B16_1 := bnext (by first | (with_reducible exact B15_1) | exact (bgrow B15_1 (by go_size) (by repeat' (first | (with_reducible exact Below.refl _ _) | (with_reducible assumption) | (with_reducible refine bdrawn ?_ _) | (with_reducible refine Below.alloc ?_ ?_ _) | (with_reducible refine Below.drew ?_) | (with_reducible refine Below.setCell ?_ ?_ _) | go_size)))) h16 (by go_size); have z16_0 : w.heap.size < w16.heap.size := (by omega); have q16_0 := fun o => (bcell B16_1).1 (w.heap.size) o (by go_size); have f16_0 := fun o => (bcell B16_1).2 (w.heap.size) o (by go_size); have z16_1 : w.heap.size + 1 < w16.heap.size := (by omega); have q16_1 := fun o => (bcell B16_1).1 (w.heap.size + 1) o (by go_size); have f16_1 := fun o => (bcell B16_1).2 (w.heap.size + 1) o (by go_size); have H16 : Below w.heap.size w w16 := bthen (by repeat' (first | (with_reducible exact Below.refl _ _) | (with_reducible assumption) | (with_reducible refine bdrawn ?_ _) | (with_reducible refine Below.alloc ?_ ?_ _) | (with_reducible refine Below.drew ?_) | (with_reducible refine Below.setCell ?_ ?_ _) | go_size)) h16 (by go_size); have C16 := (bcell H16).1; have F16 := (bcell H16).2; have P16 : Below w15.heap.size w15 w16 := bthen (by repeat' (first | (with_reducible exact Below.refl _ _) | (with_reducible assumption) | (with_reducible refine bdrawn ?_ _) | (with_reducible refine Below.alloc ?_ ?_ _) | (with_reducible refine Below.drew ?_) | (with_reducible refine Below.setCell ?_ ?_ _) | go_size)) h16 (by go_size); replace p := hide (p.out.below P16 (by omega)); replace r := hide (r.out.below P16 (by omega)); replace x := hide (x.out.below P16 (by omega)); replace q := hide (q.out.below P16 (by omega)); have z := hide o16; clear o16; have HTZ := hide (show Z.tot ≤ 1048576 by have := tot_of_con z.out.is HA.out hcz; omega); have HCZ := hide hcz; clear hcz) | (go_at_call 14; refine (impl_Poisoned g Z _ N (by rw [HCZ.out]; exact HN.out) z.out.is HTZ.out).mono ?_; rintro e w17 ⟨ah, ch, rfl, o17, h17⟩; have s17 := h17.size; (try simp only [World.size_alloc, World.size_setCell, World.size_drew, World.heap_drewN] at s17); have B17_1 := bnext (by first | (with_reducible exact B16_1) | exact (bgrow B16_1 (by go_size) (by repeat' (first | (with_reducible exact Below.refl _ _) | (with_reducible assumption) | (with_reducible refine bdrawn ?_ _) | (with_reducible refine Below.alloc ?_ ?_ _) | (with_reducible refine Below.drew ?_) | (with_reducible refine Below.setCell ?_ ?_ _) | go_size)))) h17 (by go_size); have z17_0 : w.heap.size < w17.heap.size := (by omega); have q17_0 := fun o => (bcell B17_1).1 (w.heap.size) o (by go_size); have f17_0 := fun o => (bcell B17_1).2 (w.heap.size) o (by go_size); have z17_1 : w.heap.size + 1 < w17.heap.size := (by omega); have q17_1 := fun o => (bcell B17_1).1 (w.heap.size + 1) o (by go_size); have f17_1 := fun o => (bcell B17_1).2 (w.heap.size + 1) o (by go_size); have H17 : Below w.heap.size w w17 := bthen (by repeat' (first | (with_reducible exact Below.refl _ _) | (with_reducible assumption) | (with_reducible refine bdrawn ?_ _) | (with_reducible refine Below.alloc ?_ ?_ _) | (with_reducible refine Below.drew ?_) | (with_reducible refine Below.setCell ?_ ?_ _) | go_size)) h17 (by go_size); have C17 := (bcell H17).1; have F17 := (bcell H17).2; have P17 : Below w16.heap.size w16 w17 := bthen (by repeat' (first | (with_reducible exact Below.refl _ _) | (with_reducible assumption) | (with_reducible refine bdrawn ?_ _) | (with_reducible refine Below.alloc ?_ ?_ _) | (with_reducible refine Below.drew ?_) | (with_reducible refine Below.setCell ?_ ?_ _) | go_size)) h17 (by go_size); replace p := hide (p.out.below P17 (by omega)); replace r := hide (r.out.below P17 (by omega)); replace x := hide (x.out.below P17 (by omega)); replace q := hide (q.out.below P17 (by omega)); replace z := hide (z.out.below P17 (by omega)); have h := hide (Owned.of_own o17); clear o17))
      rw [HCZ.out] at h
      go_wp2_with fail
      refine (laws_eqIntS _ _ _ _ _ _ _ (isInts_own h.out.1 hwf.out) (isInts_own r.out.1 hwf.out)).mono ?_
      rintro e w18 ⟨rfl, h18⟩
      have s18 := h18.size
      try simp only [World.size_alloc, World.size_setCell, World.size_drew, World.heap_drewN] at s18
      have B18_1 := bnext (by first | (with_reducible exact B17_1) | exact (bgrow B17_1 (by go_size) (by repeat' (first | (with_reducible exact Below.refl _ _) | (with_reducible assumption) | (with_reducible refine bdrawn ?_ _) | (with_reducible refine Below.alloc ?_ ?_ _) | (with_reducible refine Below.drew ?_) | (with_reducible refine Below.setCell ?_ ?_ _) | go_size)))) h18 (by go_size)
      have z18_0 : w.heap.size < w18.heap.size := by omega
      have q18_0 := fun o => (bcell B18_1).1 (w.heap.size) o (by go_size)
      have f18_0 := fun o => (bcell B18_1).2 (w.heap.size) o (by go_size)
      have z18_1 : w.heap.size + 1 < w18.heap.size := by omega
      have q18_1 := fun o => (bcell B18_1).1 (w.heap.size + 1) o (by go_size)
      have f18_1 := fun o => (bcell B18_1).2 (w.heap.size + 1) o (by go_size)
      have H18 : Below w.heap.size w w18 := bthen (by repeat' (first | (with_reducible exact Below.refl _ _) | (with_reducible assumption) | (with_reducible refine bdrawn ?_ _) | (with_reducible refine Below.alloc ?_ ?_ _) | (with_reducible refine Below.drew ?_) | (with_reducible refine Below.setCell ?_ ?_ _) | go_size)) h18 (by go_size)
      have C18 := (bcell H18).1; have F18 := (bcell H18).2
      have P18 : Below w17.heap.size w17 w18 := bthen (by repeat' (first | (with_reducible exact Below.refl _ _) | (with_reducible assumption) | (with_reducible refine bdrawn ?_ _) | (with_reducible refine Below.alloc ?_ ?_ _) | (with_reducible refine Below.drew ?_) | (with_reducible refine Below.setCell ?_ ?_ _) | go_size)) h18 (by go_size)
      replace p := hide (p.out.below P18 (by omega))
      replace r := hide (r.out.below P18 (by omega))
      replace x := hide (x.out.below P18 (by omega))
      replace q := hide (q.out.below P18 (by omega))
      replace z := hide (z.out.below P18 (by omega))
      replace h := hide (h.out.below P18 (by omega))
      go_wp2_with fail
      refine (laws_heldIntS _ _ _ _ _ (by omega) (by omega) (isInts_own q.out.1 (markI_wf _ _ (by omega) (by omega) (by omega)))).mono ?_
      rintro e w19 ⟨rfl, h19⟩
      have s19 := h19.size
      try simp only [World.size_alloc, World.size_setCell, World.size_drew, World.heap_drewN] at s19
      have B19_1 := bnext (by first | (with_reducible exact B18_1) | exact (bgrow B18_1 (by go_size) (by repeat' (first | (with_reducible exact Below.refl _ _) | (with_reducible assumption) | (with_reducible refine bdrawn ?_ _) | (with_reducible refine Below.alloc ?_ ?_ _) | (with_reducible refine Below.drew ?_) | (with_reducible refine Below.setCell ?_ ?_ _) | go_size)))) h19 (by go_size)
      have z19_0 : w.heap.size < w19.heap.size := by omega
      have q19_0 := fun o => (bcell B19_1).1 (w.heap.size) o (by go_size)
      have f19_0 := fun o => (bcell B19_1).2 (w.heap.size) o (by go_size)
      have z19_1 : w.heap.size + 1 < w19.heap.size := by omega
      have q19_1 := fun o => (bcell B19_1).1 (w.heap.size + 1) o (by go_size)
      have f19_1 := fun o => (bcell B19_1).2 (w.heap.size + 1) o (by go_size)
      have H19 : Below w.heap.size w w19 := bthen (by repeat' (first | (with_reducible exact Below.refl _ _) | (with_reducible assumption) | (with_reducible refine bdrawn ?_ _) | (with_reducible refine Below.alloc ?_ ?_ _) | (with_reducible refine Below.drew ?_) | (with_reducible refine Below.setCell ?_ ?_ _) | go_size)) h19 (by go_size)
      have C19 := (bcell H19).1; have F19 := (bcell H19).2
      have P19 : Below w18.heap.size w18 w19 := bthen (by repeat' (first | (with_reducible exact Below.refl _ _) | (with_reducible assumption) | (with_reducible refine bdrawn ?_ _) | (with_reducible refine Below.alloc ?_ ?_ _) | (with_reducible refine Below.drew ?_) | (with_reducible refine Below.setCell ?_ ?_ _) | go_size)) h19 (by go_size)
      replace p := hide (p.out.below P19 (by omega))
      replace r := hide (r.out.below P19 (by omega))
      replace x := hide (x.out.below P19 (by omega))
      replace q := hide (q.out.below P19 (by omega))
      replace z := hide (z.out.below P19 (by omega))
      replace h := hide (h.out.below P19 (by omega))
      go_wp2_with fail
      go_ret
      exact ⟨rfl, by go_grown⟩
    · have HA := hide hA
      have hsz := szI_no (l := 1048576) (m := A.tot) (by omega)
      clear hA
      go_enter Try.func3, Try.ntmps3
      go_wp2_with fail
      refine (laws_szArray A _ _ _ (HA.out.below (B := w.heap.size) (by go_grown) (Nat.le_refl _)) (by omega) (by omega) hsz).mono ?_
      rintro e w1 ⟨rfl, h1⟩
      have s1 := h1.size
      try simp only [World.size_alloc, World.size_setCell, World.size_drew, World.heap_drewN] at s1
      have B1_1 := h1
      have z1_0 : w.heap.size < w1.heap.size := by omega
      have q1_0 := fun o => (bcell B1_1).1 (w.heap.size) o (by go_size)
      have f1_0 := fun o => (bcell B1_1).2 (w.heap.size) o (by go_size)
      have z1_1 : w.heap.size + 1 < w1.heap.size := by omega
      have q1_1 := fun o => (bcell B1_1).1 (w.heap.size + 1) o (by go_size)
      have f1_1 := fun o => (bcell B1_1).2 (w.heap.size + 1) o (by go_size)
      have H1 : Below w.heap.size w w1 := bthen (by repeat' (first | (with_reducible exact Below.refl _ _) | (with_reducible assumption) | (with_reducible refine bdrawn ?_ _) | (with_reducible refine Below.alloc ?_ ?_ _) | (with_reducible refine Below.drew ?_) | (with_reducible refine Below.setCell ?_ ?_ _) | go_size)) h1 (by go_size)
      have C1 := (bcell H1).1; have F1 := (bcell H1).2
      go_wp2_with fail
      go_ret
      exact ⟨rfl, H1⟩
  subst hAe hge
  exact goal
set_option maxRecDepth 100000 in
theorem FnExactPoisoned_lifted (os : Os) (started : os.Started) (H : Type) (enc : TypeId × Value → H) :
    ReturnsInHanded {} Try.checked os 3 .any (Rows.fnExactPoisonedSpec.pre6 enc Try.prog Try.f3 Rows.fnExactPoisonedRow.domain false) (Rows.fnExactPoisonedSpec.post enc Try.prog Try.f3 false true false false) := by
  refine returnsInHanded_of_change (C := Try.checked) try_own started (by kernel_rfl) Try.func3
    (ChangeSpec.witness6 (enc := enc) (C := Try.checked) false ⟨#[], #[.agg #[.int .i64 0, .int .i64 0, .int .i64 0, .int .i64 0], .agg #[.slice none 0 0, .slice none 0 0, .slice none 0 0]], []⟩ 8 (by kernel_rfl) (by kernel_rfl) (by kernel_rfl) (by kernel_rfl)) ?_
  intro W base args ds gs before hval0 hW _ _
  have hval : ∀ (j : Nat) t v, Try.f3.params[j]? = some t → args[j]? = some v → Value.okWide Try.prog W .any base t v := hval0
  have hW' := hW
  obtain ⟨p, q, hA0, hV, rfl, hfz, hnd⟩ := hW
  have hA : DataW.TrodAll enc Try.prog W 0 (fun _ => true) true Try.f3.params.toList args.toList ds p := hA0
  rw [Try.params3] at hA hval
  obtain ⟨v0, vs0, d0, ds0, p0, q0, hargs, rfl, rfl, h0, r0⟩ := trodAll_cons hA
  obtain ⟨v1, vs1, d1, ds1, p1, q1, rfl, rfl, rfl, h1, r1⟩ := trodAll_cons r0
  obtain ⟨rfl, rfl, rfl⟩ := trodAll_nil r1
  obtain rfl : args = #[v0, v1] := by cases args; simp_all
  obtain ⟨rfl, rfl⟩ := trodVars_none hV
  have k0 := h0
  have lt0 : ∀ x ∈ p0, x.block < W.heap.size := by obtain ⟨m, hm⟩ := k0; exact DataW.trod_lt m _ _ _ hm
  have k1 := h1
  have lt1 : ∀ x ∈ p1, x.block < W.heap.size := by obtain ⟨m, hm⟩ := k1; exact DataW.trod_lt m _ _ _ hm
  obtain ⟨v0_0, v0_1, v0_2, v0_3, y0_0, y0_1, y0_2, y0_3, m0, rfl, rfl, _, hy0_0, hy0_1, hy0_2, hy0_3⟩ := open_agg4 Try.underlying23 (by kernel_rfl) (by kernel_rfl) (hval 0 23 v0 rfl rfl) h0
  obtain ⟨x0_0, e_x0_0, rfl, w_x0_0⟩ := DataW.trod_int Try.underlying3 hy0_0
  obtain ⟨x0_1, e_x0_1, rfl, w_x0_1⟩ := DataW.trod_int Try.underlying3 hy0_1
  obtain ⟨x0_2, e_x0_2, rfl, w_x0_2⟩ := DataW.trod_int Try.underlying3 hy0_2
  obtain ⟨x0_3, e_x0_3, rfl, w_x0_3⟩ := DataW.trod_int Try.underlying3 hy0_3
  obtain ⟨v1_0, v1_1, v1_2, y1_0, y1_1, y1_2, m1, rfl, rfl, _, hy1_0, hy1_1, hy1_2⟩ := open_agg3 Try.underlying27 (by kernel_rfl) (by kernel_rfl) (hval 1 27 v1 rfl rfl) h1
  obtain ⟨a_x1_0, n_x1_0, c_x1_0, x1_0, e_x1_0, w_x1_0⟩ := isCells_of hy1_0
  obtain ⟨a_x1_1, n_x1_1, c_x1_1, x1_1, e_x1_1, w_x1_1⟩ := isInts_of Try.underlying25 Try.underlying3 (by kernel_rfl) hy1_1
  obtain ⟨a_x1_2, n_x1_2, c_x1_2, x1_2, e_x1_2, w_x1_2⟩ := isInts_of Try.underlying25 Try.underlying3 (by kernel_rfl) hy1_2
  simp only [List.cons.injEq, and_true] at e_x0_0; subst e_x0_0
  simp only [List.cons.injEq, and_true] at e_x0_1; subst e_x0_1
  simp only [List.cons.injEq, and_true] at e_x0_2; subst e_x0_2
  simp only [List.cons.injEq, and_true] at e_x0_3; subst e_x0_3
  simp only [List.cons.injEq, and_true] at e_x1_0; subst e_x1_0
  simp only [List.cons.injEq, and_true] at e_x1_1; subst e_x1_1
  simp only [List.cons.injEq, and_true] at e_x1_2; subst e_x1_2
  clear hA0 hval0
  refine (FnExactPoisoned_walk x0_0 x0_1 x0_2 x0_3 a_x1_0 n_x1_0 c_x1_0 x1_0 a_x1_1 n_x1_1 c_x1_1 x1_1 a_x1_2 n_x1_2 c_x1_2 x1_2 W w_x1_0 w_x1_1 w_x1_2).mono fun e W' ⟨he, bel⟩ => ?_
  subst he
  exact ⟨_, rfl, _, _, _, [], _, [], hW', trodAll_mk1 (shut_bool Try.underlying4 _), (trodAll_cons_mk (Below.trod try_laidOut (by kernel_rfl) (of_decide_eq_true (by kernel_rfl)) k0 bel lt0) (trodAll_cons_mk (Below.trod try_laidOut (by kernel_rfl) (of_decide_eq_true (by kernel_rfl)) k1 bel lt1) trodAll_mk0)), rfl, bel.frame _, fun h => by cases h⟩

theorem FnExactPoisoned_holds : Rows.FnExactPoisonedSaid :=
  OpenClaim.holds_of_wide 3 Try.f3 rfl rfl rfl rfl rfl rfl rfl ⟨rfl, rfl, rfl, rfl, rfl⟩ rfl rfl rfl rfl rfl (by kernel_rfl) Try.func3 (by kernel_rfl)
    (of_decide_eq_true (by kernel_rfl)) (by unfold Func.isWrapper; rw [if_neg (of_decide_eq_false (by kernel_rfl))]; exact ⟨rfl, rfl⟩)
    (fun os started H enc _ => FnExactPoisoned_lifted os started H enc)
#print axioms FnExactPoisoned_holds
end Go.Proofs.Ytkhcepmileiejaa
