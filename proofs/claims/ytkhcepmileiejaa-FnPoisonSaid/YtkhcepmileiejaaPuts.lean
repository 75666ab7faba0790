/- The storing functions of an array, of the program and of the reference. -/
import Derived.Test.YtkhcepmileiejaaGets
set_option linter.unusedSimpArgs false
set_option linter.unusedVariables false
namespace Go.Proofs.Ytkhcepmileiejaa
open Go.RowKit Go.ChangeShapes Go.WideShapes Go.ChangeAt Go.Joins Go.Deep
open Go.ChangeMaps (open_string shut_string)
def putA (g : Ge) (C : Con) (x : Ad) (v : Int) : Con := if (arOk g C && (adOk g x && btw v 0 4294967295)) = true then setC C (adIdx g x).toNat (putC v.toNat) else C
def storeA (g : Ge) (C : Con) (x : Ad) (c : List Int × Bool) : Con := if (arOk g C && (adOk g x && symOkB c.1 11)) = true then setC C (adIdx g x).toNat c else C
theorem Half.cell {lo p k : Nat} {w : World} {A : Ar} {e : Cl} {g : Nat} {r : Hd × List Int} {f : Bool} (h : Half lo p w A) (hg : A.a = some ⟨g, 0, none⟩) (he : A.es[k]? = some e) (hr : OwnI lo w.heap.size w r) (hap : ∀ s ∈ A.rows, Apart s.1.a r.1.a) (hao : Apart r.1.a A.a) (hrp : Apart r.1.a (some ⟨p, 0, none⟩)) :
    Half lo p ((w.setCell ⟨g, k * 2, none⟩ (.slice r.1.a r.1.n r.1.c)).setCell ⟨g, k * 2 + 1, none⟩ (.bool f)) { A with es := A.es.set k ⟨r.1, r.2, f⟩ } := by
  have h1 := h.syms hg he hr hap hao hrp
  have h2 := h1.flag (g := g) hg (i := k) (e := ⟨r.1, r.2, e.p⟩) (List.getElem?_set_self (List.getElem?_eq_some_iff.1 he).1) f
  simpa only [List.set_set] using h2
theorem set_con {P : Ar} {C C' : Con} {k : Nat} {c : List Int × Bool} {e : Cl} (h : P.con = C) (hq : setC C k c = C') (hc : conC e = c) : ({ P with es := P.es.set k e } : Ar).con = C' := by
  rw [con_set h, hc]; exact hq
theorem gs_of {w : World} {C : Con} {e : Ending} {w' : World} (h : GotAr w C e w') : GotAr w C e w' := h
theorem impl_IsWord_is (x : Int) (v : Bool) (hv : btw x 0 4294967295 = v) (w : World) :
    Calls Try.prog 50 #[.int .i64 x] w fun e w' => e = .returned (.bool v) ∧ w = w' := by subst hv; exact impl_IsWord x w
theorem spec_IsWord_is (x : Int) (v : Bool) (hv : btw x 0 4294967295 = v) (w : World) :
    Calls Try.prog 48 #[.int .i64 x] w fun e w' => e = .returned (.bool v) ∧ w = w' := by subst hv; exact spec_IsWord x w
set_option maxRecDepth 100000 in
set_option maxHeartbeats 4000000 in
theorem spec_PutWord (g : Ge) (A : Ar) (x : Ad) (v : Int) (C' : Con) (w : World) (hg : putA g A.con x v = C') (hA : IsAr w A) (ht : A.tot ≤ 1048576) :
    Calls Try.prog 20 #[.agg #[.int .i64 g.gr, .int .i64 g.bk, .int .i64 g.rw, .int .i64 g.cl], .agg #[.slice A.a A.n A.c, .slice A.ag.1.a A.ag.1.n A.ag.1.c, .slice A.ht.1.a A.ht.1.n A.ht.1.c], .agg #[.int .i64 x.b, .int .i64 x.r, .int .i64 x.c], .int .i64 v] w (GotAr w C') := by
  have HA := hide hA; have HT := hide ht; have HG := hide hg
  clear hA ht hg
  cases hok : arOk g A.con
  · have hq := HG.out
    unfold putA at hq
    rw [if_neg (by rw [hok]; simp)] at hq
    have HC := hide hq
    clear hq HG
    go_enter Try.func20, Try.ntmps20
    go_wp2_with fail
    refine (spec_l14Copy A _ (HA.out.below (B := w.heap.size) (by go_grown) (Nat.le_refl _)) HT.out).mono ?_
    rintro e w1 ⟨P, rfl, o1, hcp, h1⟩
    have s1 := h1.size
    try simp only [World.size_alloc, World.size_setCell, World.size_drew, World.heap_drewN] at s1
    have B1_1 := h1
    have z1_0 : w.heap.size < w1.heap.size := by omega
    have q1_0 := fun o => (bcell B1_1).1 (w.heap.size) o (by go_size)
    have f1_0 := fun o => (bcell B1_1).2 (w.heap.size) o (by go_size)
    have z1_1 : w.heap.size + 1 < w1.heap.size := by omega
    have q1_1 := fun o => (bcell B1_1).1 (w.heap.size + 1) o (by go_size)
    have f1_1 := fun o => (bcell B1_1).2 (w.heap.size + 1) o (by go_size)
    have z1_2 : w.heap.size + 1 + 1 < w1.heap.size := by omega
    have q1_2 := fun o => (bcell B1_1).1 (w.heap.size + 1 + 1) o (by go_size)
    have f1_2 := fun o => (bcell B1_1).2 (w.heap.size + 1 + 1) o (by go_size)
    have z1_3 : w.heap.size + 1 + 1 + 1 < w1.heap.size := by omega
    have q1_3 := fun o => (bcell B1_1).1 (w.heap.size + 1 + 1 + 1) o (by go_size)
    have f1_3 := fun o => (bcell B1_1).2 (w.heap.size + 1 + 1 + 1) o (by go_size)
    have H1 : Below w.heap.size w w1 := bthen (by repeat' (first | (with_reducible exact Below.refl _ _) | (with_reducible assumption) | (with_reducible refine bdrawn ?_ _) | (with_reducible refine Below.alloc ?_ ?_ _) | (with_reducible refine Below.drew ?_) | (with_reducible refine Below.setCell ?_ ?_ _) | go_size)) h1 (by go_size)
    have C1 := (bcell H1).1; have F1 := (bcell H1).2
    have p := hide o1
    clear o1
    have HCP := hide hcp; clear hcp
    go_wp2_with fail
    refine (spec_ArrayOk g A false _ hok (HA.out.below (B := w.heap.size) (bthen H1 (Below.alloc (Below.refl _ _) (Nat.le_refl _) _) (by omega)) (Nat.le_refl _)) HT.out).mono ?_
    rintro e w2 ⟨rfl, h2⟩
    have s2 := h2.size
    try simp only [World.size_alloc, World.size_setCell, World.size_drew, World.heap_drewN] at s2
    have B2_1 := bnext (by first | (with_reducible exact B1_1) | exact (bgrow B1_1 (by go_size) (by repeat' (first | (with_reducible exact Below.refl _ _) | (with_reducible assumption) | (with_reducible refine bdrawn ?_ _) | (with_reducible refine Below.alloc ?_ ?_ _) | (with_reducible refine Below.drew ?_) | (with_reducible refine Below.setCell ?_ ?_ _) | go_size)))) h2 (by go_size)
    have B2_2 := h2
    have z2_0 : w.heap.size < w2.heap.size := by omega
    have q2_0 := fun o => (bcell B2_1).1 (w.heap.size) o (by go_size)
    have f2_0 := fun o => (bcell B2_1).2 (w.heap.size) o (by go_size)
    have z2_1 : w.heap.size + 1 < w2.heap.size := by omega
    have q2_1 := fun o => (bcell B2_1).1 (w.heap.size + 1) o (by go_size)
    have f2_1 := fun o => (bcell B2_1).2 (w.heap.size + 1) o (by go_size)
    have z2_2 : w.heap.size + 1 + 1 < w2.heap.size := by omega
    have q2_2 := fun o => (bcell B2_1).1 (w.heap.size + 1 + 1) o (by go_size)
    have f2_2 := fun o => (bcell B2_1).2 (w.heap.size + 1 + 1) o (by go_size)
    have z2_3 : w.heap.size + 1 + 1 + 1 < w2.heap.size := by omega
    have q2_3 := fun o => (bcell B2_1).1 (w.heap.size + 1 + 1 + 1) o (by go_size)
    have f2_3 := fun o => (bcell B2_1).2 (w.heap.size + 1 + 1 + 1) o (by go_size)
    have z2_4 : w1.heap.size < w2.heap.size := by omega
    have q2_4 := fun o => (bcell B2_2).1 (w1.heap.size) o (by go_size)
    have f2_4 := fun o => (bcell B2_2).2 (w1.heap.size) o (by go_size)
    have H2 : Below w.heap.size w w2 := bthen (by repeat' (first | (with_reducible exact Below.refl _ _) | (with_reducible assumption) | (with_reducible refine bdrawn ?_ _) | (with_reducible refine Below.alloc ?_ ?_ _) | (with_reducible refine Below.drew ?_) | (with_reducible refine Below.setCell ?_ ?_ _) | go_size)) h2 (by go_size)
    have C2 := (bcell H2).1; have F2 := (bcell H2).2
    have P2 : Below w1.heap.size w1 w2 := bthen (by repeat' (first | (with_reducible exact Below.refl _ _) | (with_reducible assumption) | (with_reducible refine bdrawn ?_ _) | (with_reducible refine Below.alloc ?_ ?_ _) | (with_reducible refine Below.drew ?_) | (with_reducible refine Below.setCell ?_ ?_ _) | go_size)) h2 (by go_size)
    replace p := hide (p.out.below P2 (by omega))
    go_wp2_with fail
    refine bodyPost_ret (by simp [results, Try.results20, go_sem, *]; try rfl) rfl ?_
    exact ⟨P, rfl, p.out.ret (by simp) (by simp; omega) (by omega) _ _ _, HCP.out.trans HC.out, by go_grown⟩
  · cases hado : adOk g x
    · have hq := HG.out
      unfold putA at hq
      rw [if_neg (by rw [hado]; simp)] at hq
      have HC := hide hq
      clear hq HG
      go_enter Try.func20, Try.ntmps20
      go_wp2_with fail
      refine (spec_l14Copy A _ (HA.out.below (B := w.heap.size) (by go_grown) (Nat.le_refl _)) HT.out).mono ?_
      rintro e w1 ⟨P, rfl, o1, hcp, h1⟩
      have s1 := h1.size
      try simp only [World.size_alloc, World.size_setCell, World.size_drew, World.heap_drewN] at s1
      have B1_1 := h1
      have z1_0 : w.heap.size < w1.heap.size := by omega
      have q1_0 := fun o => (bcell B1_1).1 (w.heap.size) o (by go_size)
      have f1_0 := fun o => (bcell B1_1).2 (w.heap.size) o (by go_size)
      have z1_1 : w.heap.size + 1 < w1.heap.size := by omega
      have q1_1 := fun o => (bcell B1_1).1 (w.heap.size + 1) o (by go_size)
      have f1_1 := fun o => (bcell B1_1).2 (w.heap.size + 1) o (by go_size)
      have z1_2 : w.heap.size + 1 + 1 < w1.heap.size := by omega
      have q1_2 := fun o => (bcell B1_1).1 (w.heap.size + 1 + 1) o (by go_size)
      have f1_2 := fun o => (bcell B1_1).2 (w.heap.size + 1 + 1) o (by go_size)
      have z1_3 : w.heap.size + 1 + 1 + 1 < w1.heap.size := by omega
      have q1_3 := fun o => (bcell B1_1).1 (w.heap.size + 1 + 1 + 1) o (by go_size)
      have f1_3 := fun o => (bcell B1_1).2 (w.heap.size + 1 + 1 + 1) o (by go_size)
      have H1 : Below w.heap.size w w1 := bthen (by repeat' (first | (with_reducible exact Below.refl _ _) | (with_reducible assumption) | (with_reducible refine bdrawn ?_ _) | (with_reducible refine Below.alloc ?_ ?_ _) | (with_reducible refine Below.drew ?_) | (with_reducible refine Below.setCell ?_ ?_ _) | go_size)) h1 (by go_size)
      have C1 := (bcell H1).1; have F1 := (bcell H1).2
      have p := hide o1
      clear o1
      have HCP := hide hcp; clear hcp
      go_wp2_with fail
      refine (spec_ArrayOk g A true _ hok (HA.out.below (B := w.heap.size) (bthen H1 (Below.alloc (Below.refl _ _) (Nat.le_refl _) _) (by omega)) (Nat.le_refl _)) HT.out).mono ?_
      rintro e w2 ⟨rfl, h2⟩
      have s2 := h2.size
      try simp only [World.size_alloc, World.size_setCell, World.size_drew, World.heap_drewN] at s2
      have B2_1 := bnext (by first | (with_reducible exact B1_1) | exact (bgrow B1_1 (by go_size) (by repeat' (first | (with_reducible exact Below.refl _ _) | (with_reducible assumption) | (with_reducible refine bdrawn ?_ _) | (with_reducible refine Below.alloc ?_ ?_ _) | (with_reducible refine Below.drew ?_) | (with_reducible refine Below.setCell ?_ ?_ _) | go_size)))) h2 (by go_size)
      have B2_2 := h2
      have z2_0 : w.heap.size < w2.heap.size := by omega
      have q2_0 := fun o => (bcell B2_1).1 (w.heap.size) o (by go_size)
      have f2_0 := fun o => (bcell B2_1).2 (w.heap.size) o (by go_size)
      have z2_1 : w.heap.size + 1 < w2.heap.size := by omega
      have q2_1 := fun o => (bcell B2_1).1 (w.heap.size + 1) o (by go_size)
      have f2_1 := fun o => (bcell B2_1).2 (w.heap.size + 1) o (by go_size)
      have z2_2 : w.heap.size + 1 + 1 < w2.heap.size := by omega
      have q2_2 := fun o => (bcell B2_1).1 (w.heap.size + 1 + 1) o (by go_size)
      have f2_2 := fun o => (bcell B2_1).2 (w.heap.size + 1 + 1) o (by go_size)
      have z2_3 : w.heap.size + 1 + 1 + 1 < w2.heap.size := by omega
      have q2_3 := fun o => (bcell B2_1).1 (w.heap.size + 1 + 1 + 1) o (by go_size)
      have f2_3 := fun o => (bcell B2_1).2 (w.heap.size + 1 + 1 + 1) o (by go_size)
      have z2_4 : w1.heap.size < w2.heap.size := by omega
      have q2_4 := fun o => (bcell B2_2).1 (w1.heap.size) o (by go_size)
      have f2_4 := fun o => (bcell B2_2).2 (w1.heap.size) o (by go_size)
      have H2 : Below w.heap.size w w2 := bthen (by repeat' (first | (with_reducible exact Below.refl _ _) | (with_reducible assumption) | (with_reducible refine bdrawn ?_ _) | (with_reducible refine Below.alloc ?_ ?_ _) | (with_reducible refine Below.drew ?_) | (with_reducible refine Below.setCell ?_ ?_ _) | go_size)) h2 (by go_size)
      have C2 := (bcell H2).1; have F2 := (bcell H2).2
      have P2 : Below w1.heap.size w1 w2 := bthen (by repeat' (first | (with_reducible exact Below.refl _ _) | (with_reducible assumption) | (with_reducible refine bdrawn ?_ _) | (with_reducible refine Below.alloc ?_ ?_ _) | (with_reducible refine Below.drew ?_) | (with_reducible refine Below.setCell ?_ ?_ _) | go_size)) h2 (by go_size)
      replace p := hide (p.out.below P2 (by omega))
      go_wp2_with fail
      refine (spec_AddrOk g x false _ hado).mono ?_
      rintro e w3 ⟨rfl, h3⟩
      have s3 := h3.size
      try simp only [World.size_alloc, World.size_setCell, World.size_drew, World.heap_drewN] at s3
      have B3_1 := bnext (by first | (with_reducible exact B2_1) | exact (bgrow B2_1 (by go_size) (by repeat' (first | (with_reducible exact Below.refl _ _) | (with_reducible assumption) | (with_reducible refine bdrawn ?_ _) | (with_reducible refine Below.alloc ?_ ?_ _) | (with_reducible refine Below.drew ?_) | (with_reducible refine Below.setCell ?_ ?_ _) | go_size)))) h3 (by go_size)
      have B3_2 := bnext (by first | (with_reducible exact B2_2) | exact (bgrow B2_2 (by go_size) (by repeat' (first | (with_reducible exact Below.refl _ _) | (with_reducible assumption) | (with_reducible refine bdrawn ?_ _) | (with_reducible refine Below.alloc ?_ ?_ _) | (with_reducible refine Below.drew ?_) | (with_reducible refine Below.setCell ?_ ?_ _) | go_size)))) h3 (by go_size)
      have z3_0 : w.heap.size < w3.heap.size := by omega
      have q3_0 := fun o => (bcell B3_1).1 (w.heap.size) o (by go_size)
      have f3_0 := fun o => (bcell B3_1).2 (w.heap.size) o (by go_size)
      have z3_1 : w.heap.size + 1 < w3.heap.size := by omega
      have q3_1 := fun o => (bcell B3_1).1 (w.heap.size + 1) o (by go_size)
      have f3_1 := fun o => (bcell B3_1).2 (w.heap.size + 1) o (by go_size)
      have z3_2 : w.heap.size + 1 + 1 < w3.heap.size := by omega
      have q3_2 := fun o => (bcell B3_1).1 (w.heap.size + 1 + 1) o (by go_size)
      have f3_2 := fun o => (bcell B3_1).2 (w.heap.size + 1 + 1) o (by go_size)
      have z3_3 : w.heap.size + 1 + 1 + 1 < w3.heap.size := by omega
      have q3_3 := fun o => (bcell B3_1).1 (w.heap.size + 1 + 1 + 1) o (by go_size)
      have f3_3 := fun o => (bcell B3_1).2 (w.heap.size + 1 + 1 + 1) o (by go_size)
      have z3_4 : w1.heap.size < w3.heap.size := by omega
      have q3_4 := fun o => (bcell B3_2).1 (w1.heap.size) o (by go_size)
      have f3_4 := fun o => (bcell B3_2).2 (w1.heap.size) o (by go_size)
      have H3 : Below w.heap.size w w3 := bthen (by repeat' (first | (with_reducible exact Below.refl _ _) | (with_reducible assumption) | (with_reducible refine bdrawn ?_ _) | (with_reducible refine Below.alloc ?_ ?_ _) | (with_reducible refine Below.drew ?_) | (with_reducible refine Below.setCell ?_ ?_ _) | go_size)) h3 (by go_size)
      have C3 := (bcell H3).1; have F3 := (bcell H3).2
      have P3 : Below w2.heap.size w2 w3 := bthen (by repeat' (first | (with_reducible exact Below.refl _ _) | (with_reducible assumption) | (with_reducible refine bdrawn ?_ _) | (with_reducible refine Below.alloc ?_ ?_ _) | (with_reducible refine Below.drew ?_) | (with_reducible refine Below.setCell ?_ ?_ _) | go_size)) h3 (by go_size)
      replace p := hide (p.out.below P3 (by omega))
      go_wp2_with fail
      refine bodyPost_ret (by simp [results, Try.results20, go_sem, *]; try rfl) rfl ?_
      exact ⟨P, rfl, p.out.ret (by simp) (by simp; omega) (by omega) _ _ _, HCP.out.trans HC.out, by go_grown⟩
    · cases hsy : btw v 0 4294967295
      · have hq := HG.out
        unfold putA at hq
        rw [if_neg (by simp only [hok, hado, Bool.true_and]; rw [hsy]; simp)] at hq
        have HC := hide hq
        clear hq HG
        go_enter Try.func20, Try.ntmps20
        go_wp2_with fail
        refine (spec_l14Copy A _ (HA.out.below (B := w.heap.size) (by go_grown) (Nat.le_refl _)) HT.out).mono ?_
        rintro e w1 ⟨P, rfl, o1, hcp, h1⟩
        have s1 := h1.size
        try simp only [World.size_alloc, World.size_setCell, World.size_drew, World.heap_drewN] at s1
        have B1_1 := h1
        have z1_0 : w.heap.size < w1.heap.size := by omega
        have q1_0 := fun o => (bcell B1_1).1 (w.heap.size) o (by go_size)
        have f1_0 := fun o => (bcell B1_1).2 (w.heap.size) o (by go_size)
        have z1_1 : w.heap.size + 1 < w1.heap.size := by omega
        have q1_1 := fun o => (bcell B1_1).1 (w.heap.size + 1) o (by go_size)
        have f1_1 := fun o => (bcell B1_1).2 (w.heap.size + 1) o (by go_size)
        have z1_2 : w.heap.size + 1 + 1 < w1.heap.size := by omega
        have q1_2 := fun o => (bcell B1_1).1 (w.heap.size + 1 + 1) o (by go_size)
        have f1_2 := fun o => (bcell B1_1).2 (w.heap.size + 1 + 1) o (by go_size)
        have z1_3 : w.heap.size + 1 + 1 + 1 < w1.heap.size := by omega
        have q1_3 := fun o => (bcell B1_1).1 (w.heap.size + 1 + 1 + 1) o (by go_size)
        have f1_3 := fun o => (bcell B1_1).2 (w.heap.size + 1 + 1 + 1) o (by go_size)
        have H1 : Below w.heap.size w w1 := bthen (by repeat' (first | (with_reducible exact Below.refl _ _) | (with_reducible assumption) | (with_reducible refine bdrawn ?_ _) | (with_reducible refine Below.alloc ?_ ?_ _) | (with_reducible refine Below.drew ?_) | (with_reducible refine Below.setCell ?_ ?_ _) | go_size)) h1 (by go_size)
        have C1 := (bcell H1).1; have F1 := (bcell H1).2
        have p := hide o1
        clear o1
        have HCP := hide hcp; clear hcp
        go_wp2_with fail
        refine (spec_ArrayOk g A true _ hok (HA.out.below (B := w.heap.size) (bthen H1 (Below.alloc (Below.refl _ _) (Nat.le_refl _) _) (by omega)) (Nat.le_refl _)) HT.out).mono ?_
        rintro e w2 ⟨rfl, h2⟩
        have s2 := h2.size
        try simp only [World.size_alloc, World.size_setCell, World.size_drew, World.heap_drewN] at s2
        have B2_1 := bnext (by first | (with_reducible exact B1_1) | exact (bgrow B1_1 (by go_size) (by repeat' (first | (with_reducible exact Below.refl _ _) | (with_reducible assumption) | (with_reducible refine bdrawn ?_ _) | (with_reducible refine Below.alloc ?_ ?_ _) | (with_reducible refine Below.drew ?_) | (with_reducible refine Below.setCell ?_ ?_ _) | go_size)))) h2 (by go_size)
        have B2_2 := h2
        have z2_0 : w.heap.size < w2.heap.size := by omega
        have q2_0 := fun o => (bcell B2_1).1 (w.heap.size) o (by go_size)
        have f2_0 := fun o => (bcell B2_1).2 (w.heap.size) o (by go_size)
        have z2_1 : w.heap.size + 1 < w2.heap.size := by omega
        have q2_1 := fun o => (bcell B2_1).1 (w.heap.size + 1) o (by go_size)
        have f2_1 := fun o => (bcell B2_1).2 (w.heap.size + 1) o (by go_size)
        have z2_2 : w.heap.size + 1 + 1 < w2.heap.size := by omega
        have q2_2 := fun o => (bcell B2_1).1 (w.heap.size + 1 + 1) o (by go_size)
        have f2_2 := fun o => (bcell B2_1).2 (w.heap.size + 1 + 1) o (by go_size)
        have z2_3 : w.heap.size + 1 + 1 + 1 < w2.heap.size := by omega
        have q2_3 := fun o => (bcell B2_1).1 (w.heap.size + 1 + 1 + 1) o (by go_size)
        have f2_3 := fun o => (bcell B2_1).2 (w.heap.size + 1 + 1 + 1) o (by go_size)
        have z2_4 : w1.heap.size < w2.heap.size := by omega
        have q2_4 := fun o => (bcell B2_2).1 (w1.heap.size) o (by go_size)
        have f2_4 := fun o => (bcell B2_2).2 (w1.heap.size) o (by go_size)
        have H2 : Below w.heap.size w w2 := bthen (by repeat' (first | (with_reducible exact Below.refl _ _) | (with_reducible assumption) | (with_reducible refine bdrawn ?_ _) | (with_reducible refine Below.alloc ?_ ?_ _) | (with_reducible refine Below.drew ?_) | (with_reducible refine Below.setCell ?_ ?_ _) | go_size)) h2 (by go_size)
        have C2 := (bcell H2).1; have F2 := (bcell H2).2
        have P2 : Below w1.heap.size w1 w2 := bthen (by repeat' (first | (with_reducible exact Below.refl _ _) | (with_reducible assumption) | (with_reducible refine bdrawn ?_ _) | (with_reducible refine Below.alloc ?_ ?_ _) | (with_reducible refine Below.drew ?_) | (with_reducible refine Below.setCell ?_ ?_ _) | go_size)) h2 (by go_size)
        replace p := hide (p.out.below P2 (by omega))
        go_wp2_with fail
        refine (spec_AddrOk g x true _ hado).mono ?_
        rintro e w3 ⟨rfl, h3⟩
        have s3 := h3.size
        try simp only [World.size_alloc, World.size_setCell, World.size_drew, World.heap_drewN] at s3
        have B3_1 := bnext (by first | (with_reducible exact B2_1) | exact (bgrow B2_1 (by go_size) (by repeat' (first | (with_reducible exact Below.refl _ _) | (with_reducible assumption) | (with_reducible refine bdrawn ?_ _) | (with_reducible refine Below.alloc ?_ ?_ _) | (with_reducible refine Below.drew ?_) | (with_reducible refine Below.setCell ?_ ?_ _) | go_size)))) h3 (by go_size)
        have B3_2 := bnext (by first | (with_reducible exact B2_2) | exact (bgrow B2_2 (by go_size) (by repeat' (first | (with_reducible exact Below.refl _ _) | (with_reducible assumption) | (with_reducible refine bdrawn ?_ _) | (with_reducible refine Below.alloc ?_ ?_ _) | (with_reducible refine Below.drew ?_) | (with_reducible refine Below.setCell ?_ ?_ _) | go_size)))) h3 (by go_size)
        have z3_0 : w.heap.size < w3.heap.size := by omega
        have q3_0 := fun o => (bcell B3_1).1 (w.heap.size) o (by go_size)
        have f3_0 := fun o => (bcell B3_1).2 (w.heap.size) o (by go_size)
        have z3_1 : w.heap.size + 1 < w3.heap.size := by omega
        have q3_1 := fun o => (bcell B3_1).1 (w.heap.size + 1) o (by go_size)
        have f3_1 := fun o => (bcell B3_1).2 (w.heap.size + 1) o (by go_size)
        have z3_2 : w.heap.size + 1 + 1 < w3.heap.size := by omega
        have q3_2 := fun o => (bcell B3_1).1 (w.heap.size + 1 + 1) o (by go_size)
        have f3_2 := fun o => (bcell B3_1).2 (w.heap.size + 1 + 1) o (by go_size)
        have z3_3 : w.heap.size + 1 + 1 + 1 < w3.heap.size := by omega
        have q3_3 := fun o => (bcell B3_1).1 (w.heap.size + 1 + 1 + 1) o (by go_size)
        have f3_3 := fun o => (bcell B3_1).2 (w.heap.size + 1 + 1 + 1) o (by go_size)
        have z3_4 : w1.heap.size < w3.heap.size := by omega
        have q3_4 := fun o => (bcell B3_2).1 (w1.heap.size) o (by go_size)
        have f3_4 := fun o => (bcell B3_2).2 (w1.heap.size) o (by go_size)
        have H3 : Below w.heap.size w w3 := bthen (by repeat' (first | (with_reducible exact Below.refl _ _) | (with_reducible assumption) | (with_reducible refine bdrawn ?_ _) | (with_reducible refine Below.alloc ?_ ?_ _) | (with_reducible refine Below.drew ?_) | (with_reducible refine Below.setCell ?_ ?_ _) | go_size)) h3 (by go_size)
        have C3 := (bcell H3).1; have F3 := (bcell H3).2
        have P3 : Below w2.heap.size w2 w3 := bthen (by repeat' (first | (with_reducible exact Below.refl _ _) | (with_reducible assumption) | (with_reducible refine bdrawn ?_ _) | (with_reducible refine Below.alloc ?_ ?_ _) | (with_reducible refine Below.drew ?_) | (with_reducible refine Below.setCell ?_ ?_ _) | go_size)) h3 (by go_size)
        replace p := hide (p.out.below P3 (by omega))
        go_wp2_with (go_at_call 48; refine (spec_IsWord_is _ false hsy _).mono ?_; rintro ey wy ⟨rfl, rfl⟩)
        refine bodyPost_ret (by simp [results, Try.results20, go_sem, *]; try rfl) rfl ?_
        exact ⟨P, rfl, p.out.ret (by simp) (by simp; omega) (by omega) _ _ _, HCP.out.trans HC.out, by go_grown⟩
      · have hq := HG.out
        unfold putA at hq
        rw [if_pos (by simp only [hok, hado, Bool.true_and]; exact hsy)] at hq
        obtain ⟨hi0, hi1⟩ := adIdx_bd hado
        have hlc := (arOk_of hok).2.1
        obtain ⟨k, hk⟩ : ∃ k : Nat, adIdx g x = (k : Int) := ⟨(adIdx g x).toNat, by omega⟩
        rw [hk, Int.toNat_natCast] at hq
        have hkl : k < A.con.cs.length := by omega
        have HK := hide hk; have HQ := hide hq; have HKL := hide hkl
        clear hq hi0 hi1 hlc HG hk hkl
        obtain ⟨y, rfl⟩ : ∃ y : Nat, v = (y : Int) := ⟨v.toNat, by have := btw_true.1 hsy; omega⟩
        have hy9 : y < 4294967296 := by have := btw_true.1 hsy; omega
        rw [Int.toNat_natCast] at HQ
        obtain ⟨cw, hcw⟩ : ∃ cw, encS (symsOf y) = cw := ⟨_, rfl⟩
        have hcs : Sym cw ∧ cw.length = 11 := by subst hcw; exact enc_sym (syms_sym y).1 (syms_sym y).2
        have HCW := hide hcw; have HCS := hide hcs
        clear hcw hcs
        go_enter Try.func20, Try.ntmps20
        go_wp2_with fail
        refine (spec_l14Copy A _ (HA.out.below (B := w.heap.size) (by go_grown) (Nat.le_refl _)) HT.out).mono ?_
        rintro e w1 ⟨P, rfl, o1, hcp, h1⟩
        have s1 := h1.size
        try simp only [World.size_alloc, World.size_setCell, World.size_drew, World.heap_drewN] at s1
        have B1_1 := h1
        have z1_0 : w.heap.size < w1.heap.size := by omega
        have q1_0 := fun o => (bcell B1_1).1 (w.heap.size) o (by go_size)
        have f1_0 := fun o => (bcell B1_1).2 (w.heap.size) o (by go_size)
        have z1_1 : w.heap.size + 1 < w1.heap.size := by omega
        have q1_1 := fun o => (bcell B1_1).1 (w.heap.size + 1) o (by go_size)
        have f1_1 := fun o => (bcell B1_1).2 (w.heap.size + 1) o (by go_size)
        have z1_2 : w.heap.size + 1 + 1 < w1.heap.size := by omega
        have q1_2 := fun o => (bcell B1_1).1 (w.heap.size + 1 + 1) o (by go_size)
        have f1_2 := fun o => (bcell B1_1).2 (w.heap.size + 1 + 1) o (by go_size)
        have z1_3 : w.heap.size + 1 + 1 + 1 < w1.heap.size := by omega
        have q1_3 := fun o => (bcell B1_1).1 (w.heap.size + 1 + 1 + 1) o (by go_size)
        have f1_3 := fun o => (bcell B1_1).2 (w.heap.size + 1 + 1 + 1) o (by go_size)
        have H1 : Below w.heap.size w w1 := bthen (by repeat' (first | (with_reducible exact Below.refl _ _) | (with_reducible assumption) | (with_reducible refine bdrawn ?_ _) | (with_reducible refine Below.alloc ?_ ?_ _) | (with_reducible refine Below.drew ?_) | (with_reducible refine Below.setCell ?_ ?_ _) | go_size)) h1 (by go_size)
        have C1 := (bcell H1).1; have F1 := (bcell H1).2
        have p := hide o1
        clear o1
        have HCP := hide hcp; clear hcp
        go_wp2_with fail
        refine (spec_ArrayOk g A true _ hok (HA.out.below (B := w.heap.size) (bthen H1 (Below.alloc (Below.refl _ _) (Nat.le_refl _) _) (by omega)) (Nat.le_refl _)) HT.out).mono ?_
        rintro e w2 ⟨rfl, h2⟩
        have s2 := h2.size
        try simp only [World.size_alloc, World.size_setCell, World.size_drew, World.heap_drewN] at s2
        have B2_1 := bnext (by first | (with_reducible exact B1_1) | exact (bgrow B1_1 (by go_size) (by repeat' (first | (with_reducible exact Below.refl _ _) | (with_reducible assumption) | (with_reducible refine bdrawn ?_ _) | (with_reducible refine Below.alloc ?_ ?_ _) | (with_reducible refine Below.drew ?_) | (with_reducible refine Below.setCell ?_ ?_ _) | go_size)))) h2 (by go_size)
        have B2_2 := h2
        have z2_0 : w.heap.size < w2.heap.size := by omega
        have q2_0 := fun o => (bcell B2_1).1 (w.heap.size) o (by go_size)
        have f2_0 := fun o => (bcell B2_1).2 (w.heap.size) o (by go_size)
        have z2_1 : w.heap.size + 1 < w2.heap.size := by omega
        have q2_1 := fun o => (bcell B2_1).1 (w.heap.size + 1) o (by go_size)
        have f2_1 := fun o => (bcell B2_1).2 (w.heap.size + 1) o (by go_size)
        have z2_2 : w.heap.size + 1 + 1 < w2.heap.size := by omega
        have q2_2 := fun o => (bcell B2_1).1 (w.heap.size + 1 + 1) o (by go_size)
        have f2_2 := fun o => (bcell B2_1).2 (w.heap.size + 1 + 1) o (by go_size)
        have z2_3 : w.heap.size + 1 + 1 + 1 < w2.heap.size := by omega
        have q2_3 := fun o => (bcell B2_1).1 (w.heap.size + 1 + 1 + 1) o (by go_size)
        have f2_3 := fun o => (bcell B2_1).2 (w.heap.size + 1 + 1 + 1) o (by go_size)
        have z2_4 : w1.heap.size < w2.heap.size := by omega
        have q2_4 := fun o => (bcell B2_2).1 (w1.heap.size) o (by go_size)
        have f2_4 := fun o => (bcell B2_2).2 (w1.heap.size) o (by go_size)
        have H2 : Below w.heap.size w w2 := bthen (by repeat' (first | (with_reducible exact Below.refl _ _) | (with_reducible assumption) | (with_reducible refine bdrawn ?_ _) | (with_reducible refine Below.alloc ?_ ?_ _) | (with_reducible refine Below.drew ?_) | (with_reducible refine Below.setCell ?_ ?_ _) | go_size)) h2 (by go_size)
        have C2 := (bcell H2).1; have F2 := (bcell H2).2
        have P2 : Below w1.heap.size w1 w2 := bthen (by repeat' (first | (with_reducible exact Below.refl _ _) | (with_reducible assumption) | (with_reducible refine bdrawn ?_ _) | (with_reducible refine Below.alloc ?_ ?_ _) | (with_reducible refine Below.drew ?_) | (with_reducible refine Below.setCell ?_ ?_ _) | go_size)) h2 (by go_size)
        replace p := hide (p.out.below P2 (by omega))
        go_wp2_with fail
        refine (spec_AddrOk g x true _ hado).mono ?_
        rintro e w3 ⟨rfl, h3⟩
        have s3 := h3.size
        try simp only [World.size_alloc, World.size_setCell, World.size_drew, World.heap_drewN] at s3
        have B3_1 := bnext (by first | (with_reducible exact B2_1) | exact (bgrow B2_1 (by go_size) (by repeat' (first | (with_reducible exact Below.refl _ _) | (with_reducible assumption) | (with_reducible refine bdrawn ?_ _) | (with_reducible refine Below.alloc ?_ ?_ _) | (with_reducible refine Below.drew ?_) | (with_reducible refine Below.setCell ?_ ?_ _) | go_size)))) h3 (by go_size)
        have B3_2 := bnext (by first | (with_reducible exact B2_2) | exact (bgrow B2_2 (by go_size) (by repeat' (first | (with_reducible exact Below.refl _ _) | (with_reducible assumption) | (with_reducible refine bdrawn ?_ _) | (with_reducible refine Below.alloc ?_ ?_ _) | (with_reducible refine Below.drew ?_) | (with_reducible refine Below.setCell ?_ ?_ _) | go_size)))) h3 (by go_size)
        have z3_0 : w.heap.size < w3.heap.size := by omega
        have q3_0 := fun o => (bcell B3_1).1 (w.heap.size) o (by go_size)
        have f3_0 := fun o => (bcell B3_1).2 (w.heap.size) o (by go_size)
        have z3_1 : w.heap.size + 1 < w3.heap.size := by omega
        have q3_1 := fun o => (bcell B3_1).1 (w.heap.size + 1) o (by go_size)
        have f3_1 := fun o => (bcell B3_1).2 (w.heap.size + 1) o (by go_size)
        have z3_2 : w.heap.size + 1 + 1 < w3.heap.size := by omega
        have q3_2 := fun o => (bcell B3_1).1 (w.heap.size + 1 + 1) o (by go_size)
        have f3_2 := fun o => (bcell B3_1).2 (w.heap.size + 1 + 1) o (by go_size)
        have z3_3 : w.heap.size + 1 + 1 + 1 < w3.heap.size := by omega
        have q3_3 := fun o => (bcell B3_1).1 (w.heap.size + 1 + 1 + 1) o (by go_size)
        have f3_3 := fun o => (bcell B3_1).2 (w.heap.size + 1 + 1 + 1) o (by go_size)
        have z3_4 : w1.heap.size < w3.heap.size := by omega
        have q3_4 := fun o => (bcell B3_2).1 (w1.heap.size) o (by go_size)
        have f3_4 := fun o => (bcell B3_2).2 (w1.heap.size) o (by go_size)
        have H3 : Below w.heap.size w w3 := bthen (by repeat' (first | (with_reducible exact Below.refl _ _) | (with_reducible assumption) | (with_reducible refine bdrawn ?_ _) | (with_reducible refine Below.alloc ?_ ?_ _) | (with_reducible refine Below.drew ?_) | (with_reducible refine Below.setCell ?_ ?_ _) | go_size)) h3 (by go_size)
        have C3 := (bcell H3).1; have F3 := (bcell H3).2
        have P3 : Below w2.heap.size w2 w3 := bthen (by repeat' (first | (with_reducible exact Below.refl _ _) | (with_reducible assumption) | (with_reducible refine bdrawn ?_ _) | (with_reducible refine Below.alloc ?_ ?_ _) | (with_reducible refine Below.drew ?_) | (with_reducible refine Below.setCell ?_ ?_ _) | go_size)) h3 (by go_size)
        replace p := hide (p.out.below P3 (by omega))
        have hF := Half.of (p := w1.heap.size) p.out (by omega) ((B3_2.block w1.heap.size (by simp)).trans (alloc_at _ _ _ rfl)) (.inr (Nat.le_refl _))
        obtain ⟨f, hf, _⟩ := con_at HCP.out HKL.out
        obtain ⟨gg, hga, hg1, hg2, hkn, hgp, d0, d1, df, _⟩ := half_cell hF hf
        have HF := hide hF; have HFE := hide hf; have HGA := hide hga
        simp only [World.size_alloc] at hg1
        clear q2_4 q3_4 f2_4 f3_4
        have gbg0 : w3.cell? ⟨w.heap.size, 0, none⟩ = some (.int .i64 g.gr) := by rw [q3_0 0, World.cell?_alloc_lt _ _ _ (by simp; try omega), World.cell?_alloc_lt _ _ _ (by simp; try omega), World.cell?_alloc_lt _ _ _ (by simp; try omega)]; exact (cell_blk (alloc_at _ _ _ (by simp)) 0).trans rfl
        have gbg1 : w3.cell? ⟨w.heap.size, 1, none⟩ = some (.int .i64 g.bk) := by rw [q3_0 1, World.cell?_alloc_lt _ _ _ (by simp; try omega), World.cell?_alloc_lt _ _ _ (by simp; try omega), World.cell?_alloc_lt _ _ _ (by simp; try omega)]; exact (cell_blk (alloc_at _ _ _ (by simp)) 1).trans rfl
        have gbg2 : w3.cell? ⟨w.heap.size, 2, none⟩ = some (.int .i64 g.rw) := by rw [q3_0 2, World.cell?_alloc_lt _ _ _ (by simp; try omega), World.cell?_alloc_lt _ _ _ (by simp; try omega), World.cell?_alloc_lt _ _ _ (by simp; try omega)]; exact (cell_blk (alloc_at _ _ _ (by simp)) 2).trans rfl
        have gbg3 : w3.cell? ⟨w.heap.size, 3, none⟩ = some (.int .i64 g.cl) := by rw [q3_0 3, World.cell?_alloc_lt _ _ _ (by simp; try omega), World.cell?_alloc_lt _ _ _ (by simp; try omega), World.cell?_alloc_lt _ _ _ (by simp; try omega)]; exact (cell_blk (alloc_at _ _ _ (by simp)) 3).trans rfl
        have gbx0 : w3.cell? ⟨w.heap.size + 1 + 1, 0, none⟩ = some (.int .i64 x.b) := by rw [q3_2 0, World.cell?_alloc_lt _ _ _ (by simp; try omega)]; exact (cell_blk (alloc_at _ _ _ (by simp)) 0).trans rfl
        have gbx1 : w3.cell? ⟨w.heap.size + 1 + 1, 1, none⟩ = some (.int .i64 x.r) := by rw [q3_2 1, World.cell?_alloc_lt _ _ _ (by simp; try omega)]; exact (cell_blk (alloc_at _ _ _ (by simp)) 1).trans rfl
        have gbx2 : w3.cell? ⟨w.heap.size + 1 + 1, 2, none⟩ = some (.int .i64 x.c) := by rw [q3_2 2, World.cell?_alloc_lt _ _ _ (by simp; try omega)]; exact (cell_blk (alloc_at _ _ _ (by simp)) 2).trans rfl
        clear q1_0 q2_0 q3_0 q1_2 q2_2 q3_2
        have hcap := caps_n p.out
        have hc1 := hcap.1; have hc2 := hcap.2
        have i0 : (0 : Int) ≤ (k : Int) := by omega
        have i1 : (k : Int) < (P.n : Int) := by omega
        have hH3 := hide H3
        have ng := hide hgp
        have hpl := hF.lt
        have c0 : w3.cell? ⟨w1.heap.size, 0, none⟩ = some (.slice P.a P.n P.c) := cell_blk hF.blk 0
        rw [hga] at c0
        clear hF hf hga hcap
        have n1 : ¬ gg = w1.heap.size := hgp
        have n2 : ¬ w1.heap.size = gg := fun e => hgp e.symm
        have m0 : ¬ gg = w.heap.size := by omega
        have l0 : ¬ w.heap.size = gg := by omega
        have o09 : w.heap.size < w3.heap.size := by omega
        have m1 : ¬ gg = w.heap.size + 1 := by omega
        have l1 : ¬ w.heap.size + 1 = gg := by omega
        have o19 : w.heap.size + 1 < w3.heap.size := by omega
        have m2 : ¬ gg = w.heap.size + 1 + 1 := by omega
        have l2 : ¬ w.heap.size + 1 + 1 = gg := by omega
        have o29 : w.heap.size + 1 + 1 < w3.heap.size := by omega
        have m3 : ¬ gg = w.heap.size + 1 + 1 + 1 := by omega
        have l3 : ¬ w.heap.size + 1 + 1 + 1 = gg := by omega
        have o39 : w.heap.size + 1 + 1 + 1 < w3.heap.size := by omega
        go_wp2_with (go_at_call 48; refine (spec_IsWord_is _ true hsy _).mono ?_; rintro ey wy ⟨rfl, rfl⟩)
        go_region_held3 (fun v => v.cell? ⟨w1.heap.size, 0, none⟩ = some (.slice (some ⟨gg, 0, none⟩) P.n P.c) ∧ v.cell? ⟨w.heap.size, 0, none⟩ = some (.int .i64 g.gr) ∧ v.cell? ⟨w.heap.size, 1, none⟩ = some (.int .i64 g.bk) ∧ v.cell? ⟨w.heap.size, 2, none⟩ = some (.int .i64 g.rw) ∧ v.cell? ⟨w.heap.size, 3, none⟩ = some (.int .i64 g.cl) ∧ v.cell? ⟨w.heap.size + 1 + 1, 0, none⟩ = some (.int .i64 x.b) ∧ v.cell? ⟨w.heap.size + 1 + 1, 1, none⟩ = some (.int .i64 x.r) ∧ v.cell? ⟨w.heap.size + 1 + 1, 2, none⟩ = some (.int .i64 x.c)) (first | go_keep | simp [go_sem, *]) (first | (go_at_call 38; refine (spec_AddrIndex g x (k : Nat) _ hado HK.out).mono ?_; rintro ex y1 ⟨rfl, hy9⟩; first | (have hY : Below w3.heap.size w3 y1 := below_drew hy9; clear hy9; have s_y := hY.size; have p_y := ((bcell hY).1 w1.heap.size 0 (by omega)).trans c0; have a_y := ((bcell hY).1 gg (k * 2) (by omega)).trans d0; have b_y := ((bcell hY).1 gg (k * 2 + 1) (by omega)).trans d1; have f_y := fun o => ((bcell hY).2 gg o (by omega)).trans (df o); have x0_y := fun o => (bcell hY).1 (w.heap.size) o (by omega); have z0_y := fun o => (bcell hY).2 (w.heap.size) o (by omega); have x1_y := fun o => (bcell hY).1 (w.heap.size + 1) o (by omega); have z1_y := fun o => (bcell hY).2 (w.heap.size + 1) o (by omega); have x2_y := fun o => (bcell hY).1 (w.heap.size + 1 + 1) o (by omega); have z2_y := fun o => (bcell hY).2 (w.heap.size + 1 + 1) o (by omega); have x3_y := fun o => (bcell hY).1 (w.heap.size + 1 + 1 + 1) o (by omega); have z3_y := fun o => (bcell hY).2 (w.heap.size + 1 + 1 + 1) o (by omega)) | (have hY : Below w3.heap.size w3 y1 := bthen hZ hy9 hZ.size; have HR2 := hide (HR.out.1.below hy9 (Nat.le_refl _)); clear hy9; have s_y := hY.size; have p_y := ((bcell hY).1 w1.heap.size 0 (by omega)).trans c0; have a_y := ((bcell hY).1 gg (k * 2) (by omega)).trans d0; have b_y := ((bcell hY).1 gg (k * 2 + 1) (by omega)).trans d1; have f_y := fun o => ((bcell hY).2 gg o (by omega)).trans (df o); have x0_y := fun o => (bcell hY).1 (w.heap.size) o (by omega); have z0_y := fun o => (bcell hY).2 (w.heap.size) o (by omega); have x1_y := fun o => (bcell hY).1 (w.heap.size + 1) o (by omega); have z1_y := fun o => (bcell hY).2 (w.heap.size + 1) o (by omega); have x2_y := fun o => (bcell hY).1 (w.heap.size + 1 + 1) o (by omega); have z2_y := fun o => (bcell hY).2 (w.heap.size + 1 + 1) o (by omega); have x3_y := fun o => (bcell hY).1 (w.heap.size + 1 + 1 + 1) o (by omega); have z3_y := fun o => (bcell hY).2 (w.heap.size + 1 + 1 + 1) o (by omega))) | (go_at_call 49; first | (refine (spec_EncodeLine y _ hy9).mono ?_; rintro ex z1 ⟨az, cz, rfl, ho9, hz9⟩; have hZ : Below w3.heap.size w3 z1 := below_drew hz9; rw [HCW.out] at ho9; have HR := hide (OwnI.of_own (B := w3.heap.size) ho9 (ints_wf11 HCS.out.1)); clear ho9 hz9; have s_z := hZ.size; have p_z := ((bcell hZ).1 w1.heap.size 0 (by omega)).trans c0; have a_z := ((bcell hZ).1 gg (k * 2) (by omega)).trans d0; have b_z := ((bcell hZ).1 gg (k * 2 + 1) (by omega)).trans d1; have f_z := fun o => ((bcell hZ).2 gg o (by omega)).trans (df o); have x0_z := fun o => (bcell hZ).1 (w.heap.size) o (by omega); have z0_z := fun o => (bcell hZ).2 (w.heap.size) o (by omega); have x1_z := fun o => (bcell hZ).1 (w.heap.size + 1) o (by omega); have z1_z := fun o => (bcell hZ).2 (w.heap.size + 1) o (by omega); have x2_z := fun o => (bcell hZ).1 (w.heap.size + 1 + 1) o (by omega); have z2_z := fun o => (bcell hZ).2 (w.heap.size + 1 + 1) o (by omega); have x3_z := fun o => (bcell hZ).1 (w.heap.size + 1 + 1 + 1) o (by omega); have z3_z := fun o => (bcell hZ).2 (w.heap.size + 1 + 1 + 1) o (by omega)) | (refine (spec_EncodeLine y _ hy9).mono ?_; rintro ex z1 ⟨az, cz, rfl, ho9, hz9⟩; have hZ : Below w3.heap.size w3 z1 := bthen hY hz9 hY.size; rw [HCW.out] at ho9; have HR := hide ((OwnI.of_own ho9 (ints_wf11 HCS.out.1)).wide (lo' := w3.heap.size) (hi' := z1.heap.size) hY.size (Nat.le_refl _)); clear ho9 hz9; have s_z := hZ.size; have p_z := ((bcell hZ).1 w1.heap.size 0 (by omega)).trans c0; have a_z := ((bcell hZ).1 gg (k * 2) (by omega)).trans d0; have b_z := ((bcell hZ).1 gg (k * 2 + 1) (by omega)).trans d1; have f_z := fun o => ((bcell hZ).2 gg o (by omega)).trans (df o); have x0_z := fun o => (bcell hZ).1 (w.heap.size) o (by omega); have z0_z := fun o => (bcell hZ).2 (w.heap.size) o (by omega); have x1_z := fun o => (bcell hZ).1 (w.heap.size + 1) o (by omega); have z1_z := fun o => (bcell hZ).2 (w.heap.size + 1) o (by omega); have x2_z := fun o => (bcell hZ).1 (w.heap.size + 1 + 1) o (by omega); have z2_z := fun o => (bcell hZ).2 (w.heap.size + 1 + 1) o (by omega); have x3_z := fun o => (bcell hZ).1 (w.heap.size + 1 + 1 + 1) o (by omega); have z3_z := fun o => (bcell hZ).2 (w.heap.size + 1 + 1 + 1) o (by omega))))
        all_goals
          have ap := hide (HF.out.apart (Nat.le_refl _) (fun u hu => (HR.out.1.lt hu).1))
          have HZ := hide (HF.out.below hZ)
          have HH := hide (HZ.out.cell HGA.out HFE.out (r := (⟨az, 11, cz⟩, ints cw)) (f := false) (HR.out.wide (by simp; omega) (Nat.le_refl _)) ap.out.1 ap.out.2.1 ap.out.2.2)
          have hOne : OneW (some ⟨gg, 0, none⟩) z1 ((z1.setCell ⟨gg, k * 2, none⟩ (.slice az 11 cz)).setCell ⟨gg, k * 2 + 1, none⟩ (.bool false)) := (OneW.set _).trans (OneW.set _)
          have hsv := (Save.of_below (lo := w.heap.size + 4) (hi := w1.heap.size) hZ).trans (OneW.save hOne (fun y hy => by injection hy with hy; subst hy; have := p.out.outer.lt HGA.out; simp only [World.size_alloc] at this; simp only; omega))
          have sZ := hsv.size
          clear hOne ap HZ a_z b_z f_z a_y b_y f_y p_y p_z
          generalize ((z1.setCell ⟨gg, k * 2, none⟩ (.slice az 11 cz)).setCell ⟨gg, k * 2 + 1, none⟩ (.bool false)) = Z at HH hsv sZ ⊢
          have v3 := fun o => World.cell?_of_block (a := ⟨w.heap.size + 1 + 1 + 1, o, none⟩) (hsv.block (w.heap.size + 1 + 1 + 1) (by omega) (.inl (by omega)))
          have u3 := fun o => World.frozen?_of_block (a := ⟨w.heap.size + 1 + 1 + 1, o, none⟩) (hsv.block (w.heap.size + 1 + 1 + 1) (by omega) (.inl (by omega)))
          have t3 : w.heap.size + 1 + 1 + 1 < Z.heap.size := by omega
          have e0 := cell_blk HH.out.blk 0; have e1 := cell_blk HH.out.blk 1; have e2 := cell_blk HH.out.blk 2
          have t4 := HH.out.lt
          have H5 : Below w.heap.size w Z := bthen hH3.out (Save.below hsv (by omega)) (by omega)
          clear hsv hZ hY
          go_wp2_with fail
          refine bodyPost_ret (by simp [results, Try.results20, go_sem, *]; try rfl) rfl ?_
          exact ⟨{ P with es := P.es.set k ⟨⟨az, 11, cz⟩, ints cw, false⟩ }, rfl, HH.out.own.ret (by simp) (by simp; omega) (Nat.le_refl _) _ _ _, set_con HCP.out HQ.out (by unfold putC; rw [HCW.out]; rfl), by go_grown⟩
set_option maxRecDepth 100000 in
set_option maxHeartbeats 4000000 in
theorem impl_StoreCell (g : Ge) (A : Ar) (x : Ad) (e : Cl) (C' : Con) (w : World) (hg : storeA g A.con x (conC e) = C') (hA : IsAr w A) (ht : A.tot ≤ 1048576) (hI : IsInts .i64 w e.h.a e.h.n e.h.c e.ws) :
    Calls Try.prog 52 #[.agg #[.int .i64 g.gr, .int .i64 g.bk, .int .i64 g.rw, .int .i64 g.cl], .agg #[.slice A.a A.n A.c, .slice A.ag.1.a A.ag.1.n A.ag.1.c, .slice A.ht.1.a A.ht.1.n A.ht.1.c], .agg #[.int .i64 x.b, .int .i64 x.r, .int .i64 x.c], .agg #[.slice e.h.a e.h.n e.h.c, .bool e.p]] w (GotAr w C') := by
  have HA := hide hA; have HT := hide ht; have HG := hide hg
  clear hA ht hg
  have HI := hide hI; clear hI
  cases hok : arOk g A.con
  · have hq := HG.out
    unfold storeA at hq
    rw [if_neg (by rw [hok]; simp)] at hq
    have HC := hide hq
    clear hq HG
    go_enter Try.func52, Try.ntmps52
    go_wp2_with fail
    refine (impl_copyArray A _ (HA.out.below (B := w.heap.size) (by go_grown) (Nat.le_refl _)) HT.out).mono ?_
    rintro e w1 ⟨P, rfl, o1, hcp, h1⟩
    have s1 := h1.size
    try simp only [World.size_alloc, World.size_setCell, World.size_drew, World.heap_drewN] at s1
    have B1_1 := h1
    have z1_0 : w.heap.size < w1.heap.size := by omega
    have q1_0 := fun o => (bcell B1_1).1 (w.heap.size) o (by go_size)
    have f1_0 := fun o => (bcell B1_1).2 (w.heap.size) o (by go_size)
    have z1_1 : w.heap.size + 1 < w1.heap.size := by omega
    have q1_1 := fun o => (bcell B1_1).1 (w.heap.size + 1) o (by go_size)
    have f1_1 := fun o => (bcell B1_1).2 (w.heap.size + 1) o (by go_size)
    have z1_2 : w.heap.size + 1 + 1 < w1.heap.size := by omega
    have q1_2 := fun o => (bcell B1_1).1 (w.heap.size + 1 + 1) o (by go_size)
    have f1_2 := fun o => (bcell B1_1).2 (w.heap.size + 1 + 1) o (by go_size)
    have z1_3 : w.heap.size + 1 + 1 + 1 < w1.heap.size := by omega
    have q1_3 := fun o => (bcell B1_1).1 (w.heap.size + 1 + 1 + 1) o (by go_size)
    have f1_3 := fun o => (bcell B1_1).2 (w.heap.size + 1 + 1 + 1) o (by go_size)
    have z1_4 : w.heap.size + 1 + 1 + 1 + 1 < w1.heap.size := by omega
    have q1_4 := fun o => (bcell B1_1).1 (w.heap.size + 1 + 1 + 1 + 1) o (by go_size)
    have f1_4 := fun o => (bcell B1_1).2 (w.heap.size + 1 + 1 + 1 + 1) o (by go_size)
    have H1 : Below w.heap.size w w1 := bthen (by repeat' (first | (with_reducible exact Below.refl _ _) | (with_reducible assumption) | (with_reducible refine bdrawn ?_ _) | (with_reducible refine Below.alloc ?_ ?_ _) | (with_reducible refine Below.drew ?_) | (with_reducible refine Below.setCell ?_ ?_ _) | go_size)) h1 (by go_size)
    have C1 := (bcell H1).1; have F1 := (bcell H1).2
    have p := hide o1
    clear o1
    have HCP := hide hcp; clear hcp
    go_wp2_with fail
    refine (impl_ArrayOk g A false _ hok (HA.out.below (B := w.heap.size) (bthen H1 (Below.alloc (Below.refl _ _) (Nat.le_refl _) _) (by omega)) (Nat.le_refl _)) HT.out).mono ?_
    rintro e w2 ⟨rfl, h2⟩
    have s2 := h2.size
    try simp only [World.size_alloc, World.size_setCell, World.size_drew, World.heap_drewN] at s2
    have B2_1 := bnext (by first | (with_reducible exact B1_1) | exact (bgrow B1_1 (by go_size) (by repeat' (first | (with_reducible exact Below.refl _ _) | (with_reducible assumption) | (with_reducible refine bdrawn ?_ _) | (with_reducible refine Below.alloc ?_ ?_ _) | (with_reducible refine Below.drew ?_) | (with_reducible refine Below.setCell ?_ ?_ _) | go_size)))) h2 (by go_size)
    have B2_2 := h2
    have z2_0 : w.heap.size < w2.heap.size := by omega
    have q2_0 := fun o => (bcell B2_1).1 (w.heap.size) o (by go_size)
    have f2_0 := fun o => (bcell B2_1).2 (w.heap.size) o (by go_size)
    have z2_1 : w.heap.size + 1 < w2.heap.size := by omega
    have q2_1 := fun o => (bcell B2_1).1 (w.heap.size + 1) o (by go_size)
    have f2_1 := fun o => (bcell B2_1).2 (w.heap.size + 1) o (by go_size)
    have z2_2 : w.heap.size + 1 + 1 < w2.heap.size := by omega
    have q2_2 := fun o => (bcell B2_1).1 (w.heap.size + 1 + 1) o (by go_size)
    have f2_2 := fun o => (bcell B2_1).2 (w.heap.size + 1 + 1) o (by go_size)
    have z2_3 : w.heap.size + 1 + 1 + 1 < w2.heap.size := by omega
    have q2_3 := fun o => (bcell B2_1).1 (w.heap.size + 1 + 1 + 1) o (by go_size)
    have f2_3 := fun o => (bcell B2_1).2 (w.heap.size + 1 + 1 + 1) o (by go_size)
    have z2_4 : w.heap.size + 1 + 1 + 1 + 1 < w2.heap.size := by omega
    have q2_4 := fun o => (bcell B2_1).1 (w.heap.size + 1 + 1 + 1 + 1) o (by go_size)
    have f2_4 := fun o => (bcell B2_1).2 (w.heap.size + 1 + 1 + 1 + 1) o (by go_size)
    have z2_5 : w1.heap.size < w2.heap.size := by omega
    have q2_5 := fun o => (bcell B2_2).1 (w1.heap.size) o (by go_size)
    have f2_5 := fun o => (bcell B2_2).2 (w1.heap.size) o (by go_size)
    have H2 : Below w.heap.size w w2 := bthen (by repeat' (first | (with_reducible exact Below.refl _ _) | (with_reducible assumption) | (with_reducible refine bdrawn ?_ _) | (with_reducible refine Below.alloc ?_ ?_ _) | (with_reducible refine Below.drew ?_) | (with_reducible refine Below.setCell ?_ ?_ _) | go_size)) h2 (by go_size)
    have C2 := (bcell H2).1; have F2 := (bcell H2).2
    have P2 : Below w1.heap.size w1 w2 := bthen (by repeat' (first | (with_reducible exact Below.refl _ _) | (with_reducible assumption) | (with_reducible refine bdrawn ?_ _) | (with_reducible refine Below.alloc ?_ ?_ _) | (with_reducible refine Below.drew ?_) | (with_reducible refine Below.setCell ?_ ?_ _) | go_size)) h2 (by go_size)
    replace p := hide (p.out.below P2 (by omega))
    go_wp2_with fail
    refine bodyPost_ret (by simp [results, Try.results52, go_sem, *]; try rfl) rfl ?_
    exact ⟨P, rfl, p.out.ret (by simp) (by simp; omega) (by omega) _ _ _, HCP.out.trans HC.out, by go_grown⟩
  · cases hado : adOk g x
    · have hq := HG.out
      unfold storeA at hq
      rw [if_neg (by rw [hado]; simp)] at hq
      have HC := hide hq
      clear hq HG
      go_enter Try.func52, Try.ntmps52
      go_wp2_with fail
      refine (impl_copyArray A _ (HA.out.below (B := w.heap.size) (by go_grown) (Nat.le_refl _)) HT.out).mono ?_
      rintro e w1 ⟨P, rfl, o1, hcp, h1⟩
      have s1 := h1.size
      try simp only [World.size_alloc, World.size_setCell, World.size_drew, World.heap_drewN] at s1
      have B1_1 := h1
      have z1_0 : w.heap.size < w1.heap.size := by omega
      have q1_0 := fun o => (bcell B1_1).1 (w.heap.size) o (by go_size)
      have f1_0 := fun o => (bcell B1_1).2 (w.heap.size) o (by go_size)
      have z1_1 : w.heap.size + 1 < w1.heap.size := by omega
      have q1_1 := fun o => (bcell B1_1).1 (w.heap.size + 1) o (by go_size)
      have f1_1 := fun o => (bcell B1_1).2 (w.heap.size + 1) o (by go_size)
      have z1_2 : w.heap.size + 1 + 1 < w1.heap.size := by omega
      have q1_2 := fun o => (bcell B1_1).1 (w.heap.size + 1 + 1) o (by go_size)
      have f1_2 := fun o => (bcell B1_1).2 (w.heap.size + 1 + 1) o (by go_size)
      have z1_3 : w.heap.size + 1 + 1 + 1 < w1.heap.size := by omega
      have q1_3 := fun o => (bcell B1_1).1 (w.heap.size + 1 + 1 + 1) o (by go_size)
      have f1_3 := fun o => (bcell B1_1).2 (w.heap.size + 1 + 1 + 1) o (by go_size)
      have z1_4 : w.heap.size + 1 + 1 + 1 + 1 < w1.heap.size := by omega
      have q1_4 := fun o => (bcell B1_1).1 (w.heap.size + 1 + 1 + 1 + 1) o (by go_size)
      have f1_4 := fun o => (bcell B1_1).2 (w.heap.size + 1 + 1 + 1 + 1) o (by go_size)
      have H1 : Below w.heap.size w w1 := bthen (by repeat' (first | (with_reducible exact Below.refl _ _) | (with_reducible assumption) | (with_reducible refine bdrawn ?_ _) | (with_reducible refine Below.alloc ?_ ?_ _) | (with_reducible refine Below.drew ?_) | (with_reducible refine Below.setCell ?_ ?_ _) | go_size)) h1 (by go_size)
      have C1 := (bcell H1).1; have F1 := (bcell H1).2
      have p := hide o1
      clear o1
      have HCP := hide hcp; clear hcp
      go_wp2_with fail
      refine (impl_ArrayOk g A true _ hok (HA.out.below (B := w.heap.size) (bthen H1 (Below.alloc (Below.refl _ _) (Nat.le_refl _) _) (by omega)) (Nat.le_refl _)) HT.out).mono ?_
      rintro e w2 ⟨rfl, h2⟩
      have s2 := h2.size
      try simp only [World.size_alloc, World.size_setCell, World.size_drew, World.heap_drewN] at s2
      have B2_1 := bnext (by first | (with_reducible exact B1_1) | exact (bgrow B1_1 (by go_size) (by repeat' (first | (with_reducible exact Below.refl _ _) | (with_reducible assumption) | (with_reducible refine bdrawn ?_ _) | (with_reducible refine Below.alloc ?_ ?_ _) | (with_reducible refine Below.drew ?_) | (with_reducible refine Below.setCell ?_ ?_ _) | go_size)))) h2 (by go_size)
      have B2_2 := h2
      have z2_0 : w.heap.size < w2.heap.size := by omega
      have q2_0 := fun o => (bcell B2_1).1 (w.heap.size) o (by go_size)
      have f2_0 := fun o => (bcell B2_1).2 (w.heap.size) o (by go_size)
      have z2_1 : w.heap.size + 1 < w2.heap.size := by omega
      have q2_1 := fun o => (bcell B2_1).1 (w.heap.size + 1) o (by go_size)
      have f2_1 := fun o => (bcell B2_1).2 (w.heap.size + 1) o (by go_size)
      have z2_2 : w.heap.size + 1 + 1 < w2.heap.size := by omega
      have q2_2 := fun o => (bcell B2_1).1 (w.heap.size + 1 + 1) o (by go_size)
      have f2_2 := fun o => (bcell B2_1).2 (w.heap.size + 1 + 1) o (by go_size)
      have z2_3 : w.heap.size + 1 + 1 + 1 < w2.heap.size := by omega
      have q2_3 := fun o => (bcell B2_1).1 (w.heap.size + 1 + 1 + 1) o (by go_size)
      have f2_3 := fun o => (bcell B2_1).2 (w.heap.size + 1 + 1 + 1) o (by go_size)
      have z2_4 : w.heap.size + 1 + 1 + 1 + 1 < w2.heap.size := by omega
      have q2_4 := fun o => (bcell B2_1).1 (w.heap.size + 1 + 1 + 1 + 1) o (by go_size)
      have f2_4 := fun o => (bcell B2_1).2 (w.heap.size + 1 + 1 + 1 + 1) o (by go_size)
      have z2_5 : w1.heap.size < w2.heap.size := by omega
      have q2_5 := fun o => (bcell B2_2).1 (w1.heap.size) o (by go_size)
      have f2_5 := fun o => (bcell B2_2).2 (w1.heap.size) o (by go_size)
      have H2 : Below w.heap.size w w2 := bthen (by repeat' (first | (with_reducible exact Below.refl _ _) | (with_reducible assumption) | (with_reducible refine bdrawn ?_ _) | (with_reducible refine Below.alloc ?_ ?_ _) | (with_reducible refine Below.drew ?_) | (with_reducible refine Below.setCell ?_ ?_ _) | go_size)) h2 (by go_size)
      have C2 := (bcell H2).1; have F2 := (bcell H2).2
      have P2 : Below w1.heap.size w1 w2 := bthen (by repeat' (first | (with_reducible exact Below.refl _ _) | (with_reducible assumption) | (with_reducible refine bdrawn ?_ _) | (with_reducible refine Below.alloc ?_ ?_ _) | (with_reducible refine Below.drew ?_) | (with_reducible refine Below.setCell ?_ ?_ _) | go_size)) h2 (by go_size)
      replace p := hide (p.out.below P2 (by omega))
      go_wp2_with fail
      refine (impl_AddrOk g x false _ hado).mono ?_
      rintro e w3 ⟨rfl, h3⟩
      have s3 := h3.size
      try simp only [World.size_alloc, World.size_setCell, World.size_drew, World.heap_drewN] at s3
      have B3_1 := bnext (by first | (with_reducible exact B2_1) | exact (bgrow B2_1 (by go_size) (by repeat' (first | (with_reducible exact Below.refl _ _) | (with_reducible assumption) | (with_reducible refine bdrawn ?_ _) | (with_reducible refine Below.alloc ?_ ?_ _) | (with_reducible refine Below.drew ?_) | (with_reducible refine Below.setCell ?_ ?_ _) | go_size)))) h3 (by go_size)
      have B3_2 := bnext (by first | (with_reducible exact B2_2) | exact (bgrow B2_2 (by go_size) (by repeat' (first | (with_reducible exact Below.refl _ _) | (with_reducible assumption) | (with_reducible refine bdrawn ?_ _) | (with_reducible refine Below.alloc ?_ ?_ _) | (with_reducible refine Below.drew ?_) | (with_reducible refine Below.setCell ?_ ?_ _) | go_size)))) h3 (by go_size)
      have z3_0 : w.heap.size < w3.heap.size := by omega
      have q3_0 := fun o => (bcell B3_1).1 (w.heap.size) o (by go_size)
      have f3_0 := fun o => (bcell B3_1).2 (w.heap.size) o (by go_size)
      have z3_1 : w.heap.size + 1 < w3.heap.size := by omega
      have q3_1 := fun o => (bcell B3_1).1 (w.heap.size + 1) o (by go_size)
      have f3_1 := fun o => (bcell B3_1).2 (w.heap.size + 1) o (by go_size)
      have z3_2 : w.heap.size + 1 + 1 < w3.heap.size := by omega
      have q3_2 := fun o => (bcell B3_1).1 (w.heap.size + 1 + 1) o (by go_size)
      have f3_2 := fun o => (bcell B3_1).2 (w.heap.size + 1 + 1) o (by go_size)
      have z3_3 : w.heap.size + 1 + 1 + 1 < w3.heap.size := by omega
      have q3_3 := fun o => (bcell B3_1).1 (w.heap.size + 1 + 1 + 1) o (by go_size)
      have f3_3 := fun o => (bcell B3_1).2 (w.heap.size + 1 + 1 + 1) o (by go_size)
      have z3_4 : w.heap.size + 1 + 1 + 1 + 1 < w3.heap.size := by omega
      have q3_4 := fun o => (bcell B3_1).1 (w.heap.size + 1 + 1 + 1 + 1) o (by go_size)
      have f3_4 := fun o => (bcell B3_1).2 (w.heap.size + 1 + 1 + 1 + 1) o (by go_size)
      have z3_5 : w1.heap.size < w3.heap.size := by omega
      have q3_5 := fun o => (bcell B3_2).1 (w1.heap.size) o (by go_size)
      have f3_5 := fun o => (bcell B3_2).2 (w1.heap.size) o (by go_size)
      have H3 : Below w.heap.size w w3 := bthen (by repeat' (first | (with_reducible exact Below.refl _ _) | (with_reducible assumption) | (with_reducible refine bdrawn ?_ _) | (with_reducible refine Below.alloc ?_ ?_ _) | (with_reducible refine Below.drew ?_) | (with_reducible refine Below.setCell ?_ ?_ _) | go_size)) h3 (by go_size)
      have C3 := (bcell H3).1; have F3 := (bcell H3).2
      have P3 : Below w2.heap.size w2 w3 := bthen (by repeat' (first | (with_reducible exact Below.refl _ _) | (with_reducible assumption) | (with_reducible refine bdrawn ?_ _) | (with_reducible refine Below.alloc ?_ ?_ _) | (with_reducible refine Below.drew ?_) | (with_reducible refine Below.setCell ?_ ?_ _) | go_size)) h3 (by go_size)
      replace p := hide (p.out.below P3 (by omega))
      go_wp2_with fail
      refine bodyPost_ret (by simp [results, Try.results52, go_sem, *]; try rfl) rfl ?_
      exact ⟨P, rfl, p.out.ret (by simp) (by simp; omega) (by omega) _ _ _, HCP.out.trans HC.out, by go_grown⟩
    · cases hsy : symOkB e.ws 11
      · have hq := HG.out
        unfold storeA at hq
        rw [if_neg (by simp only [hok, hado, Bool.true_and]; rw [show symOkB (conC e).1 11 = false from hsy]; simp)] at hq
        have HC := hide hq
        clear hq HG
        go_enter Try.func52, Try.ntmps52
        go_wp2_with fail
        refine (impl_copyArray A _ (HA.out.below (B := w.heap.size) (by go_grown) (Nat.le_refl _)) HT.out).mono ?_
        rintro e w1 ⟨P, rfl, o1, hcp, h1⟩
        have s1 := h1.size
        try simp only [World.size_alloc, World.size_setCell, World.size_drew, World.heap_drewN] at s1
        have B1_1 := h1
        have z1_0 : w.heap.size < w1.heap.size := by omega
        have q1_0 := fun o => (bcell B1_1).1 (w.heap.size) o (by go_size)
        have f1_0 := fun o => (bcell B1_1).2 (w.heap.size) o (by go_size)
        have z1_1 : w.heap.size + 1 < w1.heap.size := by omega
        have q1_1 := fun o => (bcell B1_1).1 (w.heap.size + 1) o (by go_size)
        have f1_1 := fun o => (bcell B1_1).2 (w.heap.size + 1) o (by go_size)
        have z1_2 : w.heap.size + 1 + 1 < w1.heap.size := by omega
        have q1_2 := fun o => (bcell B1_1).1 (w.heap.size + 1 + 1) o (by go_size)
        have f1_2 := fun o => (bcell B1_1).2 (w.heap.size + 1 + 1) o (by go_size)
        have z1_3 : w.heap.size + 1 + 1 + 1 < w1.heap.size := by omega
        have q1_3 := fun o => (bcell B1_1).1 (w.heap.size + 1 + 1 + 1) o (by go_size)
        have f1_3 := fun o => (bcell B1_1).2 (w.heap.size + 1 + 1 + 1) o (by go_size)
        have z1_4 : w.heap.size + 1 + 1 + 1 + 1 < w1.heap.size := by omega
        have q1_4 := fun o => (bcell B1_1).1 (w.heap.size + 1 + 1 + 1 + 1) o (by go_size)
        have f1_4 := fun o => (bcell B1_1).2 (w.heap.size + 1 + 1 + 1 + 1) o (by go_size)
        have H1 : Below w.heap.size w w1 := bthen (by repeat' (first | (with_reducible exact Below.refl _ _) | (with_reducible assumption) | (with_reducible refine bdrawn ?_ _) | (with_reducible refine Below.alloc ?_ ?_ _) | (with_reducible refine Below.drew ?_) | (with_reducible refine Below.setCell ?_ ?_ _) | go_size)) h1 (by go_size)
        have C1 := (bcell H1).1; have F1 := (bcell H1).2
        have p := hide o1
        clear o1
        have HCP := hide hcp; clear hcp
        go_wp2_with fail
        refine (impl_ArrayOk g A true _ hok (HA.out.below (B := w.heap.size) (bthen H1 (Below.alloc (Below.refl _ _) (Nat.le_refl _) _) (by omega)) (Nat.le_refl _)) HT.out).mono ?_
        rintro e w2 ⟨rfl, h2⟩
        have s2 := h2.size
        try simp only [World.size_alloc, World.size_setCell, World.size_drew, World.heap_drewN] at s2
        have B2_1 := bnext (by first | (with_reducible exact B1_1) | exact (bgrow B1_1 (by go_size) (by repeat' (first | (with_reducible exact Below.refl _ _) | (with_reducible assumption) | (with_reducible refine bdrawn ?_ _) | (with_reducible refine Below.alloc ?_ ?_ _) | (with_reducible refine Below.drew ?_) | (with_reducible refine Below.setCell ?_ ?_ _) | go_size)))) h2 (by go_size)
        have B2_2 := h2
        have z2_0 : w.heap.size < w2.heap.size := by omega
        have q2_0 := fun o => (bcell B2_1).1 (w.heap.size) o (by go_size)
        have f2_0 := fun o => (bcell B2_1).2 (w.heap.size) o (by go_size)
        have z2_1 : w.heap.size + 1 < w2.heap.size := by omega
        have q2_1 := fun o => (bcell B2_1).1 (w.heap.size + 1) o (by go_size)
        have f2_1 := fun o => (bcell B2_1).2 (w.heap.size + 1) o (by go_size)
        have z2_2 : w.heap.size + 1 + 1 < w2.heap.size := by omega
        have q2_2 := fun o => (bcell B2_1).1 (w.heap.size + 1 + 1) o (by go_size)
        have f2_2 := fun o => (bcell B2_1).2 (w.heap.size + 1 + 1) o (by go_size)
        have z2_3 : w.heap.size + 1 + 1 + 1 < w2.heap.size := by omega
        have q2_3 := fun o => (bcell B2_1).1 (w.heap.size + 1 + 1 + 1) o (by go_size)
        have f2_3 := fun o => (bcell B2_1).2 (w.heap.size + 1 + 1 + 1) o (by go_size)
        have z2_4 : w.heap.size + 1 + 1 + 1 + 1 < w2.heap.size := by omega
        have q2_4 := fun o => (bcell B2_1).1 (w.heap.size + 1 + 1 + 1 + 1) o (by go_size)
        have f2_4 := fun o => (bcell B2_1).2 (w.heap.size + 1 + 1 + 1 + 1) o (by go_size)
        have z2_5 : w1.heap.size < w2.heap.size := by omega
        have q2_5 := fun o => (bcell B2_2).1 (w1.heap.size) o (by go_size)
        have f2_5 := fun o => (bcell B2_2).2 (w1.heap.size) o (by go_size)
        have H2 : Below w.heap.size w w2 := bthen (by repeat' (first | (with_reducible exact Below.refl _ _) | (with_reducible assumption) | (with_reducible refine bdrawn ?_ _) | (with_reducible refine Below.alloc ?_ ?_ _) | (with_reducible refine Below.drew ?_) | (with_reducible refine Below.setCell ?_ ?_ _) | go_size)) h2 (by go_size)
        have C2 := (bcell H2).1; have F2 := (bcell H2).2
        have P2 : Below w1.heap.size w1 w2 := bthen (by repeat' (first | (with_reducible exact Below.refl _ _) | (with_reducible assumption) | (with_reducible refine bdrawn ?_ _) | (with_reducible refine Below.alloc ?_ ?_ _) | (with_reducible refine Below.drew ?_) | (with_reducible refine Below.setCell ?_ ?_ _) | go_size)) h2 (by go_size)
        replace p := hide (p.out.below P2 (by omega))
        go_wp2_with fail
        refine (impl_AddrOk g x true _ hado).mono ?_
        rintro e w3 ⟨rfl, h3⟩
        have s3 := h3.size
        try simp only [World.size_alloc, World.size_setCell, World.size_drew, World.heap_drewN] at s3
        have B3_1 := bnext (by first | (with_reducible exact B2_1) | exact (bgrow B2_1 (by go_size) (by repeat' (first | (with_reducible exact Below.refl _ _) | (with_reducible assumption) | (with_reducible refine bdrawn ?_ _) | (with_reducible refine Below.alloc ?_ ?_ _) | (with_reducible refine Below.drew ?_) | (with_reducible refine Below.setCell ?_ ?_ _) | go_size)))) h3 (by go_size)
        have B3_2 := bnext (by first | (with_reducible exact B2_2) | exact (bgrow B2_2 (by go_size) (by repeat' (first | (with_reducible exact Below.refl _ _) | (with_reducible assumption) | (with_reducible refine bdrawn ?_ _) | (with_reducible refine Below.alloc ?_ ?_ _) | (with_reducible refine Below.drew ?_) | (with_reducible refine Below.setCell ?_ ?_ _) | go_size)))) h3 (by go_size)
        have z3_0 : w.heap.size < w3.heap.size := by omega
        have q3_0 := fun o => (bcell B3_1).1 (w.heap.size) o (by go_size)
        have f3_0 := fun o => (bcell B3_1).2 (w.heap.size) o (by go_size)
        have z3_1 : w.heap.size + 1 < w3.heap.size := by omega
        have q3_1 := fun o => (bcell B3_1).1 (w.heap.size + 1) o (by go_size)
        have f3_1 := fun o => (bcell B3_1).2 (w.heap.size + 1) o (by go_size)
        have z3_2 : w.heap.size + 1 + 1 < w3.heap.size := by omega
        have q3_2 := fun o => (bcell B3_1).1 (w.heap.size + 1 + 1) o (by go_size)
        have f3_2 := fun o => (bcell B3_1).2 (w.heap.size + 1 + 1) o (by go_size)
        have z3_3 : w.heap.size + 1 + 1 + 1 < w3.heap.size := by omega
        have q3_3 := fun o => (bcell B3_1).1 (w.heap.size + 1 + 1 + 1) o (by go_size)
        have f3_3 := fun o => (bcell B3_1).2 (w.heap.size + 1 + 1 + 1) o (by go_size)
        have z3_4 : w.heap.size + 1 + 1 + 1 + 1 < w3.heap.size := by omega
        have q3_4 := fun o => (bcell B3_1).1 (w.heap.size + 1 + 1 + 1 + 1) o (by go_size)
        have f3_4 := fun o => (bcell B3_1).2 (w.heap.size + 1 + 1 + 1 + 1) o (by go_size)
        have z3_5 : w1.heap.size < w3.heap.size := by omega
        have q3_5 := fun o => (bcell B3_2).1 (w1.heap.size) o (by go_size)
        have f3_5 := fun o => (bcell B3_2).2 (w1.heap.size) o (by go_size)
        have H3 : Below w.heap.size w w3 := bthen (by repeat' (first | (with_reducible exact Below.refl _ _) | (with_reducible assumption) | (with_reducible refine bdrawn ?_ _) | (with_reducible refine Below.alloc ?_ ?_ _) | (with_reducible refine Below.drew ?_) | (with_reducible refine Below.setCell ?_ ?_ _) | go_size)) h3 (by go_size)
        have C3 := (bcell H3).1; have F3 := (bcell H3).2
        have P3 : Below w2.heap.size w2 w3 := bthen (by repeat' (first | (with_reducible exact Below.refl _ _) | (with_reducible assumption) | (with_reducible refine bdrawn ?_ _) | (with_reducible refine Below.alloc ?_ ?_ _) | (with_reducible refine Below.drew ?_) | (with_reducible refine Below.setCell ?_ ?_ _) | go_size)) h3 (by go_size)
        replace p := hide (p.out.below P3 (by omega))
        go_wp2_with (go_at_call 71; refine (impl_SymbolsOk _ _ _ e.ws 11 false _ hsy (HI.out.below (B := w.heap.size) (by assumption) (Nat.le_refl _))).mono ?_; rintro ey wy ⟨rfl, rfl⟩)
        refine bodyPost_ret (by simp [results, Try.results52, go_sem, *]; try rfl) rfl ?_
        exact ⟨P, rfl, p.out.ret (by simp) (by simp; omega) (by omega) _ _ _, HCP.out.trans HC.out, by go_grown⟩
      · have hq := HG.out
        unfold storeA at hq
        rw [if_pos (by simp only [hok, hado, Bool.true_and]; exact hsy)] at hq
        obtain ⟨hi0, hi1⟩ := adIdx_bd hado
        have hlc := (arOk_of hok).2.1
        obtain ⟨k, hk⟩ : ∃ k : Nat, adIdx g x = (k : Int) := ⟨(adIdx g x).toNat, by omega⟩
        rw [hk, Int.toNat_natCast] at hq
        have hkl : k < A.con.cs.length := by omega
        have HK := hide hk; have HQ := hide hq; have HKL := hide hkl
        clear hq hi0 hi1 hlc HG hk hkl
        have hen : e.h.n ≤ 1048576 := by have h1 := (symOk_of (n := 11) hsy).2.2.2; have h2 := HI.out.1; omega
        go_enter Try.func52, Try.ntmps52
        go_wp2_with fail
        refine (impl_copyArray A _ (HA.out.below (B := w.heap.size) (by go_grown) (Nat.le_refl _)) HT.out).mono ?_
        rintro e w1 ⟨P, rfl, o1, hcp, h1⟩
        have s1 := h1.size
        try simp only [World.size_alloc, World.size_setCell, World.size_drew, World.heap_drewN] at s1
        have B1_1 := h1
        have z1_0 : w.heap.size < w1.heap.size := by omega
        have q1_0 := fun o => (bcell B1_1).1 (w.heap.size) o (by go_size)
        have f1_0 := fun o => (bcell B1_1).2 (w.heap.size) o (by go_size)
        have z1_1 : w.heap.size + 1 < w1.heap.size := by omega
        have q1_1 := fun o => (bcell B1_1).1 (w.heap.size + 1) o (by go_size)
        have f1_1 := fun o => (bcell B1_1).2 (w.heap.size + 1) o (by go_size)
        have z1_2 : w.heap.size + 1 + 1 < w1.heap.size := by omega
        have q1_2 := fun o => (bcell B1_1).1 (w.heap.size + 1 + 1) o (by go_size)
        have f1_2 := fun o => (bcell B1_1).2 (w.heap.size + 1 + 1) o (by go_size)
        have z1_3 : w.heap.size + 1 + 1 + 1 < w1.heap.size := by omega
        have q1_3 := fun o => (bcell B1_1).1 (w.heap.size + 1 + 1 + 1) o (by go_size)
        have f1_3 := fun o => (bcell B1_1).2 (w.heap.size + 1 + 1 + 1) o (by go_size)
        have z1_4 : w.heap.size + 1 + 1 + 1 + 1 < w1.heap.size := by omega
        have q1_4 := fun o => (bcell B1_1).1 (w.heap.size + 1 + 1 + 1 + 1) o (by go_size)
        have f1_4 := fun o => (bcell B1_1).2 (w.heap.size + 1 + 1 + 1 + 1) o (by go_size)
        have H1 : Below w.heap.size w w1 := bthen (by repeat' (first | (with_reducible exact Below.refl _ _) | (with_reducible assumption) | (with_reducible refine bdrawn ?_ _) | (with_reducible refine Below.alloc ?_ ?_ _) | (with_reducible refine Below.drew ?_) | (with_reducible refine Below.setCell ?_ ?_ _) | go_size)) h1 (by go_size)
        have C1 := (bcell H1).1; have F1 := (bcell H1).2
        have p := hide o1
        clear o1
        have HCP := hide hcp; clear hcp
        go_wp2_with fail
        refine (impl_ArrayOk g A true _ hok (HA.out.below (B := w.heap.size) (bthen H1 (Below.alloc (Below.refl _ _) (Nat.le_refl _) _) (by omega)) (Nat.le_refl _)) HT.out).mono ?_
        rintro e w2 ⟨rfl, h2⟩
        have s2 := h2.size
        try simp only [World.size_alloc, World.size_setCell, World.size_drew, World.heap_drewN] at s2
        have B2_1 := bnext (by first | (with_reducible exact B1_1) | exact (bgrow B1_1 (by go_size) (by repeat' (first | (with_reducible exact Below.refl _ _) | (with_reducible assumption) | (with_reducible refine bdrawn ?_ _) | (with_reducible refine Below.alloc ?_ ?_ _) | (with_reducible refine Below.drew ?_) | (with_reducible refine Below.setCell ?_ ?_ _) | go_size)))) h2 (by go_size)
        have B2_2 := h2
        have z2_0 : w.heap.size < w2.heap.size := by omega
        have q2_0 := fun o => (bcell B2_1).1 (w.heap.size) o (by go_size)
        have f2_0 := fun o => (bcell B2_1).2 (w.heap.size) o (by go_size)
        have z2_1 : w.heap.size + 1 < w2.heap.size := by omega
        have q2_1 := fun o => (bcell B2_1).1 (w.heap.size + 1) o (by go_size)
        have f2_1 := fun o => (bcell B2_1).2 (w.heap.size + 1) o (by go_size)
        have z2_2 : w.heap.size + 1 + 1 < w2.heap.size := by omega
        have q2_2 := fun o => (bcell B2_1).1 (w.heap.size + 1 + 1) o (by go_size)
        have f2_2 := fun o => (bcell B2_1).2 (w.heap.size + 1 + 1) o (by go_size)
        have z2_3 : w.heap.size + 1 + 1 + 1 < w2.heap.size := by omega
        have q2_3 := fun o => (bcell B2_1).1 (w.heap.size + 1 + 1 + 1) o (by go_size)
        have f2_3 := fun o => (bcell B2_1).2 (w.heap.size + 1 + 1 + 1) o (by go_size)
        have z2_4 : w.heap.size + 1 + 1 + 1 + 1 < w2.heap.size := by omega
        have q2_4 := fun o => (bcell B2_1).1 (w.heap.size + 1 + 1 + 1 + 1) o (by go_size)
        have f2_4 := fun o => (bcell B2_1).2 (w.heap.size + 1 + 1 + 1 + 1) o (by go_size)
        have z2_5 : w1.heap.size < w2.heap.size := by omega
        have q2_5 := fun o => (bcell B2_2).1 (w1.heap.size) o (by go_size)
        have f2_5 := fun o => (bcell B2_2).2 (w1.heap.size) o (by go_size)
        have H2 : Below w.heap.size w w2 := bthen (by repeat' (first | (with_reducible exact Below.refl _ _) | (with_reducible assumption) | (with_reducible refine bdrawn ?_ _) | (with_reducible refine Below.alloc ?_ ?_ _) | (with_reducible refine Below.drew ?_) | (with_reducible refine Below.setCell ?_ ?_ _) | go_size)) h2 (by go_size)
        have C2 := (bcell H2).1; have F2 := (bcell H2).2
        have P2 : Below w1.heap.size w1 w2 := bthen (by repeat' (first | (with_reducible exact Below.refl _ _) | (with_reducible assumption) | (with_reducible refine bdrawn ?_ _) | (with_reducible refine Below.alloc ?_ ?_ _) | (with_reducible refine Below.drew ?_) | (with_reducible refine Below.setCell ?_ ?_ _) | go_size)) h2 (by go_size)
        replace p := hide (p.out.below P2 (by omega))
        go_wp2_with fail
        refine (impl_AddrOk g x true _ hado).mono ?_
        rintro e w3 ⟨rfl, h3⟩
        have s3 := h3.size
        try simp only [World.size_alloc, World.size_setCell, World.size_drew, World.heap_drewN] at s3
        have B3_1 := bnext (by first | (with_reducible exact B2_1) | exact (bgrow B2_1 (by go_size) (by repeat' (first | (with_reducible exact Below.refl _ _) | (with_reducible assumption) | (with_reducible refine bdrawn ?_ _) | (with_reducible refine Below.alloc ?_ ?_ _) | (with_reducible refine Below.drew ?_) | (with_reducible refine Below.setCell ?_ ?_ _) | go_size)))) h3 (by go_size)
        have B3_2 := bnext (by first | (with_reducible exact B2_2) | exact (bgrow B2_2 (by go_size) (by repeat' (first | (with_reducible exact Below.refl _ _) | (with_reducible assumption) | (with_reducible refine bdrawn ?_ _) | (with_reducible refine Below.alloc ?_ ?_ _) | (with_reducible refine Below.drew ?_) | (with_reducible refine Below.setCell ?_ ?_ _) | go_size)))) h3 (by go_size)
        have z3_0 : w.heap.size < w3.heap.size := by omega
        have q3_0 := fun o => (bcell B3_1).1 (w.heap.size) o (by go_size)
        have f3_0 := fun o => (bcell B3_1).2 (w.heap.size) o (by go_size)
        have z3_1 : w.heap.size + 1 < w3.heap.size := by omega
        have q3_1 := fun o => (bcell B3_1).1 (w.heap.size + 1) o (by go_size)
        have f3_1 := fun o => (bcell B3_1).2 (w.heap.size + 1) o (by go_size)
        have z3_2 : w.heap.size + 1 + 1 < w3.heap.size := by omega
        have q3_2 := fun o => (bcell B3_1).1 (w.heap.size + 1 + 1) o (by go_size)
        have f3_2 := fun o => (bcell B3_1).2 (w.heap.size + 1 + 1) o (by go_size)
        have z3_3 : w.heap.size + 1 + 1 + 1 < w3.heap.size := by omega
        have q3_3 := fun o => (bcell B3_1).1 (w.heap.size + 1 + 1 + 1) o (by go_size)
        have f3_3 := fun o => (bcell B3_1).2 (w.heap.size + 1 + 1 + 1) o (by go_size)
        have z3_4 : w.heap.size + 1 + 1 + 1 + 1 < w3.heap.size := by omega
        have q3_4 := fun o => (bcell B3_1).1 (w.heap.size + 1 + 1 + 1 + 1) o (by go_size)
        have f3_4 := fun o => (bcell B3_1).2 (w.heap.size + 1 + 1 + 1 + 1) o (by go_size)
        have z3_5 : w1.heap.size < w3.heap.size := by omega
        have q3_5 := fun o => (bcell B3_2).1 (w1.heap.size) o (by go_size)
        have f3_5 := fun o => (bcell B3_2).2 (w1.heap.size) o (by go_size)
        have H3 : Below w.heap.size w w3 := bthen (by repeat' (first | (with_reducible exact Below.refl _ _) | (with_reducible assumption) | (with_reducible refine bdrawn ?_ _) | (with_reducible refine Below.alloc ?_ ?_ _) | (with_reducible refine Below.drew ?_) | (with_reducible refine Below.setCell ?_ ?_ _) | go_size)) h3 (by go_size)
        have C3 := (bcell H3).1; have F3 := (bcell H3).2
        have P3 : Below w2.heap.size w2 w3 := bthen (by repeat' (first | (with_reducible exact Below.refl _ _) | (with_reducible assumption) | (with_reducible refine bdrawn ?_ _) | (with_reducible refine Below.alloc ?_ ?_ _) | (with_reducible refine Below.drew ?_) | (with_reducible refine Below.setCell ?_ ?_ _) | go_size)) h3 (by go_size)
        replace p := hide (p.out.below P3 (by omega))
        have hF := Half.of (p := w1.heap.size) p.out (by omega) ((B3_2.block w1.heap.size (by simp)).trans (alloc_at _ _ _ rfl)) (.inr (Nat.le_refl _))
        obtain ⟨f, hf, _⟩ := con_at HCP.out HKL.out
        obtain ⟨gg, hga, hg1, hg2, hkn, hgp, d0, d1, df, _⟩ := half_cell hF hf
        have HF := hide hF; have HFE := hide hf; have HGA := hide hga
        simp only [World.size_alloc] at hg1
        clear q2_5 q3_5 f2_5 f3_5
        have gbg0 : w3.cell? ⟨w.heap.size, 0, none⟩ = some (.int .i64 g.gr) := by rw [q3_0 0, World.cell?_alloc_lt _ _ _ (by simp; try omega), World.cell?_alloc_lt _ _ _ (by simp; try omega), World.cell?_alloc_lt _ _ _ (by simp; try omega), World.cell?_alloc_lt _ _ _ (by simp; try omega)]; exact (cell_blk (alloc_at _ _ _ (by simp)) 0).trans rfl
        have gbg1 : w3.cell? ⟨w.heap.size, 1, none⟩ = some (.int .i64 g.bk) := by rw [q3_0 1, World.cell?_alloc_lt _ _ _ (by simp; try omega), World.cell?_alloc_lt _ _ _ (by simp; try omega), World.cell?_alloc_lt _ _ _ (by simp; try omega), World.cell?_alloc_lt _ _ _ (by simp; try omega)]; exact (cell_blk (alloc_at _ _ _ (by simp)) 1).trans rfl
        have gbg2 : w3.cell? ⟨w.heap.size, 2, none⟩ = some (.int .i64 g.rw) := by rw [q3_0 2, World.cell?_alloc_lt _ _ _ (by simp; try omega), World.cell?_alloc_lt _ _ _ (by simp; try omega), World.cell?_alloc_lt _ _ _ (by simp; try omega), World.cell?_alloc_lt _ _ _ (by simp; try omega)]; exact (cell_blk (alloc_at _ _ _ (by simp)) 2).trans rfl
        have gbg3 : w3.cell? ⟨w.heap.size, 3, none⟩ = some (.int .i64 g.cl) := by rw [q3_0 3, World.cell?_alloc_lt _ _ _ (by simp; try omega), World.cell?_alloc_lt _ _ _ (by simp; try omega), World.cell?_alloc_lt _ _ _ (by simp; try omega), World.cell?_alloc_lt _ _ _ (by simp; try omega)]; exact (cell_blk (alloc_at _ _ _ (by simp)) 3).trans rfl
        have gbx0 : w3.cell? ⟨w.heap.size + 1 + 1, 0, none⟩ = some (.int .i64 x.b) := by rw [q3_2 0, World.cell?_alloc_lt _ _ _ (by simp; try omega), World.cell?_alloc_lt _ _ _ (by simp; try omega)]; exact (cell_blk (alloc_at _ _ _ (by simp)) 0).trans rfl
        have gbx1 : w3.cell? ⟨w.heap.size + 1 + 1, 1, none⟩ = some (.int .i64 x.r) := by rw [q3_2 1, World.cell?_alloc_lt _ _ _ (by simp; try omega), World.cell?_alloc_lt _ _ _ (by simp; try omega)]; exact (cell_blk (alloc_at _ _ _ (by simp)) 1).trans rfl
        have gbx2 : w3.cell? ⟨w.heap.size + 1 + 1, 2, none⟩ = some (.int .i64 x.c) := by rw [q3_2 2, World.cell?_alloc_lt _ _ _ (by simp; try omega), World.cell?_alloc_lt _ _ _ (by simp; try omega)]; exact (cell_blk (alloc_at _ _ _ (by simp)) 2).trans rfl
        have gbe0 : w3.cell? ⟨w.heap.size + 1 + 1 + 1, 0, none⟩ = some (.slice e.h.a e.h.n e.h.c) := by rw [q3_3 0, World.cell?_alloc_lt _ _ _ (by simp; try omega)]; exact (cell_blk (alloc_at _ _ _ (by simp)) 0).trans rfl
        have gbe1 : w3.cell? ⟨w.heap.size + 1 + 1 + 1, 1, none⟩ = some (.bool e.p) := by rw [q3_3 1, World.cell?_alloc_lt _ _ _ (by simp; try omega)]; exact (cell_blk (alloc_at _ _ _ (by simp)) 1).trans rfl
        clear q1_0 q2_0 q3_0 q1_2 q2_2 q3_2
        clear q1_3 q2_3 q3_3
        have hcap := caps_n p.out
        have hc1 := hcap.1; have hc2 := hcap.2
        have i0 : (0 : Int) ≤ (k : Int) := by omega
        have i1 : (k : Int) < (P.n : Int) := by omega
        have hH3 := hide H3
        have ng := hide hgp
        have hpl := hF.lt
        have c0 : w3.cell? ⟨w1.heap.size, 0, none⟩ = some (.slice P.a P.n P.c) := cell_blk hF.blk 0
        rw [hga] at c0
        clear hF hf hga hcap
        have n1 : ¬ gg = w1.heap.size := hgp
        have n2 : ¬ w1.heap.size = gg := fun e => hgp e.symm
        have m0 : ¬ gg = w.heap.size := by omega
        have l0 : ¬ w.heap.size = gg := by omega
        have o09 : w.heap.size < w3.heap.size := by omega
        have m1 : ¬ gg = w.heap.size + 1 := by omega
        have l1 : ¬ w.heap.size + 1 = gg := by omega
        have o19 : w.heap.size + 1 < w3.heap.size := by omega
        have m2 : ¬ gg = w.heap.size + 1 + 1 := by omega
        have l2 : ¬ w.heap.size + 1 + 1 = gg := by omega
        have o29 : w.heap.size + 1 + 1 < w3.heap.size := by omega
        have m3 : ¬ gg = w.heap.size + 1 + 1 + 1 := by omega
        have l3 : ¬ w.heap.size + 1 + 1 + 1 = gg := by omega
        have o39 : w.heap.size + 1 + 1 + 1 < w3.heap.size := by omega
        have m4 : ¬ gg = w.heap.size + 1 + 1 + 1 + 1 := by omega
        have l4 : ¬ w.heap.size + 1 + 1 + 1 + 1 = gg := by omega
        have o49 : w.heap.size + 1 + 1 + 1 + 1 < w3.heap.size := by omega
        go_wp2_with (go_at_call 71; refine (impl_SymbolsOk _ _ _ e.ws 11 true _ hsy (HI.out.below (B := w.heap.size) (by assumption) (Nat.le_refl _))).mono ?_; rintro ey wy ⟨rfl, rfl⟩)
        go_region_held3 (fun v => v.cell? ⟨w1.heap.size, 0, none⟩ = some (.slice (some ⟨gg, 0, none⟩) P.n P.c) ∧ v.cell? ⟨w.heap.size, 0, none⟩ = some (.int .i64 g.gr) ∧ v.cell? ⟨w.heap.size, 1, none⟩ = some (.int .i64 g.bk) ∧ v.cell? ⟨w.heap.size, 2, none⟩ = some (.int .i64 g.rw) ∧ v.cell? ⟨w.heap.size, 3, none⟩ = some (.int .i64 g.cl) ∧ v.cell? ⟨w.heap.size + 1 + 1, 0, none⟩ = some (.int .i64 x.b) ∧ v.cell? ⟨w.heap.size + 1 + 1, 1, none⟩ = some (.int .i64 x.r) ∧ v.cell? ⟨w.heap.size + 1 + 1, 2, none⟩ = some (.int .i64 x.c) ∧ v.cell? ⟨w.heap.size + 1 + 1 + 1, 0, none⟩ = some (.slice e.h.a e.h.n e.h.c) ∧ v.cell? ⟨w.heap.size + 1 + 1 + 1, 1, none⟩ = some (.bool e.p)) (first | go_keep | simp [go_sem, *]) (first | (go_at_call 58; refine (impl_AddrIndex g x (k : Nat) _ hado HK.out).mono ?_; rintro ex y1 ⟨rfl, hy9⟩; first | (have hY : Below w3.heap.size w3 y1 := below_drew hy9; clear hy9; have s_y := hY.size; have p_y := ((bcell hY).1 w1.heap.size 0 (by omega)).trans c0; have a_y := ((bcell hY).1 gg (k * 2) (by omega)).trans d0; have b_y := ((bcell hY).1 gg (k * 2 + 1) (by omega)).trans d1; have f_y := fun o => ((bcell hY).2 gg o (by omega)).trans (df o); have x0_y := fun o => (bcell hY).1 (w.heap.size) o (by omega); have z0_y := fun o => (bcell hY).2 (w.heap.size) o (by omega); have x1_y := fun o => (bcell hY).1 (w.heap.size + 1) o (by omega); have z1_y := fun o => (bcell hY).2 (w.heap.size + 1) o (by omega); have x2_y := fun o => (bcell hY).1 (w.heap.size + 1 + 1) o (by omega); have z2_y := fun o => (bcell hY).2 (w.heap.size + 1 + 1) o (by omega); have x3_y := fun o => (bcell hY).1 (w.heap.size + 1 + 1 + 1) o (by omega); have z3_y := fun o => (bcell hY).2 (w.heap.size + 1 + 1 + 1) o (by omega); have x4_y := fun o => (bcell hY).1 (w.heap.size + 1 + 1 + 1 + 1) o (by omega); have z4_y := fun o => (bcell hY).2 (w.heap.size + 1 + 1 + 1 + 1) o (by omega)) | (have hY : Below w3.heap.size w3 y1 := bthen hZ hy9 hZ.size; have HR2 := hide (HR.out.1.below hy9 (Nat.le_refl _)); clear hy9; have s_y := hY.size; have p_y := ((bcell hY).1 w1.heap.size 0 (by omega)).trans c0; have a_y := ((bcell hY).1 gg (k * 2) (by omega)).trans d0; have b_y := ((bcell hY).1 gg (k * 2 + 1) (by omega)).trans d1; have f_y := fun o => ((bcell hY).2 gg o (by omega)).trans (df o); have x0_y := fun o => (bcell hY).1 (w.heap.size) o (by omega); have z0_y := fun o => (bcell hY).2 (w.heap.size) o (by omega); have x1_y := fun o => (bcell hY).1 (w.heap.size + 1) o (by omega); have z1_y := fun o => (bcell hY).2 (w.heap.size + 1) o (by omega); have x2_y := fun o => (bcell hY).1 (w.heap.size + 1 + 1) o (by omega); have z2_y := fun o => (bcell hY).2 (w.heap.size + 1 + 1) o (by omega); have x3_y := fun o => (bcell hY).1 (w.heap.size + 1 + 1 + 1) o (by omega); have z3_y := fun o => (bcell hY).2 (w.heap.size + 1 + 1 + 1) o (by omega); have x4_y := fun o => (bcell hY).1 (w.heap.size + 1 + 1 + 1 + 1) o (by omega); have z4_y := fun o => (bcell hY).2 (w.heap.size + 1 + 1 + 1 + 1) o (by omega))) | (go_at_call 80; first | (refine (impl_copyCell _ _ _ e.ws e.p _ (HI.out.below (B := w.heap.size) (hH3.out.drew) (Nat.le_refl _)) hen).mono ?_; rintro ex z1 ⟨az, cz, rfl, ho9, hz9⟩; have hZ : Below w3.heap.size w3 z1 := below_drew hz9; have HR := hide (OwnI.of_own (B := w3.heap.size) ho9 (HI.out.2.2.2.1)); clear ho9 hz9; have s_z := hZ.size; have p_z := ((bcell hZ).1 w1.heap.size 0 (by omega)).trans c0; have a_z := ((bcell hZ).1 gg (k * 2) (by omega)).trans d0; have b_z := ((bcell hZ).1 gg (k * 2 + 1) (by omega)).trans d1; have f_z := fun o => ((bcell hZ).2 gg o (by omega)).trans (df o); have x0_z := fun o => (bcell hZ).1 (w.heap.size) o (by omega); have z0_z := fun o => (bcell hZ).2 (w.heap.size) o (by omega); have x1_z := fun o => (bcell hZ).1 (w.heap.size + 1) o (by omega); have z1_z := fun o => (bcell hZ).2 (w.heap.size + 1) o (by omega); have x2_z := fun o => (bcell hZ).1 (w.heap.size + 1 + 1) o (by omega); have z2_z := fun o => (bcell hZ).2 (w.heap.size + 1 + 1) o (by omega); have x3_z := fun o => (bcell hZ).1 (w.heap.size + 1 + 1 + 1) o (by omega); have z3_z := fun o => (bcell hZ).2 (w.heap.size + 1 + 1 + 1) o (by omega); have x4_z := fun o => (bcell hZ).1 (w.heap.size + 1 + 1 + 1 + 1) o (by omega); have z4_z := fun o => (bcell hZ).2 (w.heap.size + 1 + 1 + 1 + 1) o (by omega)) | (refine (impl_copyCell _ _ _ e.ws e.p _ (HI.out.below (B := w.heap.size) ((bthen hH3.out hY (by omega))) (Nat.le_refl _)) hen).mono ?_; rintro ex z1 ⟨az, cz, rfl, ho9, hz9⟩; have hZ : Below w3.heap.size w3 z1 := bthen hY hz9 hY.size; have HR := hide ((OwnI.of_own ho9 (HI.out.2.2.2.1)).wide (lo' := w3.heap.size) (hi' := z1.heap.size) hY.size (Nat.le_refl _)); clear ho9 hz9; have s_z := hZ.size; have p_z := ((bcell hZ).1 w1.heap.size 0 (by omega)).trans c0; have a_z := ((bcell hZ).1 gg (k * 2) (by omega)).trans d0; have b_z := ((bcell hZ).1 gg (k * 2 + 1) (by omega)).trans d1; have f_z := fun o => ((bcell hZ).2 gg o (by omega)).trans (df o); have x0_z := fun o => (bcell hZ).1 (w.heap.size) o (by omega); have z0_z := fun o => (bcell hZ).2 (w.heap.size) o (by omega); have x1_z := fun o => (bcell hZ).1 (w.heap.size + 1) o (by omega); have z1_z := fun o => (bcell hZ).2 (w.heap.size + 1) o (by omega); have x2_z := fun o => (bcell hZ).1 (w.heap.size + 1 + 1) o (by omega); have z2_z := fun o => (bcell hZ).2 (w.heap.size + 1 + 1) o (by omega); have x3_z := fun o => (bcell hZ).1 (w.heap.size + 1 + 1 + 1) o (by omega); have z3_z := fun o => (bcell hZ).2 (w.heap.size + 1 + 1 + 1) o (by omega); have x4_z := fun o => (bcell hZ).1 (w.heap.size + 1 + 1 + 1 + 1) o (by omega); have z4_z := fun o => (bcell hZ).2 (w.heap.size + 1 + 1 + 1 + 1) o (by omega))))
        all_goals
          have ap := hide (HF.out.apart (Nat.le_refl _) (fun u hu => (HR.out.1.lt hu).1))
          have HZ := hide (HF.out.below hZ)
          have HH := hide (HZ.out.cell HGA.out HFE.out (r := (⟨az, e.h.n, cz⟩, e.ws)) (f := e.p) (HR.out.wide (by simp; omega) (Nat.le_refl _)) ap.out.1 ap.out.2.1 ap.out.2.2)
          have hOne : OneW (some ⟨gg, 0, none⟩) z1 ((z1.setCell ⟨gg, k * 2, none⟩ (.slice az e.h.n cz)).setCell ⟨gg, k * 2 + 1, none⟩ (.bool e.p)) := (OneW.set _).trans (OneW.set _)
          have hsv := (Save.of_below (lo := w.heap.size + 5) (hi := w1.heap.size) hZ).trans (OneW.save hOne (fun y hy => by injection hy with hy; subst hy; have := p.out.outer.lt HGA.out; simp only [World.size_alloc] at this; simp only; omega))
          have sZ := hsv.size
          clear hOne ap HZ a_z b_z f_z a_y b_y f_y p_y p_z
          generalize ((z1.setCell ⟨gg, k * 2, none⟩ (.slice az e.h.n cz)).setCell ⟨gg, k * 2 + 1, none⟩ (.bool e.p)) = Z at HH hsv sZ ⊢
          have v3 := fun o => World.cell?_of_block (a := ⟨w.heap.size + 1 + 1 + 1 + 1, o, none⟩) (hsv.block (w.heap.size + 1 + 1 + 1 + 1) (by omega) (.inl (by omega)))
          have u3 := fun o => World.frozen?_of_block (a := ⟨w.heap.size + 1 + 1 + 1 + 1, o, none⟩) (hsv.block (w.heap.size + 1 + 1 + 1 + 1) (by omega) (.inl (by omega)))
          have t3 : w.heap.size + 1 + 1 + 1 + 1 < Z.heap.size := by omega
          have e0 := cell_blk HH.out.blk 0; have e1 := cell_blk HH.out.blk 1; have e2 := cell_blk HH.out.blk 2
          have t4 := HH.out.lt
          have H5 : Below w.heap.size w Z := bthen hH3.out (Save.below hsv (by omega)) (by omega)
          clear hsv hZ hY
          go_wp2_with fail
          refine bodyPost_ret (by simp [results, Try.results52, go_sem, *]; try rfl) rfl ?_
          exact ⟨{ P with es := P.es.set k ⟨⟨az, e.h.n, cz⟩, e.ws, e.p⟩ }, rfl, HH.out.own.ret (by simp) (by simp; omega) (Nat.le_refl _) _ _ _, set_con HCP.out HQ.out rfl, by go_grown⟩
set_option maxRecDepth 100000 in
set_option maxHeartbeats 4000000 in
theorem impl_PutWord (g : Ge) (A : Ar) (x : Ad) (v : Int) (C' : Con) (w : World) (hg : putA g A.con x v = C') (hA : IsAr w A) (ht : A.tot ≤ 1048576) :
    Calls Try.prog 22 #[.agg #[.int .i64 g.gr, .int .i64 g.bk, .int .i64 g.rw, .int .i64 g.cl], .agg #[.slice A.a A.n A.c, .slice A.ag.1.a A.ag.1.n A.ag.1.c, .slice A.ht.1.a A.ht.1.n A.ht.1.c], .agg #[.int .i64 x.b, .int .i64 x.r, .int .i64 x.c], .int .i64 v] w (GotAr w C') := by
  have HA := hide hA; have HT := hide ht; have HG := hide hg
  clear hA ht hg
  cases hsy : btw v 0 4294967295
  · have hq := HG.out
    unfold putA at hq
    rw [if_neg (by rw [hsy]; simp)] at hq
    have HC := hide hq
    clear hq HG
    go_enter Try.func22, Try.ntmps22
    go_wp2_with (go_at_call 50; refine (impl_IsWord_is _ false hsy _).mono ?_; rintro ey wy ⟨rfl, rfl⟩)
    refine (impl_copyArray A _ (HA.out.below (B := w.heap.size) (by go_grown) (Nat.le_refl _)) HT.out).mono ?_
    rintro e w1 ⟨P, rfl, o1, hcp, h1⟩
    have s1 := h1.size
    try simp only [World.size_alloc, World.size_setCell, World.size_drew, World.heap_drewN] at s1
    have B1_1 := h1
    have z1_0 : w.heap.size < w1.heap.size := by omega
    have q1_0 := fun o => (bcell B1_1).1 (w.heap.size) o (by go_size)
    have f1_0 := fun o => (bcell B1_1).2 (w.heap.size) o (by go_size)
    have z1_1 : w.heap.size + 1 < w1.heap.size := by omega
    have q1_1 := fun o => (bcell B1_1).1 (w.heap.size + 1) o (by go_size)
    have f1_1 := fun o => (bcell B1_1).2 (w.heap.size + 1) o (by go_size)
    have z1_2 : w.heap.size + 1 + 1 < w1.heap.size := by omega
    have q1_2 := fun o => (bcell B1_1).1 (w.heap.size + 1 + 1) o (by go_size)
    have f1_2 := fun o => (bcell B1_1).2 (w.heap.size + 1 + 1) o (by go_size)
    have z1_3 : w.heap.size + 1 + 1 + 1 < w1.heap.size := by omega
    have q1_3 := fun o => (bcell B1_1).1 (w.heap.size + 1 + 1 + 1) o (by go_size)
    have f1_3 := fun o => (bcell B1_1).2 (w.heap.size + 1 + 1 + 1) o (by go_size)
    have H1 : Below w.heap.size w w1 := bthen (by repeat' (first | (with_reducible exact Below.refl _ _) | (with_reducible assumption) | (with_reducible refine bdrawn ?_ _) | (with_reducible refine Below.alloc ?_ ?_ _) | (with_reducible refine Below.drew ?_) | (with_reducible refine Below.setCell ?_ ?_ _) | go_size)) h1 (by go_size)
    have C1 := (bcell H1).1; have F1 := (bcell H1).2
    have p := hide o1
    clear o1
    have HCP := hide hcp; clear hcp
    go_wp2_with fail
    refine bodyPost_ret (by simp [results, Try.results22, go_sem, *]; try rfl) rfl ?_
    exact ⟨P, rfl, p.out.ret (by simp) (by simp; omega) (by omega) _ _ _, HCP.out.trans HC.out, by go_grown⟩
  · obtain ⟨y, rfl⟩ : ∃ y : Nat, v = (y : Int) := ⟨v.toNat, by have := btw_true.1 hsy; omega⟩
    have hy9 : y < 4294967296 := by have := btw_true.1 hsy; omega
    obtain ⟨cw, hcw⟩ : ∃ cw, encS (symsOf y) = cw := ⟨_, rfl⟩
    have hcs : Sym cw ∧ cw.length = 11 := by subst hcw; exact enc_sym (syms_sym y).1 (syms_sym y).2
    have hso := symOk_ints (n := 11) hcs.1 hcs.2
    have HST := hide (show ∀ (az : Option Addr) (cz : Nat), storeA g A.con x (conC ⟨⟨az, 11, cz⟩, ints cw, false⟩) = C' by
      intro az cz
      rw [← HG.out]; unfold storeA putA putC conC
      rw [Int.toNat_natCast, hcw, hsy, show symOkB (ints cw) 11 = true from hso])
    have HCW := hide hcw; have HCS := hide hcs
    have HAW := hide (HA.out.below (w' := ((((w.alloc (.cells #[.int .i64 g.gr, .int .i64 g.bk, .int .i64 g.rw, .int .i64 g.cl] 30)).alloc (.cells #[.slice A.a A.n A.c, .slice A.ag.1.a A.ag.1.n A.ag.1.c, .slice A.ht.1.a A.ht.1.n A.ht.1.c] 34)).alloc (.cells #[.int .i64 x.b, .int .i64 x.r, .int .i64 x.c] 44)).alloc (.cells #[.slice none 0 0, .slice none 0 0, .slice none 0 0] 34))) (B := w.heap.size) (by go_grown) (Nat.le_refl _))
    have hsz4 : ((((w.alloc (.cells #[.int .i64 g.gr, .int .i64 g.bk, .int .i64 g.rw, .int .i64 g.cl] 30)).alloc (.cells #[.slice A.a A.n A.c, .slice A.ag.1.a A.ag.1.n A.ag.1.c, .slice A.ht.1.a A.ht.1.n A.ht.1.c] 34)).alloc (.cells #[.int .i64 x.b, .int .i64 x.r, .int .i64 x.c] 44)).alloc (.cells #[.slice none 0 0, .slice none 0 0, .slice none 0 0] 34)).heap.size = w.heap.size + 4 := by simp
    clear hcw hcs hso HG
    go_enter Try.func22, Try.ntmps22
    go_wp2_with (go_at_call 50; refine (impl_IsWord_is _ true hsy _).mono ?_; rintro ey wy ⟨rfl, rfl⟩)
    have gbg0 : ((((w.alloc (.cells #[.int .i64 g.gr, .int .i64 g.bk, .int .i64 g.rw, .int .i64 g.cl] 30)).alloc (.cells #[.slice A.a A.n A.c, .slice A.ag.1.a A.ag.1.n A.ag.1.c, .slice A.ht.1.a A.ht.1.n A.ht.1.c] 34)).alloc (.cells #[.int .i64 x.b, .int .i64 x.r, .int .i64 x.c] 44)).alloc (.cells #[.slice none 0 0, .slice none 0 0, .slice none 0 0] 34)).cell? ⟨w.heap.size, 0, none⟩ = some (.int .i64 g.gr) := by rw [World.cell?_alloc_lt _ _ _ (by simp; try omega), World.cell?_alloc_lt _ _ _ (by simp; try omega), World.cell?_alloc_lt _ _ _ (by simp; try omega)]; exact (cell_blk (alloc_at _ _ _ (by simp)) 0).trans rfl
    have gbg1 : ((((w.alloc (.cells #[.int .i64 g.gr, .int .i64 g.bk, .int .i64 g.rw, .int .i64 g.cl] 30)).alloc (.cells #[.slice A.a A.n A.c, .slice A.ag.1.a A.ag.1.n A.ag.1.c, .slice A.ht.1.a A.ht.1.n A.ht.1.c] 34)).alloc (.cells #[.int .i64 x.b, .int .i64 x.r, .int .i64 x.c] 44)).alloc (.cells #[.slice none 0 0, .slice none 0 0, .slice none 0 0] 34)).cell? ⟨w.heap.size, 1, none⟩ = some (.int .i64 g.bk) := by rw [World.cell?_alloc_lt _ _ _ (by simp; try omega), World.cell?_alloc_lt _ _ _ (by simp; try omega), World.cell?_alloc_lt _ _ _ (by simp; try omega)]; exact (cell_blk (alloc_at _ _ _ (by simp)) 1).trans rfl
    have gbg2 : ((((w.alloc (.cells #[.int .i64 g.gr, .int .i64 g.bk, .int .i64 g.rw, .int .i64 g.cl] 30)).alloc (.cells #[.slice A.a A.n A.c, .slice A.ag.1.a A.ag.1.n A.ag.1.c, .slice A.ht.1.a A.ht.1.n A.ht.1.c] 34)).alloc (.cells #[.int .i64 x.b, .int .i64 x.r, .int .i64 x.c] 44)).alloc (.cells #[.slice none 0 0, .slice none 0 0, .slice none 0 0] 34)).cell? ⟨w.heap.size, 2, none⟩ = some (.int .i64 g.rw) := by rw [World.cell?_alloc_lt _ _ _ (by simp; try omega), World.cell?_alloc_lt _ _ _ (by simp; try omega), World.cell?_alloc_lt _ _ _ (by simp; try omega)]; exact (cell_blk (alloc_at _ _ _ (by simp)) 2).trans rfl
    have gbg3 : ((((w.alloc (.cells #[.int .i64 g.gr, .int .i64 g.bk, .int .i64 g.rw, .int .i64 g.cl] 30)).alloc (.cells #[.slice A.a A.n A.c, .slice A.ag.1.a A.ag.1.n A.ag.1.c, .slice A.ht.1.a A.ht.1.n A.ht.1.c] 34)).alloc (.cells #[.int .i64 x.b, .int .i64 x.r, .int .i64 x.c] 44)).alloc (.cells #[.slice none 0 0, .slice none 0 0, .slice none 0 0] 34)).cell? ⟨w.heap.size, 3, none⟩ = some (.int .i64 g.cl) := by rw [World.cell?_alloc_lt _ _ _ (by simp; try omega), World.cell?_alloc_lt _ _ _ (by simp; try omega), World.cell?_alloc_lt _ _ _ (by simp; try omega)]; exact (cell_blk (alloc_at _ _ _ (by simp)) 3).trans rfl
    have gbA0 : ((((w.alloc (.cells #[.int .i64 g.gr, .int .i64 g.bk, .int .i64 g.rw, .int .i64 g.cl] 30)).alloc (.cells #[.slice A.a A.n A.c, .slice A.ag.1.a A.ag.1.n A.ag.1.c, .slice A.ht.1.a A.ht.1.n A.ht.1.c] 34)).alloc (.cells #[.int .i64 x.b, .int .i64 x.r, .int .i64 x.c] 44)).alloc (.cells #[.slice none 0 0, .slice none 0 0, .slice none 0 0] 34)).cell? ⟨w.heap.size + 1, 0, none⟩ = some (.slice A.a A.n A.c) := by rw [World.cell?_alloc_lt _ _ _ (by simp; try omega), World.cell?_alloc_lt _ _ _ (by simp; try omega)]; exact (cell_blk (alloc_at _ _ _ (by simp)) 0).trans rfl
    have gbA1 : ((((w.alloc (.cells #[.int .i64 g.gr, .int .i64 g.bk, .int .i64 g.rw, .int .i64 g.cl] 30)).alloc (.cells #[.slice A.a A.n A.c, .slice A.ag.1.a A.ag.1.n A.ag.1.c, .slice A.ht.1.a A.ht.1.n A.ht.1.c] 34)).alloc (.cells #[.int .i64 x.b, .int .i64 x.r, .int .i64 x.c] 44)).alloc (.cells #[.slice none 0 0, .slice none 0 0, .slice none 0 0] 34)).cell? ⟨w.heap.size + 1, 1, none⟩ = some (.slice A.ag.1.a A.ag.1.n A.ag.1.c) := by rw [World.cell?_alloc_lt _ _ _ (by simp; try omega), World.cell?_alloc_lt _ _ _ (by simp; try omega)]; exact (cell_blk (alloc_at _ _ _ (by simp)) 1).trans rfl
    have gbA2 : ((((w.alloc (.cells #[.int .i64 g.gr, .int .i64 g.bk, .int .i64 g.rw, .int .i64 g.cl] 30)).alloc (.cells #[.slice A.a A.n A.c, .slice A.ag.1.a A.ag.1.n A.ag.1.c, .slice A.ht.1.a A.ht.1.n A.ht.1.c] 34)).alloc (.cells #[.int .i64 x.b, .int .i64 x.r, .int .i64 x.c] 44)).alloc (.cells #[.slice none 0 0, .slice none 0 0, .slice none 0 0] 34)).cell? ⟨w.heap.size + 1, 2, none⟩ = some (.slice A.ht.1.a A.ht.1.n A.ht.1.c) := by rw [World.cell?_alloc_lt _ _ _ (by simp; try omega), World.cell?_alloc_lt _ _ _ (by simp; try omega)]; exact (cell_blk (alloc_at _ _ _ (by simp)) 2).trans rfl
    have gbx0 : ((((w.alloc (.cells #[.int .i64 g.gr, .int .i64 g.bk, .int .i64 g.rw, .int .i64 g.cl] 30)).alloc (.cells #[.slice A.a A.n A.c, .slice A.ag.1.a A.ag.1.n A.ag.1.c, .slice A.ht.1.a A.ht.1.n A.ht.1.c] 34)).alloc (.cells #[.int .i64 x.b, .int .i64 x.r, .int .i64 x.c] 44)).alloc (.cells #[.slice none 0 0, .slice none 0 0, .slice none 0 0] 34)).cell? ⟨w.heap.size + 1 + 1, 0, none⟩ = some (.int .i64 x.b) := by rw [World.cell?_alloc_lt _ _ _ (by simp; try omega)]; exact (cell_blk (alloc_at _ _ _ (by simp)) 0).trans rfl
    have gbx1 : ((((w.alloc (.cells #[.int .i64 g.gr, .int .i64 g.bk, .int .i64 g.rw, .int .i64 g.cl] 30)).alloc (.cells #[.slice A.a A.n A.c, .slice A.ag.1.a A.ag.1.n A.ag.1.c, .slice A.ht.1.a A.ht.1.n A.ht.1.c] 34)).alloc (.cells #[.int .i64 x.b, .int .i64 x.r, .int .i64 x.c] 44)).alloc (.cells #[.slice none 0 0, .slice none 0 0, .slice none 0 0] 34)).cell? ⟨w.heap.size + 1 + 1, 1, none⟩ = some (.int .i64 x.r) := by rw [World.cell?_alloc_lt _ _ _ (by simp; try omega)]; exact (cell_blk (alloc_at _ _ _ (by simp)) 1).trans rfl
    have gbx2 : ((((w.alloc (.cells #[.int .i64 g.gr, .int .i64 g.bk, .int .i64 g.rw, .int .i64 g.cl] 30)).alloc (.cells #[.slice A.a A.n A.c, .slice A.ag.1.a A.ag.1.n A.ag.1.c, .slice A.ht.1.a A.ht.1.n A.ht.1.c] 34)).alloc (.cells #[.int .i64 x.b, .int .i64 x.r, .int .i64 x.c] 44)).alloc (.cells #[.slice none 0 0, .slice none 0 0, .slice none 0 0] 34)).cell? ⟨w.heap.size + 1 + 1, 2, none⟩ = some (.int .i64 x.c) := by rw [World.cell?_alloc_lt _ _ _ (by simp; try omega)]; exact (cell_blk (alloc_at _ _ _ (by simp)) 2).trans rfl
    have gbr0 : ((((w.alloc (.cells #[.int .i64 g.gr, .int .i64 g.bk, .int .i64 g.rw, .int .i64 g.cl] 30)).alloc (.cells #[.slice A.a A.n A.c, .slice A.ag.1.a A.ag.1.n A.ag.1.c, .slice A.ht.1.a A.ht.1.n A.ht.1.c] 34)).alloc (.cells #[.int .i64 x.b, .int .i64 x.r, .int .i64 x.c] 44)).alloc (.cells #[.slice none 0 0, .slice none 0 0, .slice none 0 0] 34)).cell? ⟨w.heap.size + 1 + 1 + 1, 0, none⟩ = some (.slice none 0 0) := by exact (cell_blk (alloc_at _ _ _ (by simp)) 0).trans rfl
    have gbr1 : ((((w.alloc (.cells #[.int .i64 g.gr, .int .i64 g.bk, .int .i64 g.rw, .int .i64 g.cl] 30)).alloc (.cells #[.slice A.a A.n A.c, .slice A.ag.1.a A.ag.1.n A.ag.1.c, .slice A.ht.1.a A.ht.1.n A.ht.1.c] 34)).alloc (.cells #[.int .i64 x.b, .int .i64 x.r, .int .i64 x.c] 44)).alloc (.cells #[.slice none 0 0, .slice none 0 0, .slice none 0 0] 34)).cell? ⟨w.heap.size + 1 + 1 + 1, 1, none⟩ = some (.slice none 0 0) := by exact (cell_blk (alloc_at _ _ _ (by simp)) 1).trans rfl
    have gbr2 : ((((w.alloc (.cells #[.int .i64 g.gr, .int .i64 g.bk, .int .i64 g.rw, .int .i64 g.cl] 30)).alloc (.cells #[.slice A.a A.n A.c, .slice A.ag.1.a A.ag.1.n A.ag.1.c, .slice A.ht.1.a A.ht.1.n A.ht.1.c] 34)).alloc (.cells #[.int .i64 x.b, .int .i64 x.r, .int .i64 x.c] 44)).alloc (.cells #[.slice none 0 0, .slice none 0 0, .slice none 0 0] 34)).cell? ⟨w.heap.size + 1 + 1 + 1, 2, none⟩ = some (.slice none 0 0) := by exact (cell_blk (alloc_at _ _ _ (by simp)) 2).trans rfl
    have rf : ∀ o, ((((w.alloc (.cells #[.int .i64 g.gr, .int .i64 g.bk, .int .i64 g.rw, .int .i64 g.cl] 30)).alloc (.cells #[.slice A.a A.n A.c, .slice A.ag.1.a A.ag.1.n A.ag.1.c, .slice A.ht.1.a A.ht.1.n A.ht.1.c] 34)).alloc (.cells #[.int .i64 x.b, .int .i64 x.r, .int .i64 x.c] 44)).alloc (.cells #[.slice none 0 0, .slice none 0 0, .slice none 0 0] 34)).frozen? ⟨w.heap.size + 1 + 1 + 1, o, none⟩ = false := fun o => free_blk (alloc_at _ _ _ (by simp)) o
    have hB4 : Below w.heap.size w ((((w.alloc (.cells #[.int .i64 g.gr, .int .i64 g.bk, .int .i64 g.rw, .int .i64 g.cl] 30)).alloc (.cells #[.slice A.a A.n A.c, .slice A.ag.1.a A.ag.1.n A.ag.1.c, .slice A.ht.1.a A.ht.1.n A.ht.1.c] 34)).alloc (.cells #[.int .i64 x.b, .int .i64 x.r, .int .i64 x.c] 44)).alloc (.cells #[.slice none 0 0, .slice none 0 0, .slice none 0 0] 34)) := by go_grown
    have hsz5 : w.heap.size + 4 ≤ ((((w.alloc (.cells #[.int .i64 g.gr, .int .i64 g.bk, .int .i64 g.rw, .int .i64 g.cl] 30)).alloc (.cells #[.slice A.a A.n A.c, .slice A.ag.1.a A.ag.1.n A.ag.1.c, .slice A.ht.1.a A.ht.1.n A.ht.1.c] 34)).alloc (.cells #[.int .i64 x.b, .int .i64 x.r, .int .i64 x.c] 44)).alloc (.cells #[.slice none 0 0, .slice none 0 0, .slice none 0 0] 34)).heap.size := by omega
    clear hsz4
    generalize ((((w.alloc (.cells #[.int .i64 g.gr, .int .i64 g.bk, .int .i64 g.rw, .int .i64 g.cl] 30)).alloc (.cells #[.slice A.a A.n A.c, .slice A.ag.1.a A.ag.1.n A.ag.1.c, .slice A.ht.1.a A.ht.1.n A.ht.1.c] 34)).alloc (.cells #[.int .i64 x.b, .int .i64 x.r, .int .i64 x.c] 44)).alloc (.cells #[.slice none 0 0, .slice none 0 0, .slice none 0 0] 34)) = W at *
    go_region_held3 (fun v => v.cell? ⟨w.heap.size, 0, none⟩ = some (.int .i64 g.gr) ∧ v.cell? ⟨w.heap.size, 1, none⟩ = some (.int .i64 g.bk) ∧ v.cell? ⟨w.heap.size, 2, none⟩ = some (.int .i64 g.rw) ∧ v.cell? ⟨w.heap.size, 3, none⟩ = some (.int .i64 g.cl) ∧ v.cell? ⟨w.heap.size + 1, 0, none⟩ = some (.slice A.a A.n A.c) ∧ v.cell? ⟨w.heap.size + 1, 1, none⟩ = some (.slice A.ag.1.a A.ag.1.n A.ag.1.c) ∧ v.cell? ⟨w.heap.size + 1, 2, none⟩ = some (.slice A.ht.1.a A.ht.1.n A.ht.1.c) ∧ v.cell? ⟨w.heap.size + 1 + 1, 0, none⟩ = some (.int .i64 x.b) ∧ v.cell? ⟨w.heap.size + 1 + 1, 1, none⟩ = some (.int .i64 x.r) ∧ v.cell? ⟨w.heap.size + 1 + 1, 2, none⟩ = some (.int .i64 x.c)) (first | ((try go_split_ands); (refine ⟨?_, ?_, ?_, ?_, ?_, ?_, ?_, ?_, ?_, ?_⟩ <;> (first | with_reducible assumption | (simp only [World.cell?_drew]; with_reducible assumption) | (rw [World.cell?_setCell_far _ _ _ _ (by dsimp only; omega), World.cell?_setCell_far _ _ _ _ (by dsimp only; omega), World.cell?_setCell_far _ _ _ _ (by dsimp only; omega)]; with_reducible assumption) | go_keep)))) (first | (go_at_call 53; refine (impl_EncodeLine y _ hy9).mono ?_; rintro ex y1 ⟨az, cz, rfl, ho9, hz9⟩; rw [HCW.out] at ho9; have hY : Below W.heap.size W y1 := below_drew hz9; have s_y := hY.size; have HR := hide (OwnI.of_own ho9 (ints_wf11 HCS.out.1)); clear ho9 hz9; have q0_y := fun o => (bcell hY).1 (w.heap.size) o (by omega); have f0_y := fun o => (bcell hY).2 (w.heap.size) o (by omega); have q1_y := fun o => (bcell hY).1 (w.heap.size + 1) o (by omega); have f1_y := fun o => (bcell hY).2 (w.heap.size + 1) o (by omega); have q2_y := fun o => (bcell hY).1 (w.heap.size + 1 + 1) o (by omega); have f2_y := fun o => (bcell hY).2 (w.heap.size + 1 + 1) o (by omega); have q3_y := fun o => (bcell hY).1 (w.heap.size + 1 + 1 + 1) o (by omega); have f3_y := fun o => (bcell hY).2 (w.heap.size + 1 + 1 + 1) o (by omega); have yg0 := (q0_y 0).trans gbg0; have yg1 := (q0_y 1).trans gbg1; have yg2 := (q0_y 2).trans gbg2; have yg3 := (q0_y 3).trans gbg3; have yA0 := (q1_y 0).trans gbA0; have yA1 := (q1_y 1).trans gbA1; have yA2 := (q1_y 2).trans gbA2; have yx0 := (q2_y 0).trans gbx0; have yx1 := (q2_y 1).trans gbx1; have yx2 := (q2_y 2).trans gbx2; clear q0_y q1_y q2_y) | (go_at_call 52; refine (impl_StoreCell g A x ⟨⟨az, 11, cz⟩, ints cw, false⟩ C' _ (HST.out az cz) (HAW.out.below hY (Nat.le_refl _)) HT.out HR.out.ints).mono ?_; rintro ex z1 ⟨P, rfl, oP, hcp, hz9⟩; have hZ : Below W.heap.size W z1 := bthen hY hz9 s_y; have s_z := hz9.size; have HP := hide oP; have HCP := hide hcp; clear hcp oP; have q0_z := fun o => (bcell hZ).1 (w.heap.size) o (by omega); have f0_z := fun o => (bcell hZ).2 (w.heap.size) o (by omega); have q1_z := fun o => (bcell hZ).1 (w.heap.size + 1) o (by omega); have f1_z := fun o => (bcell hZ).2 (w.heap.size + 1) o (by omega); have q2_z := fun o => (bcell hZ).1 (w.heap.size + 1 + 1) o (by omega); have f2_z := fun o => (bcell hZ).2 (w.heap.size + 1 + 1) o (by omega); have q3_z := fun o => (bcell hZ).1 (w.heap.size + 1 + 1 + 1) o (by omega); have f3_z := fun o => (bcell hZ).2 (w.heap.size + 1 + 1 + 1) o (by omega); have zg0 := (q0_z 0).trans gbg0; have zg1 := (q0_z 1).trans gbg1; have zg2 := (q0_z 2).trans gbg2; have zg3 := (q0_z 3).trans gbg3; have zA0 := (q1_z 0).trans gbA0; have zA1 := (q1_z 1).trans gbA1; have zA2 := (q1_z 2).trans gbA2; have zx0 := (q2_z 0).trans gbx0; have zx1 := (q2_z 1).trans gbx1; have zx2 := (q2_z 2).trans gbx2; clear q0_z q1_z q2_z; have k3_0 := (q3_z 0).trans gbr0; have k3_1 := (q3_z 1).trans gbr1; have k3_2 := (q3_z 2).trans gbr2; have k3_f := fun o => (f3_z o).trans (rf o); clear q3_z f3_z))
    all_goals
      have H5 : Below w.heap.size w z1 := bthen hB4 hZ (by omega)
      have l3 : w.heap.size + 1 + 1 + 1 < z1.heap.size := by omega
      go_wp2_with fail
      refine bodyPost_ret (by simp [results, Try.results22, go_sem, *]; try rfl) rfl ?_
      exact ⟨P, rfl, HP.out.ret (by omega) (by omega) (Nat.le_refl _) _ _ _, HCP.out, by go_grown⟩
end Go.Proofs.Ytkhcepmileiejaa
