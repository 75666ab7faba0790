/- The reading functions of an array, of the program and of the reference. -/
import Derived.Test.YtkhcepmileiejaaArC
import Derived.Test.YtkhcepmileiejaaArD
import Derived.Test.YtkhcepmileiejaaArOs
import Derived.Test.YtkhcepmileiejaaAddrI
import Derived.Test.YtkhcepmileiejaaFetch
set_option linter.unusedSimpArgs false
set_option linter.unusedVariables false
namespace Go.Proofs.Ytkhcepmileiejaa
open Go.RowKit Go.ChangeShapes Go.WideShapes Go.ChangeAt Go.Joins Go.Deep
open Go.ChangeMaps (open_string shut_string)
def setC (C : Con) (i : Nat) (c : List Int × Bool) : Con := ⟨C.cs.set i c, C.ag, C.ht⟩
/-- One line read. -/
def rdAt (C : Con) (i : Nat) : Con × Int × Int := (setC C i (getC (C.cs.getD i ([], false))).1, (getC (C.cs.getD i ([], false))).2.1, (getC (C.cs.getD i ([], false))).2.2)
def getA (g : Ge) (C : Con) (x : Ad) : Con × Int × Int := if arOk g C = true ∧ adOk g x = true then rdAt C (adIdx g x).toNat else (C, 0, 2)
def scrubL (g : Ge) (C : Con) (n : Int) : Con × Int := if arOk g C = true ∧ btw n 0 (lineCnt g - 1) = true then ((rdAt C n.toNat).1, (rdAt C n.toNat).2.2) else (C, 2)
theorem con_at {P : Ar} {C : Con} (h : P.con = C) {k : Nat} (hk : k < C.cs.length) : ∃ e, P.es[k]? = some e ∧ conC e = C.cs.getD k ([], false) := by
  subst h
  have hl : k < P.es.length := by simpa [Ar.con] using hk
  refine ⟨_, List.getElem?_eq_getElem hl, ?_⟩
  rw [List.getD_eq_getElem?_getD, Ar.con, List.getElem?_map, List.getElem?_eq_getElem hl]; rfl
theorem con_set {P : Ar} {C : Con} (h : P.con = C) (k : Nat) (e : Cl) : ({ P with es := P.es.set k e } : Ar).con = setC C k (conC e) := by
  subst h; simp [Ar.con, setC, List.map_set]
theorem sym_at {g : Ge} {C : Con} (h : arOk g C = true) {e : Cl} {k : Nat} (hk : k < C.cs.length) (he : conC e = C.cs.getD k ([], false)) : symOkB e.ws 11 = true := by
  have h1 := (arOk_of h).2.2.2.2.1 (C.cs.getD k ([], false)) (by rw [List.getD_eq_getElem?_getD, List.getElem?_eq_getElem hk]; exact List.getElem_mem hk)
  rw [← he] at h1; exact h1
theorem Half.of {lo hi p : Nat} {w : World} {A : Ar} (h : OwnAr lo hi w A) (hhi : hi ≤ w.heap.size) (hb : w.heap[p]? = some (.cells #[.slice A.a A.n A.c, .slice A.ag.1.a A.ag.1.n A.ag.1.c, .slice A.ht.1.a A.ht.1.n A.ht.1.c] 34 (0, 0))) (hp : p < lo ∨ hi ≤ p) : Half lo p w A := by
  refine ⟨h.wide (Nat.le_refl _) hhi, hb, fun r hr x y hx hy e => ?_, fun x y hx hy e => ?_⟩
  · have := (h.sep.rows r hr).1.lt hx; injection hy with hy; subst hy; simp only at e; omega
  · have := h.outer.lt hx; injection hy with hy; subst hy; simp only at e; omega
theorem OwnAr.ret {lo hi r base : Nat} {w : World} {A : Ar} (h : OwnAr lo hi w A) (hr : r < lo) (hb : base ≤ lo) (hh : hi ≤ w.heap.size) (u0 u1 u2 : Value) : OwnAr base (((w.setCell ⟨r, 0, none⟩ u0).setCell ⟨r, 1, none⟩ u1).setCell ⟨r, 2, none⟩ u2).heap.size (((w.setCell ⟨r, 0, none⟩ u0).setCell ⟨r, 1, none⟩ u1).setCell ⟨r, 2, none⟩ u2) A :=
  (((h.set_off (.inl hr) u0).set_off (.inl hr) u1).set_off (.inl hr) u2).wide hb (by simp; exact hh)
/-- An array of the call's own, and two numbers. -/
def GotAr3 (w : World) (C : Con) (x y : Int) (e : Ending) (w' : World) : Prop :=
  ∃ A : Ar, e = .returned (.tuple #[.agg #[.slice A.a A.n A.c, .slice A.ag.1.a A.ag.1.n A.ag.1.c, .slice A.ht.1.a A.ht.1.n A.ht.1.c], .int .i64 x, .int .i64 y]) ∧ OwnAr w.heap.size w'.heap.size w' A ∧ A.con = C ∧ Below w.heap.size w w'
def GotAr2 (w : World) (C : Con) (x : Int) (e : Ending) (w' : World) : Prop :=
  ∃ A : Ar, e = .returned (.tuple #[.agg #[.slice A.a A.n A.c, .slice A.ag.1.a A.ag.1.n A.ag.1.c, .slice A.ht.1.a A.ht.1.n A.ht.1.c], .int .i64 x]) ∧ OwnAr w.heap.size w'.heap.size w' A ∧ A.con = C ∧ Below w.heap.size w w'
theorem tot_n {A : Ar} (h : A.tot ≤ 1048576) : A.n ≤ 1048576 := by unfold Ar.tot at h; omega
theorem caps_n {lo hi : Nat} {w : World} {A : Ar} (h : OwnAr lo hi w A) : A.n ≤ A.c ∧ A.c ≤ 9223372036854775807 := h.outer.caps
set_option maxRecDepth 100000 in
set_option maxHeartbeats 4000000 in
theorem impl_GetWord (g : Ge) (A : Ar) (x : Ad) (C' : Con) (v code : Int) (w : World) (hg : getA g A.con x = (C', v, code)) (hA : IsAr w A) (ht : A.tot ≤ 1048576) :
    Calls Try.prog 25 #[.agg #[.int .i64 g.gr, .int .i64 g.bk, .int .i64 g.rw, .int .i64 g.cl], .agg #[.slice A.a A.n A.c, .slice A.ag.1.a A.ag.1.n A.ag.1.c, .slice A.ht.1.a A.ht.1.n A.ht.1.c], .agg #[.int .i64 x.b, .int .i64 x.r, .int .i64 x.c]] w (GotAr3 w C' v code) := by
  have HA := hide hA; have HT := hide ht; have HG := hide hg
  clear hA ht hg
  cases hok : arOk g A.con
  · have hq := HG.out
    unfold getA at hq
    rw [if_neg (by rw [hok]; simp)] at hq
    injection hq with hq1 hq; injection hq with hq2 hq3
    have HC := hide hq1
    subst hq2 hq3
    clear hq1 HG
    go_enter Try.func25, Try.ntmps25
    go_wp2_with fail
    refine (impl_copyArray A _ (HA.out.below (B := w.heap.size) (by go_grown) (Nat.le_refl _)) HT.out).mono ?_
    rintro e w1 ⟨P, rfl, o1, hcp, h1⟩
    have s1 := h1.size
    try simp only [World.size_alloc, World.size_setCell, World.size_drew, World.heap_drewN] at s1
    have B1_1 := h1
    have z1_0 : w.heap.size < w1.heap.size := by omega
    have q1_0 := fun o => (bcell B1_1).1 (w.heap.size) o (by go_size)
    have f1_0 := fun o => (bcell B1_1).2 (w.heap.size) o (by go_size)
    have z1_1 : w.heap.size + 1 < w1.heap.size := by omega
    have q1_1 := fun o => (bcell B1_1).1 (w.heap.size + 1) o (by go_size)
    have f1_1 := fun o => (bcell B1_1).2 (w.heap.size + 1) o (by go_size)
    have z1_2 : w.heap.size + 1 + 1 < w1.heap.size := by omega
    have q1_2 := fun o => (bcell B1_1).1 (w.heap.size + 1 + 1) o (by go_size)
    have f1_2 := fun o => (bcell B1_1).2 (w.heap.size + 1 + 1) o (by go_size)
    have z1_3 : w.heap.size + 1 + 1 + 1 < w1.heap.size := by omega
    have q1_3 := fun o => (bcell B1_1).1 (w.heap.size + 1 + 1 + 1) o (by go_size)
    have f1_3 := fun o => (bcell B1_1).2 (w.heap.size + 1 + 1 + 1) o (by go_size)
    have H1 : Below w.heap.size w w1 := bthen (by repeat' (first | (with_reducible exact Below.refl _ _) | (with_reducible assumption) | (with_reducible refine bdrawn ?_ _) | (with_reducible refine Below.alloc ?_ ?_ _) | (with_reducible refine Below.drew ?_) | (with_reducible refine Below.setCell ?_ ?_ _) | go_size)) h1 (by go_size)
    have C1 := (bcell H1).1; have F1 := (bcell H1).2
    have p := hide o1
    clear o1
    have HCP := hide hcp; clear hcp
    go_wp2_with fail
    refine (impl_ArrayOk g A false _ hok (HA.out.below (B := w.heap.size) (bthen H1 (Below.alloc (Below.refl _ _) (Nat.le_refl _) _) (by omega)) (Nat.le_refl _)) HT.out).mono ?_
    rintro e w2 ⟨rfl, h2⟩
    have s2 := h2.size
    try simp only [World.size_alloc, World.size_setCell, World.size_drew, World.heap_drewN] at s2
    have B2_1 := bnext (by first | (with_reducible exact B1_1) | exact (bgrow B1_1 (by go_size) (by repeat' (first | (with_reducible exact Below.refl _ _) | (with_reducible assumption) | (with_reducible refine bdrawn ?_ _) | (with_reducible refine Below.alloc ?_ ?_ _) | (with_reducible refine Below.drew ?_) | (with_reducible refine Below.setCell ?_ ?_ _) | go_size)))) h2 (by go_size)
    have B2_2 := h2
    have z2_0 : w.heap.size < w2.heap.size := by omega
    have q2_0 := fun o => (bcell B2_1).1 (w.heap.size) o (by go_size)
    have f2_0 := fun o => (bcell B2_1).2 (w.heap.size) o (by go_size)
    have z2_1 : w.heap.size + 1 < w2.heap.size := by omega
    have q2_1 := fun o => (bcell B2_1).1 (w.heap.size + 1) o (by go_size)
    have f2_1 := fun o => (bcell B2_1).2 (w.heap.size + 1) o (by go_size)
    have z2_2 : w.heap.size + 1 + 1 < w2.heap.size := by omega
    have q2_2 := fun o => (bcell B2_1).1 (w.heap.size + 1 + 1) o (by go_size)
    have f2_2 := fun o => (bcell B2_1).2 (w.heap.size + 1 + 1) o (by go_size)
    have z2_3 : w.heap.size + 1 + 1 + 1 < w2.heap.size := by omega
    have q2_3 := fun o => (bcell B2_1).1 (w.heap.size + 1 + 1 + 1) o (by go_size)
    have f2_3 := fun o => (bcell B2_1).2 (w.heap.size + 1 + 1 + 1) o (by go_size)
    have z2_4 : w1.heap.size < w2.heap.size := by omega
    have q2_4 := fun o => (bcell B2_2).1 (w1.heap.size) o (by go_size)
    have f2_4 := fun o => (bcell B2_2).2 (w1.heap.size) o (by go_size)
    have H2 : Below w.heap.size w w2 := bthen (by repeat' (first | (with_reducible exact Below.refl _ _) | (with_reducible assumption) | (with_reducible refine bdrawn ?_ _) | (with_reducible refine Below.alloc ?_ ?_ _) | (with_reducible refine Below.drew ?_) | (with_reducible refine Below.setCell ?_ ?_ _) | go_size)) h2 (by go_size)
    have C2 := (bcell H2).1; have F2 := (bcell H2).2
    have P2 : Below w1.heap.size w1 w2 := bthen (by repeat' (first | (with_reducible exact Below.refl _ _) | (with_reducible assumption) | (with_reducible refine bdrawn ?_ _) | (with_reducible refine Below.alloc ?_ ?_ _) | (with_reducible refine Below.drew ?_) | (with_reducible refine Below.setCell ?_ ?_ _) | go_size)) h2 (by go_size)
    replace p := hide (p.out.below P2 (by omega))
    go_wp2_with fail
    refine bodyPost_ret (by simp [results, Try.results25, go_sem, *]; try rfl) rfl ?_
    exact ⟨P, rfl, p.out.ret (by simp) (by simp; omega) (by omega) _ _ _, HCP.out.trans HC.out, by go_grown⟩
  · cases hado : adOk g x
    · have hq := HG.out
      unfold getA at hq
      rw [if_neg (by rw [hado]; simp)] at hq
      injection hq with hq1 hq; injection hq with hq2 hq3
      have HC := hide hq1
      subst hq2 hq3
      clear hq1 HG
      go_enter Try.func25, Try.ntmps25
      go_wp2_with fail
      refine (impl_copyArray A _ (HA.out.below (B := w.heap.size) (by go_grown) (Nat.le_refl _)) HT.out).mono ?_
      rintro e w1 ⟨P, rfl, o1, hcp, h1⟩
      have s1 := h1.size
      try simp only [World.size_alloc, World.size_setCell, World.size_drew, World.heap_drewN] at s1
      have B1_1 := h1
      have z1_0 : w.heap.size < w1.heap.size := by omega
      have q1_0 := fun o => (bcell B1_1).1 (w.heap.size) o (by go_size)
      have f1_0 := fun o => (bcell B1_1).2 (w.heap.size) o (by go_size)
      have z1_1 : w.heap.size + 1 < w1.heap.size := by omega
      have q1_1 := fun o => (bcell B1_1).1 (w.heap.size + 1) o (by go_size)
      have f1_1 := fun o => (bcell B1_1).2 (w.heap.size + 1) o (by go_size)
      have z1_2 : w.heap.size + 1 + 1 < w1.heap.size := by omega
      have q1_2 := fun o => (bcell B1_1).1 (w.heap.size + 1 + 1) o (by go_size)
      have f1_2 := fun o => (bcell B1_1).2 (w.heap.size + 1 + 1) o (by go_size)
      have z1_3 : w.heap.size + 1 + 1 + 1 < w1.heap.size := by omega
      have q1_3 := fun o => (bcell B1_1).1 (w.heap.size + 1 + 1 + 1) o (by go_size)
      have f1_3 := fun o => (bcell B1_1).2 (w.heap.size + 1 + 1 + 1) o (by go_size)
      have H1 : Below w.heap.size w w1 := bthen (by repeat' (first | (with_reducible exact Below.refl _ _) | (with_reducible assumption) | (with_reducible refine bdrawn ?_ _) | (with_reducible refine Below.alloc ?_ ?_ _) | (with_reducible refine Below.drew ?_) | (with_reducible refine Below.setCell ?_ ?_ _) | go_size)) h1 (by go_size)
      have C1 := (bcell H1).1; have F1 := (bcell H1).2
      have p := hide o1
      clear o1
      have HCP := hide hcp; clear hcp
      go_wp2_with fail
      refine (impl_ArrayOk g A true _ hok (HA.out.below (B := w.heap.size) (bthen H1 (Below.alloc (Below.refl _ _) (Nat.le_refl _) _) (by omega)) (Nat.le_refl _)) HT.out).mono ?_
      rintro e w2 ⟨rfl, h2⟩
      have s2 := h2.size
      try simp only [World.size_alloc, World.size_setCell, World.size_drew, World.heap_drewN] at s2
      have B2_1 := bnext (by first | (with_reducible exact B1_1) | exact (bgrow B1_1 (by go_size) (by repeat' (first | (with_reducible exact Below.refl _ _) | (with_reducible assumption) | (with_reducible refine bdrawn ?_ _) | (with_reducible refine Below.alloc ?_ ?_ _) | (with_reducible refine Below.drew ?_) | (with_reducible refine Below.setCell ?_ ?_ _) | go_size)))) h2 (by go_size)
      have B2_2 := h2
      have z2_0 : w.heap.size < w2.heap.size := by omega
      have q2_0 := fun o => (bcell B2_1).1 (w.heap.size) o (by go_size)
      have f2_0 := fun o => (bcell B2_1).2 (w.heap.size) o (by go_size)
      have z2_1 : w.heap.size + 1 < w2.heap.size := by omega
      have q2_1 := fun o => (bcell B2_1).1 (w.heap.size + 1) o (by go_size)
      have f2_1 := fun o => (bcell B2_1).2 (w.heap.size + 1) o (by go_size)
      have z2_2 : w.heap.size + 1 + 1 < w2.heap.size := by omega
      have q2_2 := fun o => (bcell B2_1).1 (w.heap.size + 1 + 1) o (by go_size)
      have f2_2 := fun o => (bcell B2_1).2 (w.heap.size + 1 + 1) o (by go_size)
      have z2_3 : w.heap.size + 1 + 1 + 1 < w2.heap.size := by omega
      have q2_3 := fun o => (bcell B2_1).1 (w.heap.size + 1 + 1 + 1) o (by go_size)
      have f2_3 := fun o => (bcell B2_1).2 (w.heap.size + 1 + 1 + 1) o (by go_size)
      have z2_4 : w1.heap.size < w2.heap.size := by omega
      have q2_4 := fun o => (bcell B2_2).1 (w1.heap.size) o (by go_size)
      have f2_4 := fun o => (bcell B2_2).2 (w1.heap.size) o (by go_size)
      have H2 : Below w.heap.size w w2 := bthen (by repeat' (first | (with_reducible exact Below.refl _ _) | (with_reducible assumption) | (with_reducible refine bdrawn ?_ _) | (with_reducible refine Below.alloc ?_ ?_ _) | (with_reducible refine Below.drew ?_) | (with_reducible refine Below.setCell ?_ ?_ _) | go_size)) h2 (by go_size)
      have C2 := (bcell H2).1; have F2 := (bcell H2).2
      have P2 : Below w1.heap.size w1 w2 := bthen (by repeat' (first | (with_reducible exact Below.refl _ _) | (with_reducible assumption) | (with_reducible refine bdrawn ?_ _) | (with_reducible refine Below.alloc ?_ ?_ _) | (with_reducible refine Below.drew ?_) | (with_reducible refine Below.setCell ?_ ?_ _) | go_size)) h2 (by go_size)
      replace p := hide (p.out.below P2 (by omega))
      go_wp2_with fail
      refine (impl_AddrOk g x false _ hado).mono ?_
      rintro e w3 ⟨rfl, h3⟩
      have s3 := h3.size
      try simp only [World.size_alloc, World.size_setCell, World.size_drew, World.heap_drewN] at s3
      have B3_1 := bnext (by first | (with_reducible exact B2_1) | exact (bgrow B2_1 (by go_size) (by repeat' (first | (with_reducible exact Below.refl _ _) | (with_reducible assumption) | (with_reducible refine bdrawn ?_ _) | (with_reducible refine Below.alloc ?_ ?_ _) | (with_reducible refine Below.drew ?_) | (with_reducible refine Below.setCell ?_ ?_ _) | go_size)))) h3 (by go_size)
      have B3_2 := bnext (by first | (with_reducible exact B2_2) | exact (bgrow B2_2 (by go_size) (by repeat' (first | (with_reducible exact Below.refl _ _) | (with_reducible assumption) | (with_reducible refine bdrawn ?_ _) | (with_reducible refine Below.alloc ?_ ?_ _) | (with_reducible refine Below.drew ?_) | (with_reducible refine Below.setCell ?_ ?_ _) | go_size)))) h3 (by go_size)
      have z3_0 : w.heap.size < w3.heap.size := by omega
      have q3_0 := fun o => (bcell B3_1).1 (w.heap.size) o (by go_size)
      have f3_0 := fun o => (bcell B3_1).2 (w.heap.size) o (by go_size)
      have z3_1 : w.heap.size + 1 < w3.heap.size := by omega
      have q3_1 := fun o => (bcell B3_1).1 (w.heap.size + 1) o (by go_size)
      have f3_1 := fun o => (bcell B3_1).2 (w.heap.size + 1) o (by go_size)
      have z3_2 : w.heap.size + 1 + 1 < w3.heap.size := by omega
      have q3_2 := fun o => (bcell B3_1).1 (w.heap.size + 1 + 1) o (by go_size)
      have f3_2 := fun o => (bcell B3_1).2 (w.heap.size + 1 + 1) o (by go_size)
      have z3_3 : w.heap.size + 1 + 1 + 1 < w3.heap.size := by omega
      have q3_3 := fun o => (bcell B3_1).1 (w.heap.size + 1 + 1 + 1) o (by go_size)
      have f3_3 := fun o => (bcell B3_1).2 (w.heap.size + 1 + 1 + 1) o (by go_size)
      have z3_4 : w1.heap.size < w3.heap.size := by omega
      have q3_4 := fun o => (bcell B3_2).1 (w1.heap.size) o (by go_size)
      have f3_4 := fun o => (bcell B3_2).2 (w1.heap.size) o (by go_size)
      have H3 : Below w.heap.size w w3 := bthen (by repeat' (first | (with_reducible exact Below.refl _ _) | (with_reducible assumption) | (with_reducible refine bdrawn ?_ _) | (with_reducible refine Below.alloc ?_ ?_ _) | (with_reducible refine Below.drew ?_) | (with_reducible refine Below.setCell ?_ ?_ _) | go_size)) h3 (by go_size)
      have C3 := (bcell H3).1; have F3 := (bcell H3).2
      have P3 : Below w2.heap.size w2 w3 := bthen (by repeat' (first | (with_reducible exact Below.refl _ _) | (with_reducible assumption) | (with_reducible refine bdrawn ?_ _) | (with_reducible refine Below.alloc ?_ ?_ _) | (with_reducible refine Below.drew ?_) | (with_reducible refine Below.setCell ?_ ?_ _) | go_size)) h3 (by go_size)
      replace p := hide (p.out.below P3 (by omega))
      go_wp2_with fail
      refine bodyPost_ret (by simp [results, Try.results25, go_sem, *]; try rfl) rfl ?_
      exact ⟨P, rfl, p.out.ret (by simp) (by simp; omega) (by omega) _ _ _, HCP.out.trans HC.out, by go_grown⟩
    · have hq := HG.out
      unfold getA at hq
      rw [if_pos ⟨hok, hado⟩] at hq
      obtain ⟨hi0, hi1⟩ := adIdx_bd hado
      have hlc := (arOk_of hok).2.1
      obtain ⟨k, hk⟩ : ∃ k : Nat, adIdx g x = (k : Int) := ⟨(adIdx g x).toNat, by omega⟩
      rw [hk, Int.toNat_natCast] at hq
      have hkl : k < A.con.cs.length := by omega
      have HK := hide hk; have HQ := hide hq; have HKL := hide hkl; have HOK := hide hok
      clear hq hi0 hi1 hlc HG hk hkl
      go_enter Try.func25, Try.ntmps25
      go_wp2_with fail
      refine (impl_copyArray A _ (HA.out.below (B := w.heap.size) (by go_grown) (Nat.le_refl _)) HT.out).mono ?_
      rintro e w1 ⟨P, rfl, o1, hcp, h1⟩
      have s1 := h1.size
      try simp only [World.size_alloc, World.size_setCell, World.size_drew, World.heap_drewN] at s1
      have B1_1 := h1
      have z1_0 : w.heap.size < w1.heap.size := by omega
      have q1_0 := fun o => (bcell B1_1).1 (w.heap.size) o (by go_size)
      have f1_0 := fun o => (bcell B1_1).2 (w.heap.size) o (by go_size)
      have z1_1 : w.heap.size + 1 < w1.heap.size := by omega
      have q1_1 := fun o => (bcell B1_1).1 (w.heap.size + 1) o (by go_size)
      have f1_1 := fun o => (bcell B1_1).2 (w.heap.size + 1) o (by go_size)
      have z1_2 : w.heap.size + 1 + 1 < w1.heap.size := by omega
      have q1_2 := fun o => (bcell B1_1).1 (w.heap.size + 1 + 1) o (by go_size)
      have f1_2 := fun o => (bcell B1_1).2 (w.heap.size + 1 + 1) o (by go_size)
      have z1_3 : w.heap.size + 1 + 1 + 1 < w1.heap.size := by omega
      have q1_3 := fun o => (bcell B1_1).1 (w.heap.size + 1 + 1 + 1) o (by go_size)
      have f1_3 := fun o => (bcell B1_1).2 (w.heap.size + 1 + 1 + 1) o (by go_size)
      have H1 : Below w.heap.size w w1 := bthen (by repeat' (first | (with_reducible exact Below.refl _ _) | (with_reducible assumption) | (with_reducible refine bdrawn ?_ _) | (with_reducible refine Below.alloc ?_ ?_ _) | (with_reducible refine Below.drew ?_) | (with_reducible refine Below.setCell ?_ ?_ _) | go_size)) h1 (by go_size)
      have C1 := (bcell H1).1; have F1 := (bcell H1).2
      have p := hide o1
      clear o1
      have HCP := hide hcp; clear hcp
      go_wp2_with fail
      refine (impl_ArrayOk g A true _ hok (HA.out.below (B := w.heap.size) (bthen H1 (Below.alloc (Below.refl _ _) (Nat.le_refl _) _) (by omega)) (Nat.le_refl _)) HT.out).mono ?_
      rintro e w2 ⟨rfl, h2⟩
      have s2 := h2.size
      try simp only [World.size_alloc, World.size_setCell, World.size_drew, World.heap_drewN] at s2
      have B2_1 := bnext (by first | (with_reducible exact B1_1) | exact (bgrow B1_1 (by go_size) (by repeat' (first | (with_reducible exact Below.refl _ _) | (with_reducible assumption) | (with_reducible refine bdrawn ?_ _) | (with_reducible refine Below.alloc ?_ ?_ _) | (with_reducible refine Below.drew ?_) | (with_reducible refine Below.setCell ?_ ?_ _) | go_size)))) h2 (by go_size)
      have B2_2 := h2
      have z2_0 : w.heap.size < w2.heap.size := by omega
      have q2_0 := fun o => (bcell B2_1).1 (w.heap.size) o (by go_size)
      have f2_0 := fun o => (bcell B2_1).2 (w.heap.size) o (by go_size)
      have z2_1 : w.heap.size + 1 < w2.heap.size := by omega
      have q2_1 := fun o => (bcell B2_1).1 (w.heap.size + 1) o (by go_size)
      have f2_1 := fun o => (bcell B2_1).2 (w.heap.size + 1) o (by go_size)
      have z2_2 : w.heap.size + 1 + 1 < w2.heap.size := by omega
      have q2_2 := fun o => (bcell B2_1).1 (w.heap.size + 1 + 1) o (by go_size)
      have f2_2 := fun o => (bcell B2_1).2 (w.heap.size + 1 + 1) o (by go_size)
      have z2_3 : w.heap.size + 1 + 1 + 1 < w2.heap.size := by omega
      have q2_3 := fun o => (bcell B2_1).1 (w.heap.size + 1 + 1 + 1) o (by go_size)
      have f2_3 := fun o => (bcell B2_1).2 (w.heap.size + 1 + 1 + 1) o (by go_size)
      have z2_4 : w1.heap.size < w2.heap.size := by omega
      have q2_4 := fun o => (bcell B2_2).1 (w1.heap.size) o (by go_size)
      have f2_4 := fun o => (bcell B2_2).2 (w1.heap.size) o (by go_size)
      have H2 : Below w.heap.size w w2 := bthen (by repeat' (first | (with_reducible exact Below.refl _ _) | (with_reducible assumption) | (with_reducible refine bdrawn ?_ _) | (with_reducible refine Below.alloc ?_ ?_ _) | (with_reducible refine Below.drew ?_) | (with_reducible refine Below.setCell ?_ ?_ _) | go_size)) h2 (by go_size)
      have C2 := (bcell H2).1; have F2 := (bcell H2).2
      have P2 : Below w1.heap.size w1 w2 := bthen (by repeat' (first | (with_reducible exact Below.refl _ _) | (with_reducible assumption) | (with_reducible refine bdrawn ?_ _) | (with_reducible refine Below.alloc ?_ ?_ _) | (with_reducible refine Below.drew ?_) | (with_reducible refine Below.setCell ?_ ?_ _) | go_size)) h2 (by go_size)
      replace p := hide (p.out.below P2 (by omega))
      go_wp2_with fail
      refine (impl_AddrOk g x true _ hado).mono ?_
      rintro e w3 ⟨rfl, h3⟩
      have s3 := h3.size
      try simp only [World.size_alloc, World.size_setCell, World.size_drew, World.heap_drewN] at s3
      have B3_1 := bnext (by first | (with_reducible exact B2_1) | exact (bgrow B2_1 (by go_size) (by repeat' (first | (with_reducible exact Below.refl _ _) | (with_reducible assumption) | (with_reducible refine bdrawn ?_ _) | (with_reducible refine Below.alloc ?_ ?_ _) | (with_reducible refine Below.drew ?_) | (with_reducible refine Below.setCell ?_ ?_ _) | go_size)))) h3 (by go_size)
      have B3_2 := bnext (by first | (with_reducible exact B2_2) | exact (bgrow B2_2 (by go_size) (by repeat' (first | (with_reducible exact Below.refl _ _) | (with_reducible assumption) | (with_reducible refine bdrawn ?_ _) | (with_reducible refine Below.alloc ?_ ?_ _) | (with_reducible refine Below.drew ?_) | (with_reducible refine Below.setCell ?_ ?_ _) | go_size)))) h3 (by go_size)
      have z3_0 : w.heap.size < w3.heap.size := by omega
      have q3_0 := fun o => (bcell B3_1).1 (w.heap.size) o (by go_size)
      have f3_0 := fun o => (bcell B3_1).2 (w.heap.size) o (by go_size)
      have z3_1 : w.heap.size + 1 < w3.heap.size := by omega
      have q3_1 := fun o => (bcell B3_1).1 (w.heap.size + 1) o (by go_size)
      have f3_1 := fun o => (bcell B3_1).2 (w.heap.size + 1) o (by go_size)
      have z3_2 : w.heap.size + 1 + 1 < w3.heap.size := by omega
      have q3_2 := fun o => (bcell B3_1).1 (w.heap.size + 1 + 1) o (by go_size)
      have f3_2 := fun o => (bcell B3_1).2 (w.heap.size + 1 + 1) o (by go_size)
      have z3_3 : w.heap.size + 1 + 1 + 1 < w3.heap.size := by omega
      have q3_3 := fun o => (bcell B3_1).1 (w.heap.size + 1 + 1 + 1) o (by go_size)
      have f3_3 := fun o => (bcell B3_1).2 (w.heap.size + 1 + 1 + 1) o (by go_size)
      have z3_4 : w1.heap.size < w3.heap.size := by omega
      have q3_4 := fun o => (bcell B3_2).1 (w1.heap.size) o (by go_size)
      have f3_4 := fun o => (bcell B3_2).2 (w1.heap.size) o (by go_size)
      have H3 : Below w.heap.size w w3 := bthen (by repeat' (first | (with_reducible exact Below.refl _ _) | (with_reducible assumption) | (with_reducible refine bdrawn ?_ _) | (with_reducible refine Below.alloc ?_ ?_ _) | (with_reducible refine Below.drew ?_) | (with_reducible refine Below.setCell ?_ ?_ _) | go_size)) h3 (by go_size)
      have C3 := (bcell H3).1; have F3 := (bcell H3).2
      have P3 : Below w2.heap.size w2 w3 := bthen (by repeat' (first | (with_reducible exact Below.refl _ _) | (with_reducible assumption) | (with_reducible refine bdrawn ?_ _) | (with_reducible refine Below.alloc ?_ ?_ _) | (with_reducible refine Below.drew ?_) | (with_reducible refine Below.setCell ?_ ?_ _) | go_size)) h3 (by go_size)
      replace p := hide (p.out.below P3 (by omega))
      go_wp2_with fail
      refine (impl_AddrIndex g x (k : Nat) _ hado HK.out).mono ?_
      rintro e w4 ⟨rfl, h4⟩
      have s4 := h4.size
      try simp only [World.size_alloc, World.size_setCell, World.size_drew, World.heap_drewN] at s4
      have B4_1 := bnext (by first | (with_reducible exact B3_1) | exact (bgrow B3_1 (by go_size) (by repeat' (first | (with_reducible exact Below.refl _ _) | (with_reducible assumption) | (with_reducible refine bdrawn ?_ _) | (with_reducible refine Below.alloc ?_ ?_ _) | (with_reducible refine Below.drew ?_) | (with_reducible refine Below.setCell ?_ ?_ _) | go_size)))) h4 (by go_size)
      have B4_2 := bnext (by first | (with_reducible exact B3_2) | exact (bgrow B3_2 (by go_size) (by repeat' (first | (with_reducible exact Below.refl _ _) | (with_reducible assumption) | (with_reducible refine bdrawn ?_ _) | (with_reducible refine Below.alloc ?_ ?_ _) | (with_reducible refine Below.drew ?_) | (with_reducible refine Below.setCell ?_ ?_ _) | go_size)))) h4 (by go_size)
      have z4_0 : w.heap.size < w4.heap.size := by omega
      have q4_0 := fun o => (bcell B4_1).1 (w.heap.size) o (by go_size)
      have f4_0 := fun o => (bcell B4_1).2 (w.heap.size) o (by go_size)
      have z4_1 : w.heap.size + 1 < w4.heap.size := by omega
      have q4_1 := fun o => (bcell B4_1).1 (w.heap.size + 1) o (by go_size)
      have f4_1 := fun o => (bcell B4_1).2 (w.heap.size + 1) o (by go_size)
      have z4_2 : w.heap.size + 1 + 1 < w4.heap.size := by omega
      have q4_2 := fun o => (bcell B4_1).1 (w.heap.size + 1 + 1) o (by go_size)
      have f4_2 := fun o => (bcell B4_1).2 (w.heap.size + 1 + 1) o (by go_size)
      have z4_3 : w.heap.size + 1 + 1 + 1 < w4.heap.size := by omega
      have q4_3 := fun o => (bcell B4_1).1 (w.heap.size + 1 + 1 + 1) o (by go_size)
      have f4_3 := fun o => (bcell B4_1).2 (w.heap.size + 1 + 1 + 1) o (by go_size)
      have z4_4 : w1.heap.size < w4.heap.size := by omega
      have q4_4 := fun o => (bcell B4_2).1 (w1.heap.size) o (by go_size)
      have f4_4 := fun o => (bcell B4_2).2 (w1.heap.size) o (by go_size)
      have H4 : Below w.heap.size w w4 := bthen (by repeat' (first | (with_reducible exact Below.refl _ _) | (with_reducible assumption) | (with_reducible refine bdrawn ?_ _) | (with_reducible refine Below.alloc ?_ ?_ _) | (with_reducible refine Below.drew ?_) | (with_reducible refine Below.setCell ?_ ?_ _) | go_size)) h4 (by go_size)
      have C4 := (bcell H4).1; have F4 := (bcell H4).2
      have P4 : Below w3.heap.size w3 w4 := bthen (by repeat' (first | (with_reducible exact Below.refl _ _) | (with_reducible assumption) | (with_reducible refine bdrawn ?_ _) | (with_reducible refine Below.alloc ?_ ?_ _) | (with_reducible refine Below.drew ?_) | (with_reducible refine Below.setCell ?_ ?_ _) | go_size)) h4 (by go_size)
      replace p := hide (p.out.below P4 (by omega))
      have hF := Half.of (p := w1.heap.size) p.out (by omega) ((B4_2.block w1.heap.size (by simp)).trans (alloc_at _ _ _ rfl)) (.inr (Nat.le_refl _))
      obtain ⟨e, he, hce⟩ := con_at HCP.out HKL.out
      have hsy := sym_at HOK.out HKL.out hce
      have hcap := caps_n p.out
      obtain ⟨⟨r0, r1, r2⟩, hr⟩ : ∃ r, getC (conC e) = r := ⟨_, rfl⟩
      have hq := HQ.out
      unfold rdAt at hq
      rw [← hce, hr] at hq
      injection hq with hq1 hq; injection hq with hq2 hq3
      have HQ1 := hide hq1
      simp only at hq2 hq3
      subst hq2 hq3
      have HHF := hide hF; have HHE := hide he; have HHR := hide hr; have HSY := hide hsy; have HCA := hide hcap
      clear hF he hce hsy hr hq1 hcap
      go_wp2_with fail
      refine (impl_fetch _ _ P k e r0 r1 r2 _ HHF.out HHE.out HCA.out HSY.out HHR.out).mono ?_
      rintro ex w5 ⟨e', rfl, hce', hF5, hOne⟩
      have hsv := OneW.save (lo := w.heap.size + 1 + 1 + 1 + 1) (hi := w1.heap.size) hOne (fun y hy => by have := p.out.outer.lt hy; simp only [World.size_alloc] at this; omega)
      have s5 := hsv.size
      have x3 := fun o => World.cell?_of_block (a := ⟨w.heap.size + 1 + 1 + 1, o, none⟩) (hsv.block (w.heap.size + 1 + 1 + 1) (by omega) (.inl (by omega)))
      have y3 := fun o => World.frozen?_of_block (a := ⟨w.heap.size + 1 + 1 + 1, o, none⟩) (hsv.block (w.heap.size + 1 + 1 + 1) (by omega) (.inl (by omega)))
      have z3 : w.heap.size + 1 + 1 + 1 < w5.heap.size := by omega
      have c0 := cell_blk hF5.blk 0; have c1 := cell_blk hF5.blk 1; have c2 := cell_blk hF5.blk 2
      have z4 := hF5.lt
      have H5 : Below w.heap.size w w5 := bthen H4 (Save.below hsv (by omega)) (by omega)
      have HF5 := hide hF5
      have HCE := hide hce'
      clear hF5 hOne hce' hsv
      go_wp2_with fail
      refine bodyPost_ret (by simp [results, Try.results25, go_sem, *]; try rfl) rfl ?_
      exact ⟨{ P with es := P.es.set k e' }, rfl, HF5.out.own.ret (by simp) (by simp; omega) (Nat.le_refl _) _ _ _, by rw [con_set HCP.out, HCE.out]; exact HQ1.out, by go_grown⟩
set_option maxRecDepth 100000 in
set_option maxHeartbeats 4000000 in
theorem spec_GetWord (g : Ge) (A : Ar) (x : Ad) (C' : Con) (v code : Int) (w : World) (hg : getA g A.con x = (C', v, code)) (hA : IsAr w A) (ht : A.tot ≤ 1048576) :
    Calls Try.prog 24 #[.agg #[.int .i64 g.gr, .int .i64 g.bk, .int .i64 g.rw, .int .i64 g.cl], .agg #[.slice A.a A.n A.c, .slice A.ag.1.a A.ag.1.n A.ag.1.c, .slice A.ht.1.a A.ht.1.n A.ht.1.c], .agg #[.int .i64 x.b, .int .i64 x.r, .int .i64 x.c]] w (GotAr3 w C' v code) := by
  have HA := hide hA; have HT := hide ht; have HG := hide hg
  clear hA ht hg
  cases hok : arOk g A.con
  · have hq := HG.out
    unfold getA at hq
    rw [if_neg (by rw [hok]; simp)] at hq
    injection hq with hq1 hq; injection hq with hq2 hq3
    have HC := hide hq1
    subst hq2 hq3
    clear hq1 HG
    go_enter Try.func24, Try.ntmps24
    go_wp2_with fail
    refine (spec_l14Copy A _ (HA.out.below (B := w.heap.size) (by go_grown) (Nat.le_refl _)) HT.out).mono ?_
    rintro e w1 ⟨P, rfl, o1, hcp, h1⟩
    have s1 := h1.size
    try simp only [World.size_alloc, World.size_setCell, World.size_drew, World.heap_drewN] at s1
    have B1_1 := h1
    have z1_0 : w.heap.size < w1.heap.size := by omega
    have q1_0 := fun o => (bcell B1_1).1 (w.heap.size) o (by go_size)
    have f1_0 := fun o => (bcell B1_1).2 (w.heap.size) o (by go_size)
    have z1_1 : w.heap.size + 1 < w1.heap.size := by omega
    have q1_1 := fun o => (bcell B1_1).1 (w.heap.size + 1) o (by go_size)
    have f1_1 := fun o => (bcell B1_1).2 (w.heap.size + 1) o (by go_size)
    have z1_2 : w.heap.size + 1 + 1 < w1.heap.size := by omega
    have q1_2 := fun o => (bcell B1_1).1 (w.heap.size + 1 + 1) o (by go_size)
    have f1_2 := fun o => (bcell B1_1).2 (w.heap.size + 1 + 1) o (by go_size)
    have z1_3 : w.heap.size + 1 + 1 + 1 < w1.heap.size := by omega
    have q1_3 := fun o => (bcell B1_1).1 (w.heap.size + 1 + 1 + 1) o (by go_size)
    have f1_3 := fun o => (bcell B1_1).2 (w.heap.size + 1 + 1 + 1) o (by go_size)
    have H1 : Below w.heap.size w w1 := bthen (by repeat' (first | (with_reducible exact Below.refl _ _) | (with_reducible assumption) | (with_reducible refine bdrawn ?_ _) | (with_reducible refine Below.alloc ?_ ?_ _) | (with_reducible refine Below.drew ?_) | (with_reducible refine Below.setCell ?_ ?_ _) | go_size)) h1 (by go_size)
    have C1 := (bcell H1).1; have F1 := (bcell H1).2
    have p := hide o1
    clear o1
    have HCP := hide hcp; clear hcp
    go_wp2_with fail
    refine (spec_ArrayOk g A false _ hok (HA.out.below (B := w.heap.size) (bthen H1 (Below.alloc (Below.refl _ _) (Nat.le_refl _) _) (by omega)) (Nat.le_refl _)) HT.out).mono ?_
    rintro e w2 ⟨rfl, h2⟩
    have s2 := h2.size
    try simp only [World.size_alloc, World.size_setCell, World.size_drew, World.heap_drewN] at s2
    have B2_1 := bnext (by first | (with_reducible exact B1_1) | exact (bgrow B1_1 (by go_size) (by repeat' (first | (with_reducible exact Below.refl _ _) | (with_reducible assumption) | (with_reducible refine bdrawn ?_ _) | (with_reducible refine Below.alloc ?_ ?_ _) | (with_reducible refine Below.drew ?_) | (with_reducible refine Below.setCell ?_ ?_ _) | go_size)))) h2 (by go_size)
    have B2_2 := h2
    have z2_0 : w.heap.size < w2.heap.size := by omega
    have q2_0 := fun o => (bcell B2_1).1 (w.heap.size) o (by go_size)
    have f2_0 := fun o => (bcell B2_1).2 (w.heap.size) o (by go_size)
    have z2_1 : w.heap.size + 1 < w2.heap.size := by omega
    have q2_1 := fun o => (bcell B2_1).1 (w.heap.size + 1) o (by go_size)
    have f2_1 := fun o => (bcell B2_1).2 (w.heap.size + 1) o (by go_size)
    have z2_2 : w.heap.size + 1 + 1 < w2.heap.size := by omega
    have q2_2 := fun o => (bcell B2_1).1 (w.heap.size + 1 + 1) o (by go_size)
    have f2_2 := fun o => (bcell B2_1).2 (w.heap.size + 1 + 1) o (by go_size)
    have z2_3 : w.heap.size + 1 + 1 + 1 < w2.heap.size := by omega
    have q2_3 := fun o => (bcell B2_1).1 (w.heap.size + 1 + 1 + 1) o (by go_size)
    have f2_3 := fun o => (bcell B2_1).2 (w.heap.size + 1 + 1 + 1) o (by go_size)
    have z2_4 : w1.heap.size < w2.heap.size := by omega
    have q2_4 := fun o => (bcell B2_2).1 (w1.heap.size) o (by go_size)
    have f2_4 := fun o => (bcell B2_2).2 (w1.heap.size) o (by go_size)
    have H2 : Below w.heap.size w w2 := bthen (by repeat' (first | (with_reducible exact Below.refl _ _) | (with_reducible assumption) | (with_reducible refine bdrawn ?_ _) | (with_reducible refine Below.alloc ?_ ?_ _) | (with_reducible refine Below.drew ?_) | (with_reducible refine Below.setCell ?_ ?_ _) | go_size)) h2 (by go_size)
    have C2 := (bcell H2).1; have F2 := (bcell H2).2
    have P2 : Below w1.heap.size w1 w2 := bthen (by repeat' (first | (with_reducible exact Below.refl _ _) | (with_reducible assumption) | (with_reducible refine bdrawn ?_ _) | (with_reducible refine Below.alloc ?_ ?_ _) | (with_reducible refine Below.drew ?_) | (with_reducible refine Below.setCell ?_ ?_ _) | go_size)) h2 (by go_size)
    replace p := hide (p.out.below P2 (by omega))
    go_wp2_with fail
    refine bodyPost_ret (by simp [results, Try.results24, go_sem, *]; try rfl) rfl ?_
    exact ⟨P, rfl, p.out.ret (by simp) (by simp; omega) (by omega) _ _ _, HCP.out.trans HC.out, by go_grown⟩
  · cases hado : adOk g x
    · have hq := HG.out
      unfold getA at hq
      rw [if_neg (by rw [hado]; simp)] at hq
      injection hq with hq1 hq; injection hq with hq2 hq3
      have HC := hide hq1
      subst hq2 hq3
      clear hq1 HG
      go_enter Try.func24, Try.ntmps24
      go_wp2_with fail
      refine (spec_l14Copy A _ (HA.out.below (B := w.heap.size) (by go_grown) (Nat.le_refl _)) HT.out).mono ?_
      rintro e w1 ⟨P, rfl, o1, hcp, h1⟩
      have s1 := h1.size
      try simp only [World.size_alloc, World.size_setCell, World.size_drew, World.heap_drewN] at s1
      have B1_1 := h1
      have z1_0 : w.heap.size < w1.heap.size := by omega
      have q1_0 := fun o => (bcell B1_1).1 (w.heap.size) o (by go_size)
      have f1_0 := fun o => (bcell B1_1).2 (w.heap.size) o (by go_size)
      have z1_1 : w.heap.size + 1 < w1.heap.size := by omega
      have q1_1 := fun o => (bcell B1_1).1 (w.heap.size + 1) o (by go_size)
      have f1_1 := fun o => (bcell B1_1).2 (w.heap.size + 1) o (by go_size)
      have z1_2 : w.heap.size + 1 + 1 < w1.heap.size := by omega
      have q1_2 := fun o => (bcell B1_1).1 (w.heap.size + 1 + 1) o (by go_size)
      have f1_2 := fun o => (bcell B1_1).2 (w.heap.size + 1 + 1) o (by go_size)
      have z1_3 : w.heap.size + 1 + 1 + 1 < w1.heap.size := by omega
      have q1_3 := fun o => (bcell B1_1).1 (w.heap.size + 1 + 1 + 1) o (by go_size)
      have f1_3 := fun o => (bcell B1_1).2 (w.heap.size + 1 + 1 + 1) o (by go_size)
      have H1 : Below w.heap.size w w1 := bthen (by repeat' (first | (with_reducible exact Below.refl _ _) | (with_reducible assumption) | (with_reducible refine bdrawn ?_ _) | (with_reducible refine Below.alloc ?_ ?_ _) | (with_reducible refine Below.drew ?_) | (with_reducible refine Below.setCell ?_ ?_ _) | go_size)) h1 (by go_size)
      have C1 := (bcell H1).1; have F1 := (bcell H1).2
      have p := hide o1
      clear o1
      have HCP := hide hcp; clear hcp
      go_wp2_with fail
      refine (spec_ArrayOk g A true _ hok (HA.out.below (B := w.heap.size) (bthen H1 (Below.alloc (Below.refl _ _) (Nat.le_refl _) _) (by omega)) (Nat.le_refl _)) HT.out).mono ?_
      rintro e w2 ⟨rfl, h2⟩
      have s2 := h2.size
      try simp only [World.size_alloc, World.size_setCell, World.size_drew, World.heap_drewN] at s2
      have B2_1 := bnext (by first | (with_reducible exact B1_1) | exact (bgrow B1_1 (by go_size) (by repeat' (first | (with_reducible exact Below.refl _ _) | (with_reducible assumption) | (with_reducible refine bdrawn ?_ _) | (with_reducible refine Below.alloc ?_ ?_ _) | (with_reducible refine Below.drew ?_) | (with_reducible refine Below.setCell ?_ ?_ _) | go_size)))) h2 (by go_size)
      have B2_2 := h2
      have z2_0 : w.heap.size < w2.heap.size := by omega
      have q2_0 := fun o => (bcell B2_1).1 (w.heap.size) o (by go_size)
      have f2_0 := fun o => (bcell B2_1).2 (w.heap.size) o (by go_size)
      have z2_1 : w.heap.size + 1 < w2.heap.size := by omega
      have q2_1 := fun o => (bcell B2_1).1 (w.heap.size + 1) o (by go_size)
      have f2_1 := fun o => (bcell B2_1).2 (w.heap.size + 1) o (by go_size)
      have z2_2 : w.heap.size + 1 + 1 < w2.heap.size := by omega
      have q2_2 := fun o => (bcell B2_1).1 (w.heap.size + 1 + 1) o (by go_size)
      have f2_2 := fun o => (bcell B2_1).2 (w.heap.size + 1 + 1) o (by go_size)
      have z2_3 : w.heap.size + 1 + 1 + 1 < w2.heap.size := by omega
      have q2_3 := fun o => (bcell B2_1).1 (w.heap.size + 1 + 1 + 1) o (by go_size)
      have f2_3 := fun o => (bcell B2_1).2 (w.heap.size + 1 + 1 + 1) o (by go_size)
      have z2_4 : w1.heap.size < w2.heap.size := by omega
      have q2_4 := fun o => (bcell B2_2).1 (w1.heap.size) o (by go_size)
      have f2_4 := fun o => (bcell B2_2).2 (w1.heap.size) o (by go_size)
      have H2 : Below w.heap.size w w2 := bthen (by repeat' (first | (with_reducible exact Below.refl _ _) | (with_reducible assumption) | (with_reducible refine bdrawn ?_ _) | (with_reducible refine Below.alloc ?_ ?_ _) | (with_reducible refine Below.drew ?_) | (with_reducible refine Below.setCell ?_ ?_ _) | go_size)) h2 (by go_size)
      have C2 := (bcell H2).1; have F2 := (bcell H2).2
      have P2 : Below w1.heap.size w1 w2 := bthen (by repeat' (first | (with_reducible exact Below.refl _ _) | (with_reducible assumption) | (with_reducible refine bdrawn ?_ _) | (with_reducible refine Below.alloc ?_ ?_ _) | (with_reducible refine Below.drew ?_) | (with_reducible refine Below.setCell ?_ ?_ _) | go_size)) h2 (by go_size)
      replace p := hide (p.out.below P2 (by omega))
      go_wp2_with fail
      refine (spec_AddrOk g x false _ hado).mono ?_
      rintro e w3 ⟨rfl, h3⟩
      have s3 := h3.size
      try simp only [World.size_alloc, World.size_setCell, World.size_drew, World.heap_drewN] at s3
      have B3_1 := bnext (by first | (with_reducible exact B2_1) | exact (bgrow B2_1 (by go_size) (by repeat' (first | (with_reducible exact Below.refl _ _) | (with_reducible assumption) | (with_reducible refine bdrawn ?_ _) | (with_reducible refine Below.alloc ?_ ?_ _) | (with_reducible refine Below.drew ?_) | (with_reducible refine Below.setCell ?_ ?_ _) | go_size)))) h3 (by go_size)
      have B3_2 := bnext (by first | (with_reducible exact B2_2) | exact (bgrow B2_2 (by go_size) (by repeat' (first | (with_reducible exact Below.refl _ _) | (with_reducible assumption) | (with_reducible refine bdrawn ?_ _) | (with_reducible refine Below.alloc ?_ ?_ _) | (with_reducible refine Below.drew ?_) | (with_reducible refine Below.setCell ?_ ?_ _) | go_size)))) h3 (by go_size)
      have z3_0 : w.heap.size < w3.heap.size := by omega
      have q3_0 := fun o => (bcell B3_1).1 (w.heap.size) o (by go_size)
      have f3_0 := fun o => (bcell B3_1).2 (w.heap.size) o (by go_size)
      have z3_1 : w.heap.size + 1 < w3.heap.size := by omega
      have q3_1 := fun o => (bcell B3_1).1 (w.heap.size + 1) o (by go_size)
      have f3_1 := fun o => (bcell B3_1).2 (w.heap.size + 1) o (by go_size)
      have z3_2 : w.heap.size + 1 + 1 < w3.heap.size := by omega
      have q3_2 := fun o => (bcell B3_1).1 (w.heap.size + 1 + 1) o (by go_size)
      have f3_2 := fun o => (bcell B3_1).2 (w.heap.size + 1 + 1) o (by go_size)
      have z3_3 : w.heap.size + 1 + 1 + 1 < w3.heap.size := by omega
      have q3_3 := fun o => (bcell B3_1).1 (w.heap.size + 1 + 1 + 1) o (by go_size)
      have f3_3 := fun o => (bcell B3_1).2 (w.heap.size + 1 + 1 + 1) o (by go_size)
      have z3_4 : w1.heap.size < w3.heap.size := by omega
      have q3_4 := fun o => (bcell B3_2).1 (w1.heap.size) o (by go_size)
      have f3_4 := fun o => (bcell B3_2).2 (w1.heap.size) o (by go_size)
      have H3 : Below w.heap.size w w3 := bthen (by repeat' (first | (with_reducible exact Below.refl _ _) | (with_reducible assumption) | (with_reducible refine bdrawn ?_ _) | (with_reducible refine Below.alloc ?_ ?_ _) | (with_reducible refine Below.drew ?_) | (with_reducible refine Below.setCell ?_ ?_ _) | go_size)) h3 (by go_size)
      have C3 := (bcell H3).1; have F3 := (bcell H3).2
      have P3 : Below w2.heap.size w2 w3 := bthen (by repeat' (first | (with_reducible exact Below.refl _ _) | (with_reducible assumption) | (with_reducible refine bdrawn ?_ _) | (with_reducible refine Below.alloc ?_ ?_ _) | (with_reducible refine Below.drew ?_) | (with_reducible refine Below.setCell ?_ ?_ _) | go_size)) h3 (by go_size)
      replace p := hide (p.out.below P3 (by omega))
      go_wp2_with fail
      refine bodyPost_ret (by simp [results, Try.results24, go_sem, *]; try rfl) rfl ?_
      exact ⟨P, rfl, p.out.ret (by simp) (by simp; omega) (by omega) _ _ _, HCP.out.trans HC.out, by go_grown⟩
    · have hq := HG.out
      unfold getA at hq
      rw [if_pos ⟨hok, hado⟩] at hq
      obtain ⟨hi0, hi1⟩ := adIdx_bd hado
      have hlc := (arOk_of hok).2.1
      obtain ⟨k, hk⟩ : ∃ k : Nat, adIdx g x = (k : Int) := ⟨(adIdx g x).toNat, by omega⟩
      rw [hk, Int.toNat_natCast] at hq
      have hkl : k < A.con.cs.length := by omega
      have HK := hide hk; have HQ := hide hq; have HKL := hide hkl; have HOK := hide hok
      clear hq hi0 hi1 hlc HG hk hkl
      go_enter Try.func24, Try.ntmps24
      go_wp2_with fail
      refine (spec_l14Copy A _ (HA.out.below (B := w.heap.size) (by go_grown) (Nat.le_refl _)) HT.out).mono ?_
      rintro e w1 ⟨P, rfl, o1, hcp, h1⟩
      have s1 := h1.size
      try simp only [World.size_alloc, World.size_setCell, World.size_drew, World.heap_drewN] at s1
      have B1_1 := h1
      have z1_0 : w.heap.size < w1.heap.size := by omega
      have q1_0 := fun o => (bcell B1_1).1 (w.heap.size) o (by go_size)
      have f1_0 := fun o => (bcell B1_1).2 (w.heap.size) o (by go_size)
      have z1_1 : w.heap.size + 1 < w1.heap.size := by omega
      have q1_1 := fun o => (bcell B1_1).1 (w.heap.size + 1) o (by go_size)
      have f1_1 := fun o => (bcell B1_1).2 (w.heap.size + 1) o (by go_size)
      have z1_2 : w.heap.size + 1 + 1 < w1.heap.size := by omega
      have q1_2 := fun o => (bcell B1_1).1 (w.heap.size + 1 + 1) o (by go_size)
      have f1_2 := fun o => (bcell B1_1).2 (w.heap.size + 1 + 1) o (by go_size)
      have z1_3 : w.heap.size + 1 + 1 + 1 < w1.heap.size := by omega
      have q1_3 := fun o => (bcell B1_1).1 (w.heap.size + 1 + 1 + 1) o (by go_size)
      have f1_3 := fun o => (bcell B1_1).2 (w.heap.size + 1 + 1 + 1) o (by go_size)
      have H1 : Below w.heap.size w w1 := bthen (by repeat' (first | (with_reducible exact Below.refl _ _) | (with_reducible assumption) | (with_reducible refine bdrawn ?_ _) | (with_reducible refine Below.alloc ?_ ?_ _) | (with_reducible refine Below.drew ?_) | (with_reducible refine Below.setCell ?_ ?_ _) | go_size)) h1 (by go_size)
      have C1 := (bcell H1).1; have F1 := (bcell H1).2
      have p := hide o1
      clear o1
      have HCP := hide hcp; clear hcp
      go_wp2_with fail
      refine (spec_ArrayOk g A true _ hok (HA.out.below (B := w.heap.size) (bthen H1 (Below.alloc (Below.refl _ _) (Nat.le_refl _) _) (by omega)) (Nat.le_refl _)) HT.out).mono ?_
      rintro e w2 ⟨rfl, h2⟩
      have s2 := h2.size
      try simp only [World.size_alloc, World.size_setCell, World.size_drew, World.heap_drewN] at s2
      have B2_1 := bnext (by first | (with_reducible exact B1_1) | exact (bgrow B1_1 (by go_size) (by repeat' (first | (with_reducible exact Below.refl _ _) | (with_reducible assumption) | (with_reducible refine bdrawn ?_ _) | (with_reducible refine Below.alloc ?_ ?_ _) | (with_reducible refine Below.drew ?_) | (with_reducible refine Below.setCell ?_ ?_ _) | go_size)))) h2 (by go_size)
      have B2_2 := h2
      have z2_0 : w.heap.size < w2.heap.size := by omega
      have q2_0 := fun o => (bcell B2_1).1 (w.heap.size) o (by go_size)
      have f2_0 := fun o => (bcell B2_1).2 (w.heap.size) o (by go_size)
      have z2_1 : w.heap.size + 1 < w2.heap.size := by omega
      have q2_1 := fun o => (bcell B2_1).1 (w.heap.size + 1) o (by go_size)
      have f2_1 := fun o => (bcell B2_1).2 (w.heap.size + 1) o (by go_size)
      have z2_2 : w.heap.size + 1 + 1 < w2.heap.size := by omega
      have q2_2 := fun o => (bcell B2_1).1 (w.heap.size + 1 + 1) o (by go_size)
      have f2_2 := fun o => (bcell B2_1).2 (w.heap.size + 1 + 1) o (by go_size)
      have z2_3 : w.heap.size + 1 + 1 + 1 < w2.heap.size := by omega
      have q2_3 := fun o => (bcell B2_1).1 (w.heap.size + 1 + 1 + 1) o (by go_size)
      have f2_3 := fun o => (bcell B2_1).2 (w.heap.size + 1 + 1 + 1) o (by go_size)
      have z2_4 : w1.heap.size < w2.heap.size := by omega
      have q2_4 := fun o => (bcell B2_2).1 (w1.heap.size) o (by go_size)
      have f2_4 := fun o => (bcell B2_2).2 (w1.heap.size) o (by go_size)
      have H2 : Below w.heap.size w w2 := bthen (by repeat' (first | (with_reducible exact Below.refl _ _) | (with_reducible assumption) | (with_reducible refine bdrawn ?_ _) | (with_reducible refine Below.alloc ?_ ?_ _) | (with_reducible refine Below.drew ?_) | (with_reducible refine Below.setCell ?_ ?_ _) | go_size)) h2 (by go_size)
      have C2 := (bcell H2).1; have F2 := (bcell H2).2
      have P2 : Below w1.heap.size w1 w2 := bthen (by repeat' (first | (with_reducible exact Below.refl _ _) | (with_reducible assumption) | (with_reducible refine bdrawn ?_ _) | (with_reducible refine Below.alloc ?_ ?_ _) | (with_reducible refine Below.drew ?_) | (with_reducible refine Below.setCell ?_ ?_ _) | go_size)) h2 (by go_size)
      replace p := hide (p.out.below P2 (by omega))
      go_wp2_with fail
      refine (spec_AddrOk g x true _ hado).mono ?_
      rintro e w3 ⟨rfl, h3⟩
      have s3 := h3.size
      try simp only [World.size_alloc, World.size_setCell, World.size_drew, World.heap_drewN] at s3
      have B3_1 := bnext (by first | (with_reducible exact B2_1) | exact (bgrow B2_1 (by go_size) (by repeat' (first | (with_reducible exact Below.refl _ _) | (with_reducible assumption) | (with_reducible refine bdrawn ?_ _) | (with_reducible refine Below.alloc ?_ ?_ _) | (with_reducible refine Below.drew ?_) | (with_reducible refine Below.setCell ?_ ?_ _) | go_size)))) h3 (by go_size)
      have B3_2 := bnext (by first | (with_reducible exact B2_2) | exact (bgrow B2_2 (by go_size) (by repeat' (first | (with_reducible exact Below.refl _ _) | (with_reducible assumption) | (with_reducible refine bdrawn ?_ _) | (with_reducible refine Below.alloc ?_ ?_ _) | (with_reducible refine Below.drew ?_) | (with_reducible refine Below.setCell ?_ ?_ _) | go_size)))) h3 (by go_size)
      have z3_0 : w.heap.size < w3.heap.size := by omega
      have q3_0 := fun o => (bcell B3_1).1 (w.heap.size) o (by go_size)
      have f3_0 := fun o => (bcell B3_1).2 (w.heap.size) o (by go_size)
      have z3_1 : w.heap.size + 1 < w3.heap.size := by omega
      have q3_1 := fun o => (bcell B3_1).1 (w.heap.size + 1) o (by go_size)
      have f3_1 := fun o => (bcell B3_1).2 (w.heap.size + 1) o (by go_size)
      have z3_2 : w.heap.size + 1 + 1 < w3.heap.size := by omega
      have q3_2 := fun o => (bcell B3_1).1 (w.heap.size + 1 + 1) o (by go_size)
      have f3_2 := fun o => (bcell B3_1).2 (w.heap.size + 1 + 1) o (by go_size)
      have z3_3 : w.heap.size + 1 + 1 + 1 < w3.heap.size := by omega
      have q3_3 := fun o => (bcell B3_1).1 (w.heap.size + 1 + 1 + 1) o (by go_size)
      have f3_3 := fun o => (bcell B3_1).2 (w.heap.size + 1 + 1 + 1) o (by go_size)
      have z3_4 : w1.heap.size < w3.heap.size := by omega
      have q3_4 := fun o => (bcell B3_2).1 (w1.heap.size) o (by go_size)
      have f3_4 := fun o => (bcell B3_2).2 (w1.heap.size) o (by go_size)
      have H3 : Below w.heap.size w w3 := bthen (by repeat' (first | (with_reducible exact Below.refl _ _) | (with_reducible assumption) | (with_reducible refine bdrawn ?_ _) | (with_reducible refine Below.alloc ?_ ?_ _) | (with_reducible refine Below.drew ?_) | (with_reducible refine Below.setCell ?_ ?_ _) | go_size)) h3 (by go_size)
      have C3 := (bcell H3).1; have F3 := (bcell H3).2
      have P3 : Below w2.heap.size w2 w3 := bthen (by repeat' (first | (with_reducible exact Below.refl _ _) | (with_reducible assumption) | (with_reducible refine bdrawn ?_ _) | (with_reducible refine Below.alloc ?_ ?_ _) | (with_reducible refine Below.drew ?_) | (with_reducible refine Below.setCell ?_ ?_ _) | go_size)) h3 (by go_size)
      replace p := hide (p.out.below P3 (by omega))
      go_wp2_with fail
      refine (spec_AddrIndex g x (k : Nat) _ hado HK.out).mono ?_
      rintro e w4 ⟨rfl, h4⟩
      have s4 := h4.size
      try simp only [World.size_alloc, World.size_setCell, World.size_drew, World.heap_drewN] at s4
      have B4_1 := bnext (by first | (with_reducible exact B3_1) | exact (bgrow B3_1 (by go_size) (by repeat' (first | (with_reducible exact Below.refl _ _) | (with_reducible assumption) | (with_reducible refine bdrawn ?_ _) | (with_reducible refine Below.alloc ?_ ?_ _) | (with_reducible refine Below.drew ?_) | (with_reducible refine Below.setCell ?_ ?_ _) | go_size)))) h4 (by go_size)
      have B4_2 := bnext (by first | (with_reducible exact B3_2) | exact (bgrow B3_2 (by go_size) (by repeat' (first | (with_reducible exact Below.refl _ _) | (with_reducible assumption) | (with_reducible refine bdrawn ?_ _) | (with_reducible refine Below.alloc ?_ ?_ _) | (with_reducible refine Below.drew ?_) | (with_reducible refine Below.setCell ?_ ?_ _) | go_size)))) h4 (by go_size)
      have z4_0 : w.heap.size < w4.heap.size := by omega
      have q4_0 := fun o => (bcell B4_1).1 (w.heap.size) o (by go_size)
      have f4_0 := fun o => (bcell B4_1).2 (w.heap.size) o (by go_size)
      have z4_1 : w.heap.size + 1 < w4.heap.size := by omega
      have q4_1 := fun o => (bcell B4_1).1 (w.heap.size + 1) o (by go_size)
      have f4_1 := fun o => (bcell B4_1).2 (w.heap.size + 1) o (by go_size)
      have z4_2 : w.heap.size + 1 + 1 < w4.heap.size := by omega
      have q4_2 := fun o => (bcell B4_1).1 (w.heap.size + 1 + 1) o (by go_size)
      have f4_2 := fun o => (bcell B4_1).2 (w.heap.size + 1 + 1) o (by go_size)
      have z4_3 : w.heap.size + 1 + 1 + 1 < w4.heap.size := by omega
      have q4_3 := fun o => (bcell B4_1).1 (w.heap.size + 1 + 1 + 1) o (by go_size)
      have f4_3 := fun o => (bcell B4_1).2 (w.heap.size + 1 + 1 + 1) o (by go_size)
      have z4_4 : w1.heap.size < w4.heap.size := by omega
      have q4_4 := fun o => (bcell B4_2).1 (w1.heap.size) o (by go_size)
      have f4_4 := fun o => (bcell B4_2).2 (w1.heap.size) o (by go_size)
      have H4 : Below w.heap.size w w4 := bthen (by repeat' (first | (with_reducible exact Below.refl _ _) | (with_reducible assumption) | (with_reducible refine bdrawn ?_ _) | (with_reducible refine Below.alloc ?_ ?_ _) | (with_reducible refine Below.drew ?_) | (with_reducible refine Below.setCell ?_ ?_ _) | go_size)) h4 (by go_size)
      have C4 := (bcell H4).1; have F4 := (bcell H4).2
      have P4 : Below w3.heap.size w3 w4 := bthen (by repeat' (first | (with_reducible exact Below.refl _ _) | (with_reducible assumption) | (with_reducible refine bdrawn ?_ _) | (with_reducible refine Below.alloc ?_ ?_ _) | (with_reducible refine Below.drew ?_) | (with_reducible refine Below.setCell ?_ ?_ _) | go_size)) h4 (by go_size)
      replace p := hide (p.out.below P4 (by omega))
      have hF := Half.of (p := w1.heap.size) p.out (by omega) ((B4_2.block w1.heap.size (by simp)).trans (alloc_at _ _ _ rfl)) (.inr (Nat.le_refl _))
      obtain ⟨e, he, hce⟩ := con_at HCP.out HKL.out
      have hsy := sym_at HOK.out HKL.out hce
      have hcap := caps_n p.out
      obtain ⟨⟨r0, r1, r2⟩, hr⟩ : ∃ r, getC (conC e) = r := ⟨_, rfl⟩
      have hq := HQ.out
      unfold rdAt at hq
      rw [← hce, hr] at hq
      injection hq with hq1 hq; injection hq with hq2 hq3
      have HQ1 := hide hq1
      simp only at hq2 hq3
      subst hq2 hq3
      have HHF := hide hF; have HHE := hide he; have HHR := hide hr; have HSY := hide hsy; have HCA := hide hcap
      clear hF he hce hsy hr hq1 hcap
      go_wp2_with fail
      refine (spec_l25Get _ _ P k e r0 r1 r2 _ HHF.out HHE.out HCA.out HSY.out HHR.out).mono ?_
      rintro ex w5 ⟨e', rfl, hce', hF5, hOne⟩
      have hsv := OneW.save (lo := w.heap.size + 1 + 1 + 1 + 1) (hi := w1.heap.size) hOne (fun y hy => by have := p.out.outer.lt hy; simp only [World.size_alloc] at this; omega)
      have s5 := hsv.size
      have x3 := fun o => World.cell?_of_block (a := ⟨w.heap.size + 1 + 1 + 1, o, none⟩) (hsv.block (w.heap.size + 1 + 1 + 1) (by omega) (.inl (by omega)))
      have y3 := fun o => World.frozen?_of_block (a := ⟨w.heap.size + 1 + 1 + 1, o, none⟩) (hsv.block (w.heap.size + 1 + 1 + 1) (by omega) (.inl (by omega)))
      have z3 : w.heap.size + 1 + 1 + 1 < w5.heap.size := by omega
      have c0 := cell_blk hF5.blk 0; have c1 := cell_blk hF5.blk 1; have c2 := cell_blk hF5.blk 2
      have z4 := hF5.lt
      have H5 : Below w.heap.size w w5 := bthen H4 (Save.below hsv (by omega)) (by omega)
      have HF5 := hide hF5
      have HCE := hide hce'
      clear hF5 hOne hce' hsv
      go_wp2_with fail
      refine bodyPost_ret (by simp [results, Try.results24, go_sem, *]; try rfl) rfl ?_
      exact ⟨{ P with es := P.es.set k e' }, rfl, HF5.out.own.ret (by simp) (by simp; omega) (Nat.le_refl _) _ _ _, by rw [con_set HCP.out, HCE.out]; exact HQ1.out, by go_grown⟩
set_option maxRecDepth 100000 in
set_option maxHeartbeats 4000000 in
theorem impl_ScrubLine (g : Ge) (A : Ar) (n : Int) (C' : Con) (code : Int) (w : World) (hg : scrubL g A.con n = (C', code)) (hA : IsAr w A) (ht : A.tot ≤ 1048576) :
    Calls Try.prog 27 #[.agg #[.int .i64 g.gr, .int .i64 g.bk, .int .i64 g.rw, .int .i64 g.cl], .agg #[.slice A.a A.n A.c, .slice A.ag.1.a A.ag.1.n A.ag.1.c, .slice A.ht.1.a A.ht.1.n A.ht.1.c], .int .i64 n] w (GotAr2 w C' code) := by
  have HA := hide hA; have HT := hide ht; have HG := hide hg
  clear hA ht hg
  cases hbt : btw n 0 (lineCnt g - 1)
  · have hq := HG.out
    unfold scrubL at hq
    rw [if_neg (by rw [hbt]; simp)] at hq
    injection hq with hq1 hq2
    have HC := hide hq1
    subst hq2
    clear hq1 HG
    go_enter Try.func27, Try.ntmps27
    go_wp2_with fail
    refine (impl_copyArray A _ (HA.out.below (B := w.heap.size) (by go_grown) (Nat.le_refl _)) HT.out).mono ?_
    rintro e w1 ⟨P, rfl, o1, hcp, h1⟩
    have s1 := h1.size
    try simp only [World.size_alloc, World.size_setCell, World.size_drew, World.heap_drewN] at s1
    have B1_1 := h1
    have z1_0 : w.heap.size < w1.heap.size := by omega
    have q1_0 := fun o => (bcell B1_1).1 (w.heap.size) o (by go_size)
    have f1_0 := fun o => (bcell B1_1).2 (w.heap.size) o (by go_size)
    have z1_1 : w.heap.size + 1 < w1.heap.size := by omega
    have q1_1 := fun o => (bcell B1_1).1 (w.heap.size + 1) o (by go_size)
    have f1_1 := fun o => (bcell B1_1).2 (w.heap.size + 1) o (by go_size)
    have z1_2 : w.heap.size + 1 + 1 < w1.heap.size := by omega
    have q1_2 := fun o => (bcell B1_1).1 (w.heap.size + 1 + 1) o (by go_size)
    have f1_2 := fun o => (bcell B1_1).2 (w.heap.size + 1 + 1) o (by go_size)
    have H1 : Below w.heap.size w w1 := bthen (by repeat' (first | (with_reducible exact Below.refl _ _) | (with_reducible assumption) | (with_reducible refine bdrawn ?_ _) | (with_reducible refine Below.alloc ?_ ?_ _) | (with_reducible refine Below.drew ?_) | (with_reducible refine Below.setCell ?_ ?_ _) | go_size)) h1 (by go_size)
    have C1 := (bcell H1).1; have F1 := (bcell H1).2
    have p := hide o1
    clear o1
    have HCP := hide hcp; clear hcp
    go_wp2_with fail
    refine (impl_AddrAt_no g n _ hbt).mono ?_
    rintro e w2 ⟨rfl, h2⟩
    have s2 := h2.size
    try simp only [World.size_alloc, World.size_setCell, World.size_drew, World.heap_drewN] at s2
    have B2_1 := bnext (by first | (with_reducible exact B1_1) | exact (bgrow B1_1 (by go_size) (by repeat' (first | (with_reducible exact Below.refl _ _) | (with_reducible assumption) | (with_reducible refine bdrawn ?_ _) | (with_reducible refine Below.alloc ?_ ?_ _) | (with_reducible refine Below.drew ?_) | (with_reducible refine Below.setCell ?_ ?_ _) | go_size)))) h2 (by go_size)
    have B2_2 := h2
    have z2_0 : w.heap.size < w2.heap.size := by omega
    have q2_0 := fun o => (bcell B2_1).1 (w.heap.size) o (by go_size)
    have f2_0 := fun o => (bcell B2_1).2 (w.heap.size) o (by go_size)
    have z2_1 : w.heap.size + 1 < w2.heap.size := by omega
    have q2_1 := fun o => (bcell B2_1).1 (w.heap.size + 1) o (by go_size)
    have f2_1 := fun o => (bcell B2_1).2 (w.heap.size + 1) o (by go_size)
    have z2_2 : w.heap.size + 1 + 1 < w2.heap.size := by omega
    have q2_2 := fun o => (bcell B2_1).1 (w.heap.size + 1 + 1) o (by go_size)
    have f2_2 := fun o => (bcell B2_1).2 (w.heap.size + 1 + 1) o (by go_size)
    have z2_3 : w1.heap.size < w2.heap.size := by omega
    have q2_3 := fun o => (bcell B2_2).1 (w1.heap.size) o (by go_size)
    have f2_3 := fun o => (bcell B2_2).2 (w1.heap.size) o (by go_size)
    have H2 : Below w.heap.size w w2 := bthen (by repeat' (first | (with_reducible exact Below.refl _ _) | (with_reducible assumption) | (with_reducible refine bdrawn ?_ _) | (with_reducible refine Below.alloc ?_ ?_ _) | (with_reducible refine Below.drew ?_) | (with_reducible refine Below.setCell ?_ ?_ _) | go_size)) h2 (by go_size)
    have C2 := (bcell H2).1; have F2 := (bcell H2).2
    have P2 : Below w1.heap.size w1 w2 := bthen (by repeat' (first | (with_reducible exact Below.refl _ _) | (with_reducible assumption) | (with_reducible refine bdrawn ?_ _) | (with_reducible refine Below.alloc ?_ ?_ _) | (with_reducible refine Below.drew ?_) | (with_reducible refine Below.setCell ?_ ?_ _) | go_size)) h2 (by go_size)
    replace p := hide (p.out.below P2 (by omega))
    go_wp2_with fail
    refine bodyPost_ret (by simp [results, Try.results27, go_sem, *]; try rfl) rfl ?_
    exact ⟨P, rfl, ((p.out.ret (by simp) (by simp; omega) (by omega) _ _ _).below (Below.alloc (Below.refl _ _) (Nat.le_refl _) _) (Nat.le_refl _)).wide (Nat.le_refl _) (by simp), HCP.out.trans HC.out, by go_grown⟩
  · obtain ⟨⟨b, r, c⟩, hadof⟩ : ∃ x, adOf g n = x := ⟨_, rfl⟩
    cases hok : arOk g A.con
    · have hq := HG.out
      unfold scrubL at hq
      rw [if_neg (by rw [hok]; simp)] at hq
      injection hq with hq1 hq2
      have HC := hide hq1
      subst hq2
      clear hq1 HG
      go_enter Try.func27, Try.ntmps27
      go_wp2_with fail
      refine (impl_copyArray A _ (HA.out.below (B := w.heap.size) (by go_grown) (Nat.le_refl _)) HT.out).mono ?_
      rintro e w1 ⟨P, rfl, o1, hcp, h1⟩
      have s1 := h1.size
      try simp only [World.size_alloc, World.size_setCell, World.size_drew, World.heap_drewN] at s1
      have B1_1 := h1
      have z1_0 : w.heap.size < w1.heap.size := by omega
      have q1_0 := fun o => (bcell B1_1).1 (w.heap.size) o (by go_size)
      have f1_0 := fun o => (bcell B1_1).2 (w.heap.size) o (by go_size)
      have z1_1 : w.heap.size + 1 < w1.heap.size := by omega
      have q1_1 := fun o => (bcell B1_1).1 (w.heap.size + 1) o (by go_size)
      have f1_1 := fun o => (bcell B1_1).2 (w.heap.size + 1) o (by go_size)
      have z1_2 : w.heap.size + 1 + 1 < w1.heap.size := by omega
      have q1_2 := fun o => (bcell B1_1).1 (w.heap.size + 1 + 1) o (by go_size)
      have f1_2 := fun o => (bcell B1_1).2 (w.heap.size + 1 + 1) o (by go_size)
      have H1 : Below w.heap.size w w1 := bthen (by repeat' (first | (with_reducible exact Below.refl _ _) | (with_reducible assumption) | (with_reducible refine bdrawn ?_ _) | (with_reducible refine Below.alloc ?_ ?_ _) | (with_reducible refine Below.drew ?_) | (with_reducible refine Below.setCell ?_ ?_ _) | go_size)) h1 (by go_size)
      have C1 := (bcell H1).1; have F1 := (bcell H1).2
      have p := hide o1
      clear o1
      have HCP := hide hcp; clear hcp
      go_wp2_with fail
      refine (impl_AddrAt g n b r c _ hbt hadof).mono ?_
      rintro e w2 ⟨rfl, h2⟩
      have s2 := h2.size
      try simp only [World.size_alloc, World.size_setCell, World.size_drew, World.heap_drewN] at s2
      have B2_1 := bnext (by first | (with_reducible exact B1_1) | exact (bgrow B1_1 (by go_size) (by repeat' (first | (with_reducible exact Below.refl _ _) | (with_reducible assumption) | (with_reducible refine bdrawn ?_ _) | (with_reducible refine Below.alloc ?_ ?_ _) | (with_reducible refine Below.drew ?_) | (with_reducible refine Below.setCell ?_ ?_ _) | go_size)))) h2 (by go_size)
      have B2_2 := h2
      have z2_0 : w.heap.size < w2.heap.size := by omega
      have q2_0 := fun o => (bcell B2_1).1 (w.heap.size) o (by go_size)
      have f2_0 := fun o => (bcell B2_1).2 (w.heap.size) o (by go_size)
      have z2_1 : w.heap.size + 1 < w2.heap.size := by omega
      have q2_1 := fun o => (bcell B2_1).1 (w.heap.size + 1) o (by go_size)
      have f2_1 := fun o => (bcell B2_1).2 (w.heap.size + 1) o (by go_size)
      have z2_2 : w.heap.size + 1 + 1 < w2.heap.size := by omega
      have q2_2 := fun o => (bcell B2_1).1 (w.heap.size + 1 + 1) o (by go_size)
      have f2_2 := fun o => (bcell B2_1).2 (w.heap.size + 1 + 1) o (by go_size)
      have z2_3 : w1.heap.size < w2.heap.size := by omega
      have q2_3 := fun o => (bcell B2_2).1 (w1.heap.size) o (by go_size)
      have f2_3 := fun o => (bcell B2_2).2 (w1.heap.size) o (by go_size)
      have H2 : Below w.heap.size w w2 := bthen (by repeat' (first | (with_reducible exact Below.refl _ _) | (with_reducible assumption) | (with_reducible refine bdrawn ?_ _) | (with_reducible refine Below.alloc ?_ ?_ _) | (with_reducible refine Below.drew ?_) | (with_reducible refine Below.setCell ?_ ?_ _) | go_size)) h2 (by go_size)
      have C2 := (bcell H2).1; have F2 := (bcell H2).2
      have P2 : Below w1.heap.size w1 w2 := bthen (by repeat' (first | (with_reducible exact Below.refl _ _) | (with_reducible assumption) | (with_reducible refine bdrawn ?_ _) | (with_reducible refine Below.alloc ?_ ?_ _) | (with_reducible refine Below.drew ?_) | (with_reducible refine Below.setCell ?_ ?_ _) | go_size)) h2 (by go_size)
      replace p := hide (p.out.below P2 (by omega))
      go_wp2_with fail
      refine (impl_ArrayOk g A false _ hok (HA.out.below (B := w.heap.size) (bthen H2 (Below.alloc (Below.refl _ _) (Nat.le_refl _) _) (by omega)) (Nat.le_refl _)) HT.out).mono ?_
      rintro e w3 ⟨rfl, h3⟩
      have s3 := h3.size
      try simp only [World.size_alloc, World.size_setCell, World.size_drew, World.heap_drewN] at s3
      have B3_1 := bnext (by first | (with_reducible exact B2_1) | exact (bgrow B2_1 (by go_size) (by repeat' (first | (with_reducible exact Below.refl _ _) | (with_reducible assumption) | (with_reducible refine bdrawn ?_ _) | (with_reducible refine Below.alloc ?_ ?_ _) | (with_reducible refine Below.drew ?_) | (with_reducible refine Below.setCell ?_ ?_ _) | go_size)))) h3 (by go_size)
      have B3_2 := bnext (by first | (with_reducible exact B2_2) | exact (bgrow B2_2 (by go_size) (by repeat' (first | (with_reducible exact Below.refl _ _) | (with_reducible assumption) | (with_reducible refine bdrawn ?_ _) | (with_reducible refine Below.alloc ?_ ?_ _) | (with_reducible refine Below.drew ?_) | (with_reducible refine Below.setCell ?_ ?_ _) | go_size)))) h3 (by go_size)
      have B3_3 := h3
      have z3_0 : w.heap.size < w3.heap.size := by omega
      have q3_0 := fun o => (bcell B3_1).1 (w.heap.size) o (by go_size)
      have f3_0 := fun o => (bcell B3_1).2 (w.heap.size) o (by go_size)
      have z3_1 : w.heap.size + 1 < w3.heap.size := by omega
      have q3_1 := fun o => (bcell B3_1).1 (w.heap.size + 1) o (by go_size)
      have f3_1 := fun o => (bcell B3_1).2 (w.heap.size + 1) o (by go_size)
      have z3_2 : w.heap.size + 1 + 1 < w3.heap.size := by omega
      have q3_2 := fun o => (bcell B3_1).1 (w.heap.size + 1 + 1) o (by go_size)
      have f3_2 := fun o => (bcell B3_1).2 (w.heap.size + 1 + 1) o (by go_size)
      have z3_3 : w1.heap.size < w3.heap.size := by omega
      have q3_3 := fun o => (bcell B3_2).1 (w1.heap.size) o (by go_size)
      have f3_3 := fun o => (bcell B3_2).2 (w1.heap.size) o (by go_size)
      have z3_4 : w2.heap.size < w3.heap.size := by omega
      have q3_4 := fun o => (bcell B3_3).1 (w2.heap.size) o (by go_size)
      have f3_4 := fun o => (bcell B3_3).2 (w2.heap.size) o (by go_size)
      have H3 : Below w.heap.size w w3 := bthen (by repeat' (first | (with_reducible exact Below.refl _ _) | (with_reducible assumption) | (with_reducible refine bdrawn ?_ _) | (with_reducible refine Below.alloc ?_ ?_ _) | (with_reducible refine Below.drew ?_) | (with_reducible refine Below.setCell ?_ ?_ _) | go_size)) h3 (by go_size)
      have C3 := (bcell H3).1; have F3 := (bcell H3).2
      have P3 : Below w2.heap.size w2 w3 := bthen (by repeat' (first | (with_reducible exact Below.refl _ _) | (with_reducible assumption) | (with_reducible refine bdrawn ?_ _) | (with_reducible refine Below.alloc ?_ ?_ _) | (with_reducible refine Below.drew ?_) | (with_reducible refine Below.setCell ?_ ?_ _) | go_size)) h3 (by go_size)
      replace p := hide (p.out.below P3 (by omega))
      go_wp2_with fail
      refine bodyPost_ret (by simp [results, Try.results27, go_sem, *]; try rfl) rfl ?_
      exact ⟨P, rfl, p.out.ret (by simp) (by simp; omega) (by omega) _ _ _, HCP.out.trans HC.out, by go_grown⟩
    · have hq := HG.out
      unfold scrubL at hq
      rw [if_pos ⟨hok, hbt⟩] at hq
      obtain ⟨hi0, hi1⟩ := btw_true.1 hbt
      have hlc9 := (arOk_of hok).2.1
      obtain ⟨k, rfl⟩ : ∃ k : Nat, n = (k : Int) := ⟨n.toNat, by omega⟩
      rw [Int.toNat_natCast] at hq
      have hkl : k < A.con.cs.length := by omega
      have HQ := hide hq; have HKL := hide hkl; have HOK := hide hok
      clear hq hi0 hi1 hlc9 HG hkl
      go_enter Try.func27, Try.ntmps27
      go_wp2_with fail
      refine (impl_copyArray A _ (HA.out.below (B := w.heap.size) (by go_grown) (Nat.le_refl _)) HT.out).mono ?_
      rintro e w1 ⟨P, rfl, o1, hcp, h1⟩
      have s1 := h1.size
      try simp only [World.size_alloc, World.size_setCell, World.size_drew, World.heap_drewN] at s1
      have B1_1 := h1
      have z1_0 : w.heap.size < w1.heap.size := by omega
      have q1_0 := fun o => (bcell B1_1).1 (w.heap.size) o (by go_size)
      have f1_0 := fun o => (bcell B1_1).2 (w.heap.size) o (by go_size)
      have z1_1 : w.heap.size + 1 < w1.heap.size := by omega
      have q1_1 := fun o => (bcell B1_1).1 (w.heap.size + 1) o (by go_size)
      have f1_1 := fun o => (bcell B1_1).2 (w.heap.size + 1) o (by go_size)
      have z1_2 : w.heap.size + 1 + 1 < w1.heap.size := by omega
      have q1_2 := fun o => (bcell B1_1).1 (w.heap.size + 1 + 1) o (by go_size)
      have f1_2 := fun o => (bcell B1_1).2 (w.heap.size + 1 + 1) o (by go_size)
      have H1 : Below w.heap.size w w1 := bthen (by repeat' (first | (with_reducible exact Below.refl _ _) | (with_reducible assumption) | (with_reducible refine bdrawn ?_ _) | (with_reducible refine Below.alloc ?_ ?_ _) | (with_reducible refine Below.drew ?_) | (with_reducible refine Below.setCell ?_ ?_ _) | go_size)) h1 (by go_size)
      have C1 := (bcell H1).1; have F1 := (bcell H1).2
      have p := hide o1
      clear o1
      have HCP := hide hcp; clear hcp
      go_wp2_with fail
      refine (impl_AddrAt g (k : Nat) b r c _ hbt hadof).mono ?_
      rintro e w2 ⟨rfl, h2⟩
      have s2 := h2.size
      try simp only [World.size_alloc, World.size_setCell, World.size_drew, World.heap_drewN] at s2
      have B2_1 := bnext (by first | (with_reducible exact B1_1) | exact (bgrow B1_1 (by go_size) (by repeat' (first | (with_reducible exact Below.refl _ _) | (with_reducible assumption) | (with_reducible refine bdrawn ?_ _) | (with_reducible refine Below.alloc ?_ ?_ _) | (with_reducible refine Below.drew ?_) | (with_reducible refine Below.setCell ?_ ?_ _) | go_size)))) h2 (by go_size)
      have B2_2 := h2
      have z2_0 : w.heap.size < w2.heap.size := by omega
      have q2_0 := fun o => (bcell B2_1).1 (w.heap.size) o (by go_size)
      have f2_0 := fun o => (bcell B2_1).2 (w.heap.size) o (by go_size)
      have z2_1 : w.heap.size + 1 < w2.heap.size := by omega
      have q2_1 := fun o => (bcell B2_1).1 (w.heap.size + 1) o (by go_size)
      have f2_1 := fun o => (bcell B2_1).2 (w.heap.size + 1) o (by go_size)
      have z2_2 : w.heap.size + 1 + 1 < w2.heap.size := by omega
      have q2_2 := fun o => (bcell B2_1).1 (w.heap.size + 1 + 1) o (by go_size)
      have f2_2 := fun o => (bcell B2_1).2 (w.heap.size + 1 + 1) o (by go_size)
      have z2_3 : w1.heap.size < w2.heap.size := by omega
      have q2_3 := fun o => (bcell B2_2).1 (w1.heap.size) o (by go_size)
      have f2_3 := fun o => (bcell B2_2).2 (w1.heap.size) o (by go_size)
      have H2 : Below w.heap.size w w2 := bthen (by repeat' (first | (with_reducible exact Below.refl _ _) | (with_reducible assumption) | (with_reducible refine bdrawn ?_ _) | (with_reducible refine Below.alloc ?_ ?_ _) | (with_reducible refine Below.drew ?_) | (with_reducible refine Below.setCell ?_ ?_ _) | go_size)) h2 (by go_size)
      have C2 := (bcell H2).1; have F2 := (bcell H2).2
      have P2 : Below w1.heap.size w1 w2 := bthen (by repeat' (first | (with_reducible exact Below.refl _ _) | (with_reducible assumption) | (with_reducible refine bdrawn ?_ _) | (with_reducible refine Below.alloc ?_ ?_ _) | (with_reducible refine Below.drew ?_) | (with_reducible refine Below.setCell ?_ ?_ _) | go_size)) h2 (by go_size)
      replace p := hide (p.out.below P2 (by omega))
      go_wp2_with fail
      refine (impl_ArrayOk g A true _ hok (HA.out.below (B := w.heap.size) (bthen H2 (Below.alloc (Below.refl _ _) (Nat.le_refl _) _) (by omega)) (Nat.le_refl _)) HT.out).mono ?_
      rintro e w3 ⟨rfl, h3⟩
      have s3 := h3.size
      try simp only [World.size_alloc, World.size_setCell, World.size_drew, World.heap_drewN] at s3
      have B3_1 := bnext (by first | (with_reducible exact B2_1) | exact (bgrow B2_1 (by go_size) (by repeat' (first | (with_reducible exact Below.refl _ _) | (with_reducible assumption) | (with_reducible refine bdrawn ?_ _) | (with_reducible refine Below.alloc ?_ ?_ _) | (with_reducible refine Below.drew ?_) | (with_reducible refine Below.setCell ?_ ?_ _) | go_size)))) h3 (by go_size)
      have B3_2 := bnext (by first | (with_reducible exact B2_2) | exact (bgrow B2_2 (by go_size) (by repeat' (first | (with_reducible exact Below.refl _ _) | (with_reducible assumption) | (with_reducible refine bdrawn ?_ _) | (with_reducible refine Below.alloc ?_ ?_ _) | (with_reducible refine Below.drew ?_) | (with_reducible refine Below.setCell ?_ ?_ _) | go_size)))) h3 (by go_size)
      have B3_3 := h3
      have z3_0 : w.heap.size < w3.heap.size := by omega
      have q3_0 := fun o => (bcell B3_1).1 (w.heap.size) o (by go_size)
      have f3_0 := fun o => (bcell B3_1).2 (w.heap.size) o (by go_size)
      have z3_1 : w.heap.size + 1 < w3.heap.size := by omega
      have q3_1 := fun o => (bcell B3_1).1 (w.heap.size + 1) o (by go_size)
      have f3_1 := fun o => (bcell B3_1).2 (w.heap.size + 1) o (by go_size)
      have z3_2 : w.heap.size + 1 + 1 < w3.heap.size := by omega
      have q3_2 := fun o => (bcell B3_1).1 (w.heap.size + 1 + 1) o (by go_size)
      have f3_2 := fun o => (bcell B3_1).2 (w.heap.size + 1 + 1) o (by go_size)
      have z3_3 : w1.heap.size < w3.heap.size := by omega
      have q3_3 := fun o => (bcell B3_2).1 (w1.heap.size) o (by go_size)
      have f3_3 := fun o => (bcell B3_2).2 (w1.heap.size) o (by go_size)
      have z3_4 : w2.heap.size < w3.heap.size := by omega
      have q3_4 := fun o => (bcell B3_3).1 (w2.heap.size) o (by go_size)
      have f3_4 := fun o => (bcell B3_3).2 (w2.heap.size) o (by go_size)
      have H3 : Below w.heap.size w w3 := bthen (by repeat' (first | (with_reducible exact Below.refl _ _) | (with_reducible assumption) | (with_reducible refine bdrawn ?_ _) | (with_reducible refine Below.alloc ?_ ?_ _) | (with_reducible refine Below.drew ?_) | (with_reducible refine Below.setCell ?_ ?_ _) | go_size)) h3 (by go_size)
      have C3 := (bcell H3).1; have F3 := (bcell H3).2
      have P3 : Below w2.heap.size w2 w3 := bthen (by repeat' (first | (with_reducible exact Below.refl _ _) | (with_reducible assumption) | (with_reducible refine bdrawn ?_ _) | (with_reducible refine Below.alloc ?_ ?_ _) | (with_reducible refine Below.drew ?_) | (with_reducible refine Below.setCell ?_ ?_ _) | go_size)) h3 (by go_size)
      replace p := hide (p.out.below P3 (by omega))
      have hF := Half.of (p := w1.heap.size) p.out (by omega) ((B3_2.block w1.heap.size (by simp)).trans (alloc_at _ _ _ rfl)) (.inr (Nat.le_refl _))
      obtain ⟨e, he, hce⟩ := con_at HCP.out HKL.out
      have hsy := sym_at HOK.out HKL.out hce
      have hcap := caps_n p.out
      obtain ⟨⟨r0, r1, r2⟩, hr⟩ : ∃ r, getC (conC e) = r := ⟨_, rfl⟩
      have hq := HQ.out
      unfold rdAt at hq
      rw [← hce, hr] at hq
      injection hq with hq1 hq2
      have HQ1 := hide hq1
      simp only at hq2
      subst hq2
      have HHF := hide hF; have HHE := hide he; have HHR := hide hr; have HSY := hide hsy; have HCA := hide hcap
      clear hF he hce hsy hr hq1 hcap
      go_wp2_with fail
      refine (impl_fetch _ _ P k e r0 r1 r2 _ HHF.out HHE.out HCA.out HSY.out HHR.out).mono ?_
      rintro ex w5 ⟨e', rfl, hce', hF5, hOne⟩
      have hsv := OneW.save (lo := w.heap.size + 1 + 1 + 1) (hi := w1.heap.size) hOne (fun y hy => by have := p.out.outer.lt hy; simp only [World.size_alloc] at this; omega)
      have s5 := hsv.size
      have x3 := fun o => World.cell?_of_block (a := ⟨w.heap.size + 1 + 1, o, none⟩) (hsv.block (w.heap.size + 1 + 1) (by omega) (.inl (by omega)))
      have y3 := fun o => World.frozen?_of_block (a := ⟨w.heap.size + 1 + 1, o, none⟩) (hsv.block (w.heap.size + 1 + 1) (by omega) (.inl (by omega)))
      have z3 : w.heap.size + 1 + 1 < w5.heap.size := by omega
      have c0 := cell_blk hF5.blk 0; have c1 := cell_blk hF5.blk 1; have c2 := cell_blk hF5.blk 2
      have z4 := hF5.lt
      have H5 : Below w.heap.size w w5 := bthen H3 (Save.below hsv (by omega)) (by omega)
      have HF5 := hide hF5
      have HCE := hide hce'
      clear hF5 hOne hce' hsv
      go_wp2_with fail
      refine bodyPost_ret (by simp [results, Try.results27, go_sem, *]; try rfl) rfl ?_
      exact ⟨{ P with es := P.es.set k e' }, rfl, HF5.out.own.ret (by simp) (by simp; omega) (Nat.le_refl _) _ _ _, by rw [con_set HCP.out, HCE.out]; exact HQ1.out, by go_grown⟩
set_option maxRecDepth 100000 in
set_option maxHeartbeats 4000000 in
theorem spec_ScrubLine (g : Ge) (A : Ar) (n : Int) (C' : Con) (code : Int) (w : World) (hg : scrubL g A.con n = (C', code)) (hA : IsAr w A) (ht : A.tot ≤ 1048576) :
    Calls Try.prog 26 #[.agg #[.int .i64 g.gr, .int .i64 g.bk, .int .i64 g.rw, .int .i64 g.cl], .agg #[.slice A.a A.n A.c, .slice A.ag.1.a A.ag.1.n A.ag.1.c, .slice A.ht.1.a A.ht.1.n A.ht.1.c], .int .i64 n] w (GotAr2 w C' code) := by
  have HA := hide hA; have HT := hide ht; have HG := hide hg
  clear hA ht hg
  cases hok : arOk g A.con
  · have hq := HG.out
    unfold scrubL at hq
    rw [if_neg (by rw [hok]; simp)] at hq
    injection hq with hq1 hq2
    have HC := hide hq1
    subst hq2
    clear hq1 HG
    go_enter Try.func26, Try.ntmps26
    go_wp2_with fail
    refine (spec_l14Copy A _ (HA.out.below (B := w.heap.size) (by go_grown) (Nat.le_refl _)) HT.out).mono ?_
    rintro e w1 ⟨P, rfl, o1, hcp, h1⟩
    have s1 := h1.size
    try simp only [World.size_alloc, World.size_setCell, World.size_drew, World.heap_drewN] at s1
    have B1_1 := h1
    have z1_0 : w.heap.size < w1.heap.size := by omega
    have q1_0 := fun o => (bcell B1_1).1 (w.heap.size) o (by go_size)
    have f1_0 := fun o => (bcell B1_1).2 (w.heap.size) o (by go_size)
    have z1_1 : w.heap.size + 1 < w1.heap.size := by omega
    have q1_1 := fun o => (bcell B1_1).1 (w.heap.size + 1) o (by go_size)
    have f1_1 := fun o => (bcell B1_1).2 (w.heap.size + 1) o (by go_size)
    have z1_2 : w.heap.size + 1 + 1 < w1.heap.size := by omega
    have q1_2 := fun o => (bcell B1_1).1 (w.heap.size + 1 + 1) o (by go_size)
    have f1_2 := fun o => (bcell B1_1).2 (w.heap.size + 1 + 1) o (by go_size)
    have H1 : Below w.heap.size w w1 := bthen (by repeat' (first | (with_reducible exact Below.refl _ _) | (with_reducible assumption) | (with_reducible refine bdrawn ?_ _) | (with_reducible refine Below.alloc ?_ ?_ _) | (with_reducible refine Below.drew ?_) | (with_reducible refine Below.setCell ?_ ?_ _) | go_size)) h1 (by go_size)
    have C1 := (bcell H1).1; have F1 := (bcell H1).2
    have p := hide o1
    clear o1
    have HCP := hide hcp; clear hcp
    go_wp2_with fail
    refine (spec_ArrayOk g A false _ hok (HA.out.below (B := w.heap.size) (bthen H1 (Below.alloc (Below.refl _ _) (Nat.le_refl _) _) (by omega)) (Nat.le_refl _)) HT.out).mono ?_
    rintro e w2 ⟨rfl, h2⟩
    have s2 := h2.size
    try simp only [World.size_alloc, World.size_setCell, World.size_drew, World.heap_drewN] at s2
    have B2_1 := bnext (by first | (with_reducible exact B1_1) | exact (bgrow B1_1 (by go_size) (by repeat' (first | (with_reducible exact Below.refl _ _) | (with_reducible assumption) | (with_reducible refine bdrawn ?_ _) | (with_reducible refine Below.alloc ?_ ?_ _) | (with_reducible refine Below.drew ?_) | (with_reducible refine Below.setCell ?_ ?_ _) | go_size)))) h2 (by go_size)
    have B2_2 := h2
    have z2_0 : w.heap.size < w2.heap.size := by omega
    have q2_0 := fun o => (bcell B2_1).1 (w.heap.size) o (by go_size)
    have f2_0 := fun o => (bcell B2_1).2 (w.heap.size) o (by go_size)
    have z2_1 : w.heap.size + 1 < w2.heap.size := by omega
    have q2_1 := fun o => (bcell B2_1).1 (w.heap.size + 1) o (by go_size)
    have f2_1 := fun o => (bcell B2_1).2 (w.heap.size + 1) o (by go_size)
    have z2_2 : w.heap.size + 1 + 1 < w2.heap.size := by omega
    have q2_2 := fun o => (bcell B2_1).1 (w.heap.size + 1 + 1) o (by go_size)
    have f2_2 := fun o => (bcell B2_1).2 (w.heap.size + 1 + 1) o (by go_size)
    have z2_3 : w1.heap.size < w2.heap.size := by omega
    have q2_3 := fun o => (bcell B2_2).1 (w1.heap.size) o (by go_size)
    have f2_3 := fun o => (bcell B2_2).2 (w1.heap.size) o (by go_size)
    have H2 : Below w.heap.size w w2 := bthen (by repeat' (first | (with_reducible exact Below.refl _ _) | (with_reducible assumption) | (with_reducible refine bdrawn ?_ _) | (with_reducible refine Below.alloc ?_ ?_ _) | (with_reducible refine Below.drew ?_) | (with_reducible refine Below.setCell ?_ ?_ _) | go_size)) h2 (by go_size)
    have C2 := (bcell H2).1; have F2 := (bcell H2).2
    have P2 : Below w1.heap.size w1 w2 := bthen (by repeat' (first | (with_reducible exact Below.refl _ _) | (with_reducible assumption) | (with_reducible refine bdrawn ?_ _) | (with_reducible refine Below.alloc ?_ ?_ _) | (with_reducible refine Below.drew ?_) | (with_reducible refine Below.setCell ?_ ?_ _) | go_size)) h2 (by go_size)
    replace p := hide (p.out.below P2 (by omega))
    go_wp2_with fail
    refine bodyPost_ret (by simp [results, Try.results26, go_sem, *]; try rfl) rfl ?_
    exact ⟨P, rfl, p.out.ret (by simp) (by simp; omega) (by omega) _ _ _, HCP.out.trans HC.out, by go_grown⟩
  · obtain ⟨lc, hlc⟩ : ∃ lc, lineCnt g = lc := ⟨_, rfl⟩
    have hbd := lineCnt_bd g
    rw [hlc] at hbd
    have lc0 := hbd.1; have lc1 := hbd.2
    clear hbd
    cases hbt : btw n 0 (lineCnt g - 1)
    · have hbt2 := hbt
      rw [hlc] at hbt2
      have hq := HG.out
      unfold scrubL at hq
      rw [if_neg (by rw [hbt]; simp)] at hq
      injection hq with hq1 hq2
      have HC := hide hq1
      subst hq2
      clear hq1 HG
      go_enter Try.func26, Try.ntmps26
      go_wp2_with fail
      refine (spec_l14Copy A _ (HA.out.below (B := w.heap.size) (by go_grown) (Nat.le_refl _)) HT.out).mono ?_
      rintro e w1 ⟨P, rfl, o1, hcp, h1⟩
      have s1 := h1.size
      try simp only [World.size_alloc, World.size_setCell, World.size_drew, World.heap_drewN] at s1
      have B1_1 := h1
      have z1_0 : w.heap.size < w1.heap.size := by omega
      have q1_0 := fun o => (bcell B1_1).1 (w.heap.size) o (by go_size)
      have f1_0 := fun o => (bcell B1_1).2 (w.heap.size) o (by go_size)
      have z1_1 : w.heap.size + 1 < w1.heap.size := by omega
      have q1_1 := fun o => (bcell B1_1).1 (w.heap.size + 1) o (by go_size)
      have f1_1 := fun o => (bcell B1_1).2 (w.heap.size + 1) o (by go_size)
      have z1_2 : w.heap.size + 1 + 1 < w1.heap.size := by omega
      have q1_2 := fun o => (bcell B1_1).1 (w.heap.size + 1 + 1) o (by go_size)
      have f1_2 := fun o => (bcell B1_1).2 (w.heap.size + 1 + 1) o (by go_size)
      have H1 : Below w.heap.size w w1 := bthen (by repeat' (first | (with_reducible exact Below.refl _ _) | (with_reducible assumption) | (with_reducible refine bdrawn ?_ _) | (with_reducible refine Below.alloc ?_ ?_ _) | (with_reducible refine Below.drew ?_) | (with_reducible refine Below.setCell ?_ ?_ _) | go_size)) h1 (by go_size)
      have C1 := (bcell H1).1; have F1 := (bcell H1).2
      have p := hide o1
      clear o1
      have HCP := hide hcp; clear hcp
      go_wp2_with fail
      refine (spec_ArrayOk g A true _ hok (HA.out.below (B := w.heap.size) (bthen H1 (Below.alloc (Below.refl _ _) (Nat.le_refl _) _) (by omega)) (Nat.le_refl _)) HT.out).mono ?_
      rintro e w2 ⟨rfl, h2⟩
      have s2 := h2.size
      try simp only [World.size_alloc, World.size_setCell, World.size_drew, World.heap_drewN] at s2
      have B2_1 := bnext (by first | (with_reducible exact B1_1) | exact (bgrow B1_1 (by go_size) (by repeat' (first | (with_reducible exact Below.refl _ _) | (with_reducible assumption) | (with_reducible refine bdrawn ?_ _) | (with_reducible refine Below.alloc ?_ ?_ _) | (with_reducible refine Below.drew ?_) | (with_reducible refine Below.setCell ?_ ?_ _) | go_size)))) h2 (by go_size)
      have B2_2 := h2
      have z2_0 : w.heap.size < w2.heap.size := by omega
      have q2_0 := fun o => (bcell B2_1).1 (w.heap.size) o (by go_size)
      have f2_0 := fun o => (bcell B2_1).2 (w.heap.size) o (by go_size)
      have z2_1 : w.heap.size + 1 < w2.heap.size := by omega
      have q2_1 := fun o => (bcell B2_1).1 (w.heap.size + 1) o (by go_size)
      have f2_1 := fun o => (bcell B2_1).2 (w.heap.size + 1) o (by go_size)
      have z2_2 : w.heap.size + 1 + 1 < w2.heap.size := by omega
      have q2_2 := fun o => (bcell B2_1).1 (w.heap.size + 1 + 1) o (by go_size)
      have f2_2 := fun o => (bcell B2_1).2 (w.heap.size + 1 + 1) o (by go_size)
      have z2_3 : w1.heap.size < w2.heap.size := by omega
      have q2_3 := fun o => (bcell B2_2).1 (w1.heap.size) o (by go_size)
      have f2_3 := fun o => (bcell B2_2).2 (w1.heap.size) o (by go_size)
      have H2 : Below w.heap.size w w2 := bthen (by repeat' (first | (with_reducible exact Below.refl _ _) | (with_reducible assumption) | (with_reducible refine bdrawn ?_ _) | (with_reducible refine Below.alloc ?_ ?_ _) | (with_reducible refine Below.drew ?_) | (with_reducible refine Below.setCell ?_ ?_ _) | go_size)) h2 (by go_size)
      have C2 := (bcell H2).1; have F2 := (bcell H2).2
      have P2 : Below w1.heap.size w1 w2 := bthen (by repeat' (first | (with_reducible exact Below.refl _ _) | (with_reducible assumption) | (with_reducible refine bdrawn ?_ _) | (with_reducible refine Below.alloc ?_ ?_ _) | (with_reducible refine Below.drew ?_) | (with_reducible refine Below.setCell ?_ ?_ _) | go_size)) h2 (by go_size)
      replace p := hide (p.out.below P2 (by omega))
      go_wp2_with fail
      refine (spec_LineCount_is g lc hlc _).mono ?_
      rintro e w3 ⟨rfl, h3⟩
      have s3 := h3.size
      try simp only [World.size_alloc, World.size_setCell, World.size_drew, World.heap_drewN] at s3
      have B3_1 := bnext (by first | (with_reducible exact B2_1) | exact (bgrow B2_1 (by go_size) (by repeat' (first | (with_reducible exact Below.refl _ _) | (with_reducible assumption) | (with_reducible refine bdrawn ?_ _) | (with_reducible refine Below.alloc ?_ ?_ _) | (with_reducible refine Below.drew ?_) | (with_reducible refine Below.setCell ?_ ?_ _) | go_size)))) h3 (by go_size)
      have B3_2 := bnext (by first | (with_reducible exact B2_2) | exact (bgrow B2_2 (by go_size) (by repeat' (first | (with_reducible exact Below.refl _ _) | (with_reducible assumption) | (with_reducible refine bdrawn ?_ _) | (with_reducible refine Below.alloc ?_ ?_ _) | (with_reducible refine Below.drew ?_) | (with_reducible refine Below.setCell ?_ ?_ _) | go_size)))) h3 (by go_size)
      have z3_0 : w.heap.size < w3.heap.size := by omega
      have q3_0 := fun o => (bcell B3_1).1 (w.heap.size) o (by go_size)
      have f3_0 := fun o => (bcell B3_1).2 (w.heap.size) o (by go_size)
      have z3_1 : w.heap.size + 1 < w3.heap.size := by omega
      have q3_1 := fun o => (bcell B3_1).1 (w.heap.size + 1) o (by go_size)
      have f3_1 := fun o => (bcell B3_1).2 (w.heap.size + 1) o (by go_size)
      have z3_2 : w.heap.size + 1 + 1 < w3.heap.size := by omega
      have q3_2 := fun o => (bcell B3_1).1 (w.heap.size + 1 + 1) o (by go_size)
      have f3_2 := fun o => (bcell B3_1).2 (w.heap.size + 1 + 1) o (by go_size)
      have z3_3 : w1.heap.size < w3.heap.size := by omega
      have q3_3 := fun o => (bcell B3_2).1 (w1.heap.size) o (by go_size)
      have f3_3 := fun o => (bcell B3_2).2 (w1.heap.size) o (by go_size)
      have H3 : Below w.heap.size w w3 := bthen (by repeat' (first | (with_reducible exact Below.refl _ _) | (with_reducible assumption) | (with_reducible refine bdrawn ?_ _) | (with_reducible refine Below.alloc ?_ ?_ _) | (with_reducible refine Below.drew ?_) | (with_reducible refine Below.setCell ?_ ?_ _) | go_size)) h3 (by go_size)
      have C3 := (bcell H3).1; have F3 := (bcell H3).2
      have P3 : Below w2.heap.size w2 w3 := bthen (by repeat' (first | (with_reducible exact Below.refl _ _) | (with_reducible assumption) | (with_reducible refine bdrawn ?_ _) | (with_reducible refine Below.alloc ?_ ?_ _) | (with_reducible refine Below.drew ?_) | (with_reducible refine Below.setCell ?_ ?_ _) | go_size)) h3 (by go_size)
      replace p := hide (p.out.below P3 (by omega))
      go_wp2_with (go_at_call 59; refine (spec_l01In_is _ _ _ false hbt2 _).mono ?_; rintro ey wy ⟨rfl, rfl⟩)
      refine bodyPost_ret (by simp [results, Try.results26, go_sem, *]; try rfl) rfl ?_
      exact ⟨P, rfl, p.out.ret (by simp) (by simp; omega) (by omega) _ _ _, HCP.out.trans HC.out, by go_grown⟩
    · have hbt2 := hbt
      rw [hlc] at hbt2
      have hq := HG.out
      unfold scrubL at hq
      rw [if_pos ⟨hok, hbt⟩] at hq
      obtain ⟨hi0, hi1⟩ := btw_true.1 hbt
      have hlc9 := (arOk_of hok).2.1
      obtain ⟨k, rfl⟩ : ∃ k : Nat, n = (k : Int) := ⟨n.toNat, by omega⟩
      rw [Int.toNat_natCast] at hq
      have hkl : k < A.con.cs.length := by omega
      have HQ := hide hq; have HKL := hide hkl; have HOK := hide hok
      clear hq hi0 hi1 hlc9 HG hkl
      go_enter Try.func26, Try.ntmps26
      go_wp2_with fail
      refine (spec_l14Copy A _ (HA.out.below (B := w.heap.size) (by go_grown) (Nat.le_refl _)) HT.out).mono ?_
      rintro e w1 ⟨P, rfl, o1, hcp, h1⟩
      have s1 := h1.size
      try simp only [World.size_alloc, World.size_setCell, World.size_drew, World.heap_drewN] at s1
      have B1_1 := h1
      have z1_0 : w.heap.size < w1.heap.size := by omega
      have q1_0 := fun o => (bcell B1_1).1 (w.heap.size) o (by go_size)
      have f1_0 := fun o => (bcell B1_1).2 (w.heap.size) o (by go_size)
      have z1_1 : w.heap.size + 1 < w1.heap.size := by omega
      have q1_1 := fun o => (bcell B1_1).1 (w.heap.size + 1) o (by go_size)
      have f1_1 := fun o => (bcell B1_1).2 (w.heap.size + 1) o (by go_size)
      have z1_2 : w.heap.size + 1 + 1 < w1.heap.size := by omega
      have q1_2 := fun o => (bcell B1_1).1 (w.heap.size + 1 + 1) o (by go_size)
      have f1_2 := fun o => (bcell B1_1).2 (w.heap.size + 1 + 1) o (by go_size)
      have H1 : Below w.heap.size w w1 := bthen (by repeat' (first | (with_reducible exact Below.refl _ _) | (with_reducible assumption) | (with_reducible refine bdrawn ?_ _) | (with_reducible refine Below.alloc ?_ ?_ _) | (with_reducible refine Below.drew ?_) | (with_reducible refine Below.setCell ?_ ?_ _) | go_size)) h1 (by go_size)
      have C1 := (bcell H1).1; have F1 := (bcell H1).2
      have p := hide o1
      clear o1
      have HCP := hide hcp; clear hcp
      go_wp2_with fail
      refine (spec_ArrayOk g A true _ hok (HA.out.below (B := w.heap.size) (bthen H1 (Below.alloc (Below.refl _ _) (Nat.le_refl _) _) (by omega)) (Nat.le_refl _)) HT.out).mono ?_
      rintro e w2 ⟨rfl, h2⟩
      have s2 := h2.size
      try simp only [World.size_alloc, World.size_setCell, World.size_drew, World.heap_drewN] at s2
      have B2_1 := bnext (by first | (with_reducible exact B1_1) | exact (bgrow B1_1 (by go_size) (by repeat' (first | (with_reducible exact Below.refl _ _) | (with_reducible assumption) | (with_reducible refine bdrawn ?_ _) | (with_reducible refine Below.alloc ?_ ?_ _) | (with_reducible refine Below.drew ?_) | (with_reducible refine Below.setCell ?_ ?_ _) | go_size)))) h2 (by go_size)
      have B2_2 := h2
      have z2_0 : w.heap.size < w2.heap.size := by omega
      have q2_0 := fun o => (bcell B2_1).1 (w.heap.size) o (by go_size)
      have f2_0 := fun o => (bcell B2_1).2 (w.heap.size) o (by go_size)
      have z2_1 : w.heap.size + 1 < w2.heap.size := by omega
      have q2_1 := fun o => (bcell B2_1).1 (w.heap.size + 1) o (by go_size)
      have f2_1 := fun o => (bcell B2_1).2 (w.heap.size + 1) o (by go_size)
      have z2_2 : w.heap.size + 1 + 1 < w2.heap.size := by omega
      have q2_2 := fun o => (bcell B2_1).1 (w.heap.size + 1 + 1) o (by go_size)
      have f2_2 := fun o => (bcell B2_1).2 (w.heap.size + 1 + 1) o (by go_size)
      have z2_3 : w1.heap.size < w2.heap.size := by omega
      have q2_3 := fun o => (bcell B2_2).1 (w1.heap.size) o (by go_size)
      have f2_3 := fun o => (bcell B2_2).2 (w1.heap.size) o (by go_size)
      have H2 : Below w.heap.size w w2 := bthen (by repeat' (first | (with_reducible exact Below.refl _ _) | (with_reducible assumption) | (with_reducible refine bdrawn ?_ _) | (with_reducible refine Below.alloc ?_ ?_ _) | (with_reducible refine Below.drew ?_) | (with_reducible refine Below.setCell ?_ ?_ _) | go_size)) h2 (by go_size)
      have C2 := (bcell H2).1; have F2 := (bcell H2).2
      have P2 : Below w1.heap.size w1 w2 := bthen (by repeat' (first | (with_reducible exact Below.refl _ _) | (with_reducible assumption) | (with_reducible refine bdrawn ?_ _) | (with_reducible refine Below.alloc ?_ ?_ _) | (with_reducible refine Below.drew ?_) | (with_reducible refine Below.setCell ?_ ?_ _) | go_size)) h2 (by go_size)
      replace p := hide (p.out.below P2 (by omega))
      go_wp2_with fail
      refine (spec_LineCount_is g lc hlc _).mono ?_
      rintro e w3 ⟨rfl, h3⟩
      have s3 := h3.size
      try simp only [World.size_alloc, World.size_setCell, World.size_drew, World.heap_drewN] at s3
      have B3_1 := bnext (by first | (with_reducible exact B2_1) | exact (bgrow B2_1 (by go_size) (by repeat' (first | (with_reducible exact Below.refl _ _) | (with_reducible assumption) | (with_reducible refine bdrawn ?_ _) | (with_reducible refine Below.alloc ?_ ?_ _) | (with_reducible refine Below.drew ?_) | (with_reducible refine Below.setCell ?_ ?_ _) | go_size)))) h3 (by go_size)
      have B3_2 := bnext (by first | (with_reducible exact B2_2) | exact (bgrow B2_2 (by go_size) (by repeat' (first | (with_reducible exact Below.refl _ _) | (with_reducible assumption) | (with_reducible refine bdrawn ?_ _) | (with_reducible refine Below.alloc ?_ ?_ _) | (with_reducible refine Below.drew ?_) | (with_reducible refine Below.setCell ?_ ?_ _) | go_size)))) h3 (by go_size)
      have z3_0 : w.heap.size < w3.heap.size := by omega
      have q3_0 := fun o => (bcell B3_1).1 (w.heap.size) o (by go_size)
      have f3_0 := fun o => (bcell B3_1).2 (w.heap.size) o (by go_size)
      have z3_1 : w.heap.size + 1 < w3.heap.size := by omega
      have q3_1 := fun o => (bcell B3_1).1 (w.heap.size + 1) o (by go_size)
      have f3_1 := fun o => (bcell B3_1).2 (w.heap.size + 1) o (by go_size)
      have z3_2 : w.heap.size + 1 + 1 < w3.heap.size := by omega
      have q3_2 := fun o => (bcell B3_1).1 (w.heap.size + 1 + 1) o (by go_size)
      have f3_2 := fun o => (bcell B3_1).2 (w.heap.size + 1 + 1) o (by go_size)
      have z3_3 : w1.heap.size < w3.heap.size := by omega
      have q3_3 := fun o => (bcell B3_2).1 (w1.heap.size) o (by go_size)
      have f3_3 := fun o => (bcell B3_2).2 (w1.heap.size) o (by go_size)
      have H3 : Below w.heap.size w w3 := bthen (by repeat' (first | (with_reducible exact Below.refl _ _) | (with_reducible assumption) | (with_reducible refine bdrawn ?_ _) | (with_reducible refine Below.alloc ?_ ?_ _) | (with_reducible refine Below.drew ?_) | (with_reducible refine Below.setCell ?_ ?_ _) | go_size)) h3 (by go_size)
      have C3 := (bcell H3).1; have F3 := (bcell H3).2
      have P3 : Below w2.heap.size w2 w3 := bthen (by repeat' (first | (with_reducible exact Below.refl _ _) | (with_reducible assumption) | (with_reducible refine bdrawn ?_ _) | (with_reducible refine Below.alloc ?_ ?_ _) | (with_reducible refine Below.drew ?_) | (with_reducible refine Below.setCell ?_ ?_ _) | go_size)) h3 (by go_size)
      replace p := hide (p.out.below P3 (by omega))
      have hF := Half.of (p := w1.heap.size) p.out (by omega) ((B3_2.block w1.heap.size (by simp)).trans (alloc_at _ _ _ rfl)) (.inr (Nat.le_refl _))
      obtain ⟨e, he, hce⟩ := con_at HCP.out HKL.out
      have hsy := sym_at HOK.out HKL.out hce
      have hcap := caps_n p.out
      obtain ⟨⟨r0, r1, r2⟩, hr⟩ : ∃ r, getC (conC e) = r := ⟨_, rfl⟩
      have hq := HQ.out
      unfold rdAt at hq
      rw [← hce, hr] at hq
      injection hq with hq1 hq2
      have HQ1 := hide hq1
      simp only at hq2
      subst hq2
      have HHF := hide hF; have HHE := hide he; have HHR := hide hr; have HSY := hide hsy; have HCA := hide hcap
      clear hF he hce hsy hr hq1 hcap
      go_wp2_with (go_at_call 59; refine (spec_l01In_is _ _ _ true hbt2 _).mono ?_; rintro ey wy ⟨rfl, rfl⟩)
      refine (spec_l25Get _ _ P k e r0 r1 r2 _ HHF.out HHE.out HCA.out HSY.out HHR.out).mono ?_
      rintro ex w5 ⟨e', rfl, hce', hF5, hOne⟩
      have hsv := OneW.save (lo := w.heap.size + 1 + 1 + 1) (hi := w1.heap.size) hOne (fun y hy => by have := p.out.outer.lt hy; simp only [World.size_alloc] at this; omega)
      have s5 := hsv.size
      have x3 := fun o => World.cell?_of_block (a := ⟨w.heap.size + 1 + 1, o, none⟩) (hsv.block (w.heap.size + 1 + 1) (by omega) (.inl (by omega)))
      have y3 := fun o => World.frozen?_of_block (a := ⟨w.heap.size + 1 + 1, o, none⟩) (hsv.block (w.heap.size + 1 + 1) (by omega) (.inl (by omega)))
      have z3 : w.heap.size + 1 + 1 < w5.heap.size := by omega
      have c0 := cell_blk hF5.blk 0; have c1 := cell_blk hF5.blk 1; have c2 := cell_blk hF5.blk 2
      have z4 := hF5.lt
      have H5 : Below w.heap.size w w5 := bthen H3 (Save.below hsv (by omega)) (by omega)
      have HF5 := hide hF5
      have HCE := hide hce'
      clear hF5 hOne hce' hsv
      go_wp2_with fail
      refine bodyPost_ret (by simp [results, Try.results26, go_sem, *]; try rfl) rfl ?_
      exact ⟨{ P with es := P.es.set k e' }, rfl, HF5.out.own.ret (by simp) (by simp; omega) (Nat.le_refl _) _ _ _, by rw [con_set HCP.out, HCE.out]; exact HQ1.out, by go_grown⟩
end Go.Proofs.Ytkhcepmileiejaa
