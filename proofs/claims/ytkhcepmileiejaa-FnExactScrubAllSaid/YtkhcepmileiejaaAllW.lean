/- Scrubbing an array whole, of the program and of the reference. -/
import Derived.Test.YtkhcepmileiejaaLawA
set_option linter.unusedSimpArgs false
set_option linter.unusedVariables false
namespace Go.Proofs.Ytkhcepmileiejaa
open Go.RowKit Go.ChangeShapes Go.WideShapes Go.ChangeAt Go.Joins Go.Deep
open Go.ChangeMaps (open_string shut_string)
def scrubTo (C : Con) : Nat → Con × Int × Int
  | 0 => (C, 0, 0)
  | k + 1 => ((rdAt (scrubTo C k).1 k).1, (scrubTo C k).2.1 + (if (rdAt (scrubTo C k).1 k).2.2 = 1 then 1 else 0), (scrubTo C k).2.2 + (if (rdAt (scrubTo C k).1 k).2.2 = 2 then 1 else 0))
def scrubA (g : Ge) (C : Con) : Con × Int × Int := if arOk g C = true then scrubTo C C.cs.length else (C, 0, 0)
theorem scrub_next {C D : Con} {k : Nat} {f l : Int} {r0 : List Int × Bool} {r1 r2 : Int} (h : scrubTo C k = (D, f, l)) (hr : getC (D.cs.getD k ([], false)) = (r0, r1, r2)) :
    scrubTo C (k + 1) = (setC D k r0, f + (if r2 = 1 then 1 else 0), l + (if r2 = 2 then 1 else 0)) := by
  simp only [scrubTo, h, rdAt, hr]
theorem scrub_same (C : Con) : ∀ k, (scrubTo C k).1.cs.length = C.cs.length ∧ ∀ i, k ≤ i → (scrubTo C k).1.cs.getD i ([], false) = C.cs.getD i ([], false)
  | 0 => ⟨rfl, fun _ _ => rfl⟩
  | k + 1 => by
    obtain ⟨h1, h2⟩ := scrub_same C k
    refine ⟨by simp only [scrubTo, rdAt, setC, List.length_set, h1], fun i hi => ?_⟩
    simp only [scrubTo, rdAt, setC]
    rw [List.getD_eq_getElem?_getD, List.getElem?_set_ne (by omega), ← List.getD_eq_getElem?_getD]
    exact h2 i (by omega)
theorem scrubTo_tot {g : Ge} {C : Con} (hok : arOk g C = true) : ∀ k, k ≤ C.cs.length → conTot (scrubTo C k).1 = conTot C
  | 0, _ => rfl
  | k + 1, hk => by
    obtain ⟨h1, h2⟩ := scrub_same C k
    have ih := scrubTo_tot hok k (by omega)
    rw [← ih]
    show conTot (rdAt (scrubTo C k).1 k).1 = _
    unfold rdAt
    refine conTot_set fun d hd => ?_
    have hd2 : (scrubTo C k).1.cs.getD k ([], false) = d := by rw [List.getD_eq_getElem?_getD, hd]; rfl
    have hd3 := h2 k (Nat.le_refl _)
    rw [hd2] at hd3
    rw [hd2]
    refine (getC_len d ((arOk_of hok).2.2.2.2.1 d ?_)).symm
    rw [hd3, List.getD_eq_getElem?_getD, List.getElem?_eq_getElem (by omega)]
    exact List.getElem_mem _
theorem scrubA_tot (g : Ge) (C : Con) : conTot (scrubA g C).1 = conTot C := by
  unfold scrubA
  split
  · next h => exact scrubTo_tot h _ (Nat.le_refl _)
  · rfl
set_option maxRecDepth 100000 in
set_option maxHeartbeats 4000000 in
theorem impl_ScrubAll (g : Ge) (A : Ar) (C' : Con) (f l : Int) (w : World) (hg : scrubA g A.con = (C', f, l)) (hA : IsAr w A) (ht : A.tot ≤ 1048576) :
    Calls Try.prog 29 #[.agg #[.int .i64 g.gr, .int .i64 g.bk, .int .i64 g.rw, .int .i64 g.cl], .agg #[.slice A.a A.n A.c, .slice A.ag.1.a A.ag.1.n A.ag.1.c, .slice A.ht.1.a A.ht.1.n A.ht.1.c]] w (GotAr3 w C' f l) := by
  have HA := hide hA; have HT := hide ht; have HG := hide hg
  have hn9 := tot_n ht
  clear hA ht hg
  cases hok : arOk g A.con
  · have hq := HG.out
    unfold scrubA at hq
    rw [if_neg (by rw [hok]; simp)] at hq
    injection hq with hq1 hq; injection hq with hq2 hq3
    have HC := hide hq1
    subst hq2 hq3
    clear hq1 HG
    go_enter Try.func29, Try.ntmps29
    go_wp2_with fail
    refine (impl_copyArray A _ (HA.out.below (B := w.heap.size) (by go_grown) (Nat.le_refl _)) HT.out).mono ?_
    rintro e w1 ⟨P, rfl, o1, hcp, h1⟩
    have s1 := h1.size
    try simp only [World.size_alloc, World.size_setCell, World.size_drew, World.heap_drewN] at s1
    have B1_1 := h1
    have z1_0 : w.heap.size < w1.heap.size := by omega
    have q1_0 := fun o => (bcell B1_1).1 (w.heap.size) o (by go_size)
    have f1_0 := fun o => (bcell B1_1).2 (w.heap.size) o (by go_size)
    have z1_1 : w.heap.size + 1 < w1.heap.size := by omega
    have q1_1 := fun o => (bcell B1_1).1 (w.heap.size + 1) o (by go_size)
    have f1_1 := fun o => (bcell B1_1).2 (w.heap.size + 1) o (by go_size)
    have z1_2 : w.heap.size + 1 + 1 < w1.heap.size := by omega
    have q1_2 := fun o => (bcell B1_1).1 (w.heap.size + 1 + 1) o (by go_size)
    have f1_2 := fun o => (bcell B1_1).2 (w.heap.size + 1 + 1) o (by go_size)
    have H1 : Below w.heap.size w w1 := bthen (by repeat' (first | (with_reducible exact Below.refl _ _) | (with_reducible assumption) | (with_reducible refine bdrawn ?_ _) | (with_reducible refine Below.alloc ?_ ?_ _) | (with_reducible refine Below.drew ?_) | (with_reducible refine Below.setCell ?_ ?_ _) | go_size)) h1 (by go_size)
    have C1 := (bcell H1).1; have F1 := (bcell H1).2
    have p := hide o1
    clear o1
    have HCP := hide hcp; clear hcp
    go_wp2_with fail
    refine (impl_ArrayOk g A false _ hok (HA.out.below (B := w.heap.size) (bthen H1 (Below.alloc (Below.refl _ _) (Nat.le_refl _) _) (by omega)) (Nat.le_refl _)) HT.out).mono ?_
    rintro e w2 ⟨rfl, h2⟩
    have s2 := h2.size
    try simp only [World.size_alloc, World.size_setCell, World.size_drew, World.heap_drewN] at s2
    have B2_1 := bnext (by first | (with_reducible exact B1_1) | exact (bgrow B1_1 (by go_size) (by repeat' (first | (with_reducible exact Below.refl _ _) | (with_reducible assumption) | (with_reducible refine bdrawn ?_ _) | (with_reducible refine Below.alloc ?_ ?_ _) | (with_reducible refine Below.drew ?_) | (with_reducible refine Below.setCell ?_ ?_ _) | go_size)))) h2 (by go_size)
    have B2_2 := h2
    have z2_0 : w.heap.size < w2.heap.size := by omega
    have q2_0 := fun o => (bcell B2_1).1 (w.heap.size) o (by go_size)
    have f2_0 := fun o => (bcell B2_1).2 (w.heap.size) o (by go_size)
    have z2_1 : w.heap.size + 1 < w2.heap.size := by omega
    have q2_1 := fun o => (bcell B2_1).1 (w.heap.size + 1) o (by go_size)
    have f2_1 := fun o => (bcell B2_1).2 (w.heap.size + 1) o (by go_size)
    have z2_2 : w.heap.size + 1 + 1 < w2.heap.size := by omega
    have q2_2 := fun o => (bcell B2_1).1 (w.heap.size + 1 + 1) o (by go_size)
    have f2_2 := fun o => (bcell B2_1).2 (w.heap.size + 1 + 1) o (by go_size)
    have z2_3 : w1.heap.size < w2.heap.size := by omega
    have q2_3 := fun o => (bcell B2_2).1 (w1.heap.size) o (by go_size)
    have f2_3 := fun o => (bcell B2_2).2 (w1.heap.size) o (by go_size)
    have H2 : Below w.heap.size w w2 := bthen (by repeat' (first | (with_reducible exact Below.refl _ _) | (with_reducible assumption) | (with_reducible refine bdrawn ?_ _) | (with_reducible refine Below.alloc ?_ ?_ _) | (with_reducible refine Below.drew ?_) | (with_reducible refine Below.setCell ?_ ?_ _) | go_size)) h2 (by go_size)
    have C2 := (bcell H2).1; have F2 := (bcell H2).2
    have P2 : Below w1.heap.size w1 w2 := bthen (by repeat' (first | (with_reducible exact Below.refl _ _) | (with_reducible assumption) | (with_reducible refine bdrawn ?_ _) | (with_reducible refine Below.alloc ?_ ?_ _) | (with_reducible refine Below.drew ?_) | (with_reducible refine Below.setCell ?_ ?_ _) | go_size)) h2 (by go_size)
    replace p := hide (p.out.below P2 (by omega))
    go_wp2_with fail
    refine bodyPost_ret (by simp [results, Try.results29, go_sem, *]; try rfl) rfl ?_
    exact ⟨P, rfl, p.out.ret (by simp) (by simp; omega) (by omega) _ _ _, HCP.out.trans HC.out, by go_grown⟩
  · have hq := HG.out
    unfold scrubA at hq
    rw [if_pos hok] at hq
    have HQ := hide hq; have HOK := hide hok
    clear hq HG
    go_enter Try.func29, Try.ntmps29
    go_wp2_with fail
    refine (impl_copyArray A _ (HA.out.below (B := w.heap.size) (by go_grown) (Nat.le_refl _)) HT.out).mono ?_
    rintro e w1 ⟨P, rfl, o1, hcp, h1⟩
    have s1 := h1.size
    try simp only [World.size_alloc, World.size_setCell, World.size_drew, World.heap_drewN] at s1
    have B1_1 := h1
    have z1_0 : w.heap.size < w1.heap.size := by omega
    have q1_0 := fun o => (bcell B1_1).1 (w.heap.size) o (by go_size)
    have f1_0 := fun o => (bcell B1_1).2 (w.heap.size) o (by go_size)
    have z1_1 : w.heap.size + 1 < w1.heap.size := by omega
    have q1_1 := fun o => (bcell B1_1).1 (w.heap.size + 1) o (by go_size)
    have f1_1 := fun o => (bcell B1_1).2 (w.heap.size + 1) o (by go_size)
    have z1_2 : w.heap.size + 1 + 1 < w1.heap.size := by omega
    have q1_2 := fun o => (bcell B1_1).1 (w.heap.size + 1 + 1) o (by go_size)
    have f1_2 := fun o => (bcell B1_1).2 (w.heap.size + 1 + 1) o (by go_size)
    have H1 : Below w.heap.size w w1 := bthen (by repeat' (first | (with_reducible exact Below.refl _ _) | (with_reducible assumption) | (with_reducible refine bdrawn ?_ _) | (with_reducible refine Below.alloc ?_ ?_ _) | (with_reducible refine Below.drew ?_) | (with_reducible refine Below.setCell ?_ ?_ _) | go_size)) h1 (by go_size)
    have C1 := (bcell H1).1; have F1 := (bcell H1).2
    have p := hide o1
    clear o1
    have HCP := hide hcp; clear hcp
    go_wp2_with fail
    refine (impl_ArrayOk g A true _ hok (HA.out.below (B := w.heap.size) (bthen H1 (Below.alloc (Below.refl _ _) (Nat.le_refl _) _) (by omega)) (Nat.le_refl _)) HT.out).mono ?_
    rintro e w2 ⟨rfl, h2⟩
    have s2 := h2.size
    try simp only [World.size_alloc, World.size_setCell, World.size_drew, World.heap_drewN] at s2
    have B2_1 := bnext (by first | (with_reducible exact B1_1) | exact (bgrow B1_1 (by go_size) (by repeat' (first | (with_reducible exact Below.refl _ _) | (with_reducible assumption) | (with_reducible refine bdrawn ?_ _) | (with_reducible refine Below.alloc ?_ ?_ _) | (with_reducible refine Below.drew ?_) | (with_reducible refine Below.setCell ?_ ?_ _) | go_size)))) h2 (by go_size)
    have B2_2 := h2
    have z2_0 : w.heap.size < w2.heap.size := by omega
    have q2_0 := fun o => (bcell B2_1).1 (w.heap.size) o (by go_size)
    have f2_0 := fun o => (bcell B2_1).2 (w.heap.size) o (by go_size)
    have z2_1 : w.heap.size + 1 < w2.heap.size := by omega
    have q2_1 := fun o => (bcell B2_1).1 (w.heap.size + 1) o (by go_size)
    have f2_1 := fun o => (bcell B2_1).2 (w.heap.size + 1) o (by go_size)
    have z2_2 : w.heap.size + 1 + 1 < w2.heap.size := by omega
    have q2_2 := fun o => (bcell B2_1).1 (w.heap.size + 1 + 1) o (by go_size)
    have f2_2 := fun o => (bcell B2_1).2 (w.heap.size + 1 + 1) o (by go_size)
    have z2_3 : w1.heap.size < w2.heap.size := by omega
    have q2_3 := fun o => (bcell B2_2).1 (w1.heap.size) o (by go_size)
    have f2_3 := fun o => (bcell B2_2).2 (w1.heap.size) o (by go_size)
    have H2 : Below w.heap.size w w2 := bthen (by repeat' (first | (with_reducible exact Below.refl _ _) | (with_reducible assumption) | (with_reducible refine bdrawn ?_ _) | (with_reducible refine Below.alloc ?_ ?_ _) | (with_reducible refine Below.drew ?_) | (with_reducible refine Below.setCell ?_ ?_ _) | go_size)) h2 (by go_size)
    have C2 := (bcell H2).1; have F2 := (bcell H2).2
    have P2 : Below w1.heap.size w1 w2 := bthen (by repeat' (first | (with_reducible exact Below.refl _ _) | (with_reducible assumption) | (with_reducible refine bdrawn ?_ _) | (with_reducible refine Below.alloc ?_ ?_ _) | (with_reducible refine Below.drew ?_) | (with_reducible refine Below.setCell ?_ ?_ _) | go_size)) h2 (by go_size)
    replace p := hide (p.out.below P2 (by omega))
    have hF := Half.of (p := w1.heap.size) p.out (by omega) ((B2_2.block w1.heap.size (by simp)).trans (alloc_at _ _ _ rfl)) (.inr (Nat.le_refl _))
    have c0 := cell_blk hF.blk 0
    have HF0 := hide hF
    have HLEN := hide (show A.con.cs.length = P.n by rw [← HCP.out]; simp only [Ar.con, List.length_map]; exact p.out.len)
    have hcap := caps_n p.out
    have hc1 := hcap.1; have hc2 := hcap.2
    have hpn : P.n ≤ 1048576 := by rw [← HLEN.out]; simp only [Ar.con, List.length_map]; rw [HA.out.1.1.1]; exact hn9
    have hsz2 := hF.lt
    clear hF hcap
    go_wp2_with fail
    clear c0
    obtain ⟨V0, rfl⟩ : ∃ W : World, W = w2 := ⟨_, rfl⟩
    have HH2 := hide H2
    go_loopw [8, 9, 23] (fun vf vl vi wr => ∃ (k : Nat) (Q : Ar) (fk lk : Int), k ≤ P.n ∧ vi = .int .i64 k ∧ vf = .int .i64 fk ∧ vl = .int .i64 lk ∧ 0 ≤ fk ∧ fk ≤ k ∧ 0 ≤ lk ∧ lk ≤ k ∧ Hid (scrubTo A.con k = (Q.con, fk, lk)) ∧ Hid (Half (w.heap.size + 1 + 1 + 1) w1.heap.size wr Q) ∧ Hid (Q.a = P.a) ∧ Save (w.heap.size + 1 + 1 + 1) w1.heap.size V0 wr) (fun _ _ vi _ => P.n - (intOf vi).toNat)
    case atStart => exact ⟨0, P, 0, 0, by omega, rfl, rfl, rfl, by omega, by omega, by omega, by omega, hide (by rw [HCP.out]; rfl), hide (by have := HF0.out; simpa using this), hide rfl, Save.refl _ _ _⟩
    case round =>
      obtain ⟨k, Q, fk, lk, hk, rfl, rfl, rfl, hf0, hf1, hl0, hl1, HS, HF, HQA, hsv⟩ := hrel
      have hss := hsv.size
      by_cases hlt : k < P.n
      · obtain ⟨hsm1, hsm2⟩ := scrub_same A.con k
        rw [HS.out] at hsm1 hsm2
        simp only at hsm1 hsm2
        have hkl : k < Q.con.cs.length := by rw [hsm1, HLEN.out]; exact hlt
        obtain ⟨e, he, hce⟩ := con_at (C := Q.con) rfl hkl
        have hsy : symOkB e.ws 11 = true := sym_at HOK.out (by rw [HLEN.out]; exact hlt) (hce.trans (hsm2 k (Nat.le_refl _)))
        obtain ⟨⟨r0, r1, r2⟩, hr⟩ : ∃ r, getC (conC e) = r := ⟨_, rfl⟩
        have HN := hide (scrub_next (r0 := r0) (r1 := r1) (r2 := r2) HS.out (by rw [← hce]; exact hr))
        have hcap := caps_n HF.out.own
        have HHE := hide he; have HHR := hide hr; have HSY := hide hsy; have HCA := hide hcap
        have i0 : (0 : Int) ≤ (k : Int) := by omega
        have i1 : (k : Int) < (P.n : Int) := by omega
        have HSV := hide hsv
        clear hsm1 hsm2 hkl he hce hsy hr hcap hsv
        go_wp2_with fail
        refine (impl_fetch _ _ Q k e r0 r1 r2 _ HF.out HHE.out HCA.out HSY.out HHR.out).mono ?_
        rintro ex w5 ⟨e', rfl, hce', hF5, hOne⟩
        have HSV5 := hide (HSV.out.trans (OneW.save (lo := w.heap.size + 1 + 1 + 1) (hi := w1.heap.size) hOne (fun y hy => by rw [HQA.out] at hy; have := p.out.outer.lt hy; simp only [World.size_alloc] at this; omega)))
        have HF5 := hide hF5; have HCE := hide hce'
        have HCO := hide (show ({ Q with es := Q.es.set k e' } : Ar).con = setC Q.con k r0 by rw [con_set rfl, HCE.out])
        clear hF5 hOne hce'
        by_cases q1 : r2 = 1
        · subst q1
          go_wp2_with fail
          go_roundw
          case rel => exact ⟨k + 1, { Q with es := Q.es.set k e' }, fk + 1, lk, by omega, by go_num, rfl, rfl, by omega, by omega, by omega, by omega, hide (by rw [HN.out, HCO.out]; simp), HF5, HQA, HSV5.out⟩
          case measure => simp [intOf]; omega
        · by_cases q2 : r2 = 2
          · subst q2
            go_wp2_with fail
            go_roundw
            case rel => exact ⟨k + 1, { Q with es := Q.es.set k e' }, fk, lk + 1, by omega, by go_num, rfl, rfl, by omega, by omega, by omega, by omega, hide (by rw [HN.out, HCO.out]; simp), HF5, HQA, HSV5.out⟩
            case measure => simp [intOf]; omega
          · have b1 : (r2 == 1) = false := by simpa using q1
            have b2 : (r2 == 2) = false := by simpa using q2
            go_wp2_with fail
            go_roundw
            case rel => exact ⟨k + 1, { Q with es := Q.es.set k e' }, fk, lk, by omega, by go_num, rfl, rfl, by omega, by omega, by omega, by omega, hide (by rw [HN.out, HCO.out, if_neg q1, if_neg q2]; simp), HF5, HQA, HSV5.out⟩
            case measure => simp [intOf]; omega
      · obtain rfl : k = P.n := by omega
        have hq := HQ.out
        rw [HLEN.out, HS.out] at hq
        injection hq with hq1 hq; injection hq with hq2 hq3
        subst hq2 hq3
        have HC := hide hq1
        clear hq1
        have x3 := fun o => World.cell?_of_block (a := ⟨w.heap.size + 1 + 1, o, none⟩) (hsv.block (w.heap.size + 1 + 1) (by omega) (.inl (by omega)))
        have y3 := fun o => World.frozen?_of_block (a := ⟨w.heap.size + 1 + 1, o, none⟩) (hsv.block (w.heap.size + 1 + 1) (by omega) (.inl (by omega)))
        have z3 : w.heap.size + 1 + 1 < wr.heap.size := by omega
        have c0 := cell_blk HF.out.blk 0; have c1 := cell_blk HF.out.blk 1; have c2 := cell_blk HF.out.blk 2
        have z4 := HF.out.lt
        have H5 : Below w.heap.size w wr := bthen HH2.out (Save.below hsv (by omega)) (by omega)
        clear hsv
        go_wp2_with fail
        refine bodyPost_ret (by simp [results, Try.results29, go_sem, *]; try rfl) rfl ?_
        exact ⟨Q, rfl, HF.out.own.ret (by omega) (by omega) (Nat.le_refl _) _ _ _, HC.out, by go_grown⟩
set_option maxRecDepth 100000 in
set_option maxHeartbeats 4000000 in
theorem spec_ScrubAll (g : Ge) (A : Ar) (C' : Con) (f l : Int) (w : World) (hg : scrubA g A.con = (C', f, l)) (hA : IsAr w A) (ht : A.tot ≤ 1048576) :
    Calls Try.prog 28 #[.agg #[.int .i64 g.gr, .int .i64 g.bk, .int .i64 g.rw, .int .i64 g.cl], .agg #[.slice A.a A.n A.c, .slice A.ag.1.a A.ag.1.n A.ag.1.c, .slice A.ht.1.a A.ht.1.n A.ht.1.c]] w (GotAr3 w C' f l) := by
  have HA := hide hA; have HT := hide ht; have HG := hide hg
  have hn9 := tot_n ht
  have hAc1 := hA.1.1.2.1; have hAc2 : A.c ≤ 9223372036854775807 := hA.1.1.2.2.1
  have HAL := hide (show A.con.cs.length = A.n by simp only [Ar.con, List.length_map]; exact hA.1.1.1)
  clear hA ht hg
  go_enter Try.func28, Try.ntmps28
  go_wp2_with fail
  refine (spec_l14Copy A _ (HA.out.below (B := w.heap.size) (by go_grown) (Nat.le_refl _)) HT.out).mono ?_
  rintro e w1 ⟨P, rfl, o1, hcp, h1⟩
  have s1 := h1.size
  try simp only [World.size_alloc, World.size_setCell, World.size_drew, World.heap_drewN] at s1
  have B1_1 := h1
  have z1_0 : w.heap.size < w1.heap.size := by omega
  have q1_0 := fun o => (bcell B1_1).1 (w.heap.size) o (by go_size)
  have f1_0 := fun o => (bcell B1_1).2 (w.heap.size) o (by go_size)
  have z1_1 : w.heap.size + 1 < w1.heap.size := by omega
  have q1_1 := fun o => (bcell B1_1).1 (w.heap.size + 1) o (by go_size)
  have f1_1 := fun o => (bcell B1_1).2 (w.heap.size + 1) o (by go_size)
  have z1_2 : w.heap.size + 1 + 1 < w1.heap.size := by omega
  have q1_2 := fun o => (bcell B1_1).1 (w.heap.size + 1 + 1) o (by go_size)
  have f1_2 := fun o => (bcell B1_1).2 (w.heap.size + 1 + 1) o (by go_size)
  have H1 : Below w.heap.size w w1 := bthen (by repeat' (first | (with_reducible exact Below.refl _ _) | (with_reducible assumption) | (with_reducible refine bdrawn ?_ _) | (with_reducible refine Below.alloc ?_ ?_ _) | (with_reducible refine Below.drew ?_) | (with_reducible refine Below.setCell ?_ ?_ _) | go_size)) h1 (by go_size)
  have C1 := (bcell H1).1; have F1 := (bcell H1).2
  have p := hide o1
  clear o1
  have HCP := hide hcp; clear hcp
  have k0 : (w1.alloc (.cells #[.slice P.a P.n P.c, .slice P.ag.1.a P.ag.1.n P.ag.1.c, .slice P.ht.1.a P.ht.1.n P.ht.1.c] 34)).heap[w.heap.size]? = some (.cells #[.int .i64 g.gr, .int .i64 g.bk, .int .i64 g.rw, .int .i64 g.cl] 30 (0, 0)) := by
    rw [alloc_lt _ _ _ (by omega)]
    exact (h1.block w.heap.size (by simp; omega)).trans (by rw [alloc_lt _ _ _ (by simp; try omega), alloc_lt _ _ _ (by simp; try omega)]; exact alloc_at _ _ _ (by simp))
  have k1 : (w1.alloc (.cells #[.slice P.a P.n P.c, .slice P.ag.1.a P.ag.1.n P.ag.1.c, .slice P.ht.1.a P.ht.1.n P.ht.1.c] 34)).heap[w.heap.size + 1]? = some (.cells #[.slice A.a A.n A.c, .slice A.ag.1.a A.ag.1.n A.ag.1.c, .slice A.ht.1.a A.ht.1.n A.ht.1.c] 34 (0, 0)) := by
    rw [alloc_lt _ _ _ (by omega)]
    exact (h1.block (w.heap.size + 1) (by simp; try omega)).trans (by rw [alloc_lt _ _ _ (by simp; try omega)]; exact alloc_at _ _ _ (by simp))
  have k2 : (w1.alloc (.cells #[.slice P.a P.n P.c, .slice P.ag.1.a P.ag.1.n P.ag.1.c, .slice P.ht.1.a P.ht.1.n P.ht.1.c] 34)).heap[w.heap.size + 1 + 1]? = some (.cells #[.slice none 0 0, .slice none 0 0, .slice none 0 0] 34 (0, 0)) := by
    rw [alloc_lt _ _ _ (by omega)]
    exact (h1.block (w.heap.size + 1 + 1) (by simp; try omega)).trans (alloc_at _ _ _ (by simp))
  have hF := Half.of (p := w1.heap.size) (w := w1.alloc (.cells #[.slice P.a P.n P.c, .slice P.ag.1.a P.ag.1.n P.ag.1.c, .slice P.ht.1.a P.ht.1.n P.ht.1.c] 34)) (p.out.below (Below.alloc (Below.refl _ _) (Nat.le_refl _) _) (Nat.le_refl _)) (by simp) (alloc_at _ _ _ rfl) (.inr (Nat.le_refl _))
  have hB0 : Below w.heap.size w (w1.alloc (.cells #[.slice P.a P.n P.c, .slice P.ag.1.a P.ag.1.n P.ag.1.c, .slice P.ht.1.a P.ht.1.n P.ht.1.c] 34)) := Below.alloc H1 (by omega) _
  have hsz0 : w1.heap.size + 1 ≤ (w1.alloc (.cells #[.slice P.a P.n P.c, .slice P.ag.1.a P.ag.1.n P.ag.1.c, .slice P.ht.1.a P.ht.1.n P.ht.1.c] 34)).heap.size := by simp
  have hal := p.out.outer
  have HAL2 := hide (show ∀ y : Addr, P.a = some y → w.heap.size + 1 + 1 + 1 ≤ y.block ∧ y.block < w1.heap.size from fun y hy => by have := hal.lt hy; simp only [World.size_alloc] at this; omega)
  have HF0 : Hid (Half (w.heap.size + 1 + 1 + 1) w1.heap.size (w1.alloc (.cells #[.slice P.a P.n P.c, .slice P.ag.1.a P.ag.1.n P.ag.1.c, .slice P.ht.1.a P.ht.1.n P.ht.1.c] 34)) P) := hide (by have := hF; simpa using this)
  have HPN := hide (show P.n = A.n by rw [← HAL.out, ← HCP.out]; simp only [Ar.con, List.length_map]; exact p.out.len.symm)
  clear hF hal h1 H1 C1 F1 q1_0 q1_1 q1_2 f1_0 f1_1 f1_2 B1_1 p
  go_wp2_with fail
  generalize (w1.alloc (.cells #[.slice P.a P.n P.c, .slice P.ag.1.a P.ag.1.n P.ag.1.c, .slice P.ht.1.a P.ht.1.n P.ht.1.c] 34)) = V0 at *
  have K0 := hide k0; have K1 := hide k1; have K2 := hide k2
  clear k0 k1 k2
  cases hok : arOk g A.con
  · have hq := HG.out
    unfold scrubA at hq
    rw [if_neg (by rw [hok]; simp)] at hq
    injection hq with hq1 hq; injection hq with hq2 hq3
    have HC := hide hq1
    subst hq2 hq3
    clear hq1 HG
    go_loopw [8, 9, 10] (fun vf vl vi wr => vf = .int .i64 0 ∧ vl = .int .i64 0 ∧ vi = .int .i64 0 ∧ wr = V0) (fun _ _ _ _ => 0)
    case atStart => exact ⟨rfl, rfl, rfl, rfl⟩
    case round =>
      obtain ⟨rfl, rfl, rfl, rfl⟩ := hrel
      have e_g0 := cell_blk K0.out 0; have e_g1 := cell_blk K0.out 1; have e_g2 := cell_blk K0.out 2; have e_g3 := cell_blk K0.out 3
      have e_A0 := cell_blk K1.out 0; have e_A1 := cell_blk K1.out 1; have e_A2 := cell_blk K1.out 2
      go_wp2_with fail
      refine (spec_ArrayOk g A false _ hok (HA.out.below hB0 (Nat.le_refl _)) HT.out).mono ?_
      rintro ex w4 ⟨rfl, h4⟩
      clear e_g0 e_g1 e_g2 e_g3 e_A0 e_A1 e_A2
      have s4 := h4.size
      have HF4 := hide (HF0.out.below h4)
      have r2 := blk_below h4 K2.out (lt_blk K2.out)
      have d0 := cell_blk r2 0; have d1 := cell_blk r2 1; have d2 := cell_blk r2 2; have df := fun o => free_blk r2 o
      have c0 := cell_blk HF4.out.blk 0; have c1 := cell_blk HF4.out.blk 1; have c2 := cell_blk HF4.out.blk 2
      have z3 : w.heap.size + 1 + 1 < w4.heap.size := lt_blk r2
      have z4 := HF4.out.lt
      have H5 : Below w.heap.size w w4 := bthen hB0 h4 (by omega)
      clear r2
      go_wp2_with fail
      refine bodyPost_ret (by simp [results, Try.results28, go_sem, *]; try rfl) rfl ?_
      exact ⟨P, rfl, HF4.out.own.ret (by omega) (by omega) (Nat.le_refl _) _ _ _, HCP.out.trans HC.out, by go_grown⟩
  · have hq := HG.out
    unfold scrubA at hq
    rw [if_pos hok] at hq
    have HQ := hide hq; have HOK := hide hok
    clear hq HG
    go_loopw [8, 9, 10] (fun vf vl vi wr => ∃ (k : Nat) (Q : Ar) (fk lk : Int), k ≤ A.n ∧ vi = .int .i64 k ∧ vf = .int .i64 fk ∧ vl = .int .i64 lk ∧ 0 ≤ fk ∧ fk ≤ k ∧ 0 ≤ lk ∧ lk ≤ k ∧ Hid (scrubTo A.con k = (Q.con, fk, lk)) ∧ Hid (Half (w.heap.size + 1 + 1 + 1) w1.heap.size wr Q) ∧ Hid (Q.a = P.a) ∧ Hid (Q.n = A.n) ∧ Save (w.heap.size + 1 + 1 + 1) w1.heap.size V0 wr) (fun _ _ vi _ => A.n - (intOf vi).toNat)
    case atStart => exact ⟨0, P, 0, 0, by omega, rfl, rfl, rfl, by omega, by omega, by omega, by omega, hide (by rw [HCP.out]; rfl), HF0, hide rfl, HPN, Save.refl _ _ _⟩
    case round =>
      obtain ⟨k, Q, fk, lk, hk, rfl, rfl, rfl, hf0, hf1, hl0, hl1, HS, HF, HQA, HQN, hsv⟩ := hrel
      have hss := hsv.size
      have j0 := blk_save hsv K0.out (.inl (by omega)); have j1 := blk_save hsv K1.out (.inl (by omega)); have j2 := blk_save hsv K2.out (.inl (by omega))
      have e_g0 := cell_blk j0 0; have e_g1 := cell_blk j0 1; have e_g2 := cell_blk j0 2; have e_g3 := cell_blk j0 3
      have e_A0 := cell_blk j1 0; have e_A1 := cell_blk j1 1; have e_A2 := cell_blk j1 2
      have HBr := hide (bthen hB0 (Save.belowB (B := w.heap.size) hsv (by omega) (by omega)) (Nat.le_refl _))
      have J0 := hide j0; have J1 := hide j1; have J2 := hide j2; have HSV := hide hsv
      clear j0 j1 j2 hsv
      go_wp2_with fail
      refine (spec_ArrayOk g A true _ hok (HA.out.below HBr.out (Nat.le_refl _)) HT.out).mono ?_
      rintro ex w4 ⟨rfl, h4⟩
      clear e_g0 e_g1 e_g2 e_g3 e_A0 e_A1 e_A2
      have s4 := h4.size
      have HF4 := hide (HF.out.below h4)
      have r1 := blk_below h4 J1.out (lt_blk J1.out)
      have a0 := cell_blk r1 0
      have la := lt_blk r1
      clear r1
      have HSV4 := hide (HSV.out.trans (Save.of_below h4))
      have i0 : (0 : Int) ≤ (k : Int) := by omega
      by_cases hlt : k < A.n
      · obtain ⟨hsm1, hsm2⟩ := scrub_same A.con k
        rw [HS.out] at hsm1 hsm2
        simp only at hsm1 hsm2
        have hkl : k < Q.con.cs.length := by rw [hsm1, HAL.out]; exact hlt
        obtain ⟨e, he, hce⟩ := con_at (C := Q.con) rfl hkl
        have hsy : symOkB e.ws 11 = true := sym_at HOK.out (by rw [HAL.out]; exact hlt) (hce.trans (hsm2 k (Nat.le_refl _)))
        obtain ⟨⟨r0, r1, r2⟩, hr⟩ : ∃ r, getC (conC e) = r := ⟨_, rfl⟩
        have HN := hide (scrub_next (r0 := r0) (r1 := r1) (r2 := r2) HS.out (by rw [← hce]; exact hr))
        have hcap := caps_n HF.out.own
        have HHE := hide he; have HHR := hide hr; have HSY := hide hsy; have HCA := hide hcap
        have i1 : (k : Int) < (A.n : Int) := by omega
        clear hsm1 hsm2 hkl he hce hsy hr hcap
        go_wp2_with fail
        clear a0
        refine (spec_l25Get _ _ Q k e r0 r1 r2 _ HF4.out HHE.out HCA.out HSY.out HHR.out).mono ?_
        rintro ex w5 ⟨e', rfl, hce', hF5, hOne⟩
        have HSV5 := hide (HSV4.out.trans (OneW.save (lo := w.heap.size + 1 + 1 + 1) (hi := w1.heap.size) hOne (fun y hy => by rw [HQA.out] at hy; exact HAL2.out y hy)))
        have HF5 := hide hF5; have HCE := hide hce'
        have HCO := hide (show ({ Q with es := Q.es.set k e' } : Ar).con = setC Q.con k r0 by rw [con_set rfl, HCE.out])
        clear hF5 hOne hce'
        by_cases q1 : r2 = 1
        · subst q1
          go_wp2_with fail
          go_roundw
          case rel => exact ⟨k + 1, { Q with es := Q.es.set k e' }, fk + 1, lk, by omega, by go_num, rfl, rfl, by omega, by omega, by omega, by omega, hide (by rw [HN.out, HCO.out]; simp), HF5, HQA, HQN, HSV5.out⟩
          case measure => simp [intOf]; omega
        · by_cases q2 : r2 = 2
          · subst q2
            go_wp2_with fail
            go_roundw
            case rel => exact ⟨k + 1, { Q with es := Q.es.set k e' }, fk, lk + 1, by omega, by go_num, rfl, rfl, by omega, by omega, by omega, by omega, hide (by rw [HN.out, HCO.out]; simp), HF5, HQA, HQN, HSV5.out⟩
            case measure => simp [intOf]; omega
          · have b1 : (r2 == 1) = false := by simpa using q1
            have b2 : (r2 == 2) = false := by simpa using q2
            go_wp2_with fail
            go_roundw
            case rel => exact ⟨k + 1, { Q with es := Q.es.set k e' }, fk, lk, by omega, by go_num, rfl, rfl, by omega, by omega, by omega, by omega, hide (by rw [HN.out, HCO.out, if_neg q1, if_neg q2]; simp), HF5, HQA, HQN, HSV5.out⟩
            case measure => simp [intOf]; omega
      · obtain rfl : k = A.n := by omega
        have hq := HQ.out
        rw [HAL.out, HS.out] at hq
        injection hq with hq1 hq; injection hq with hq2 hq3
        subst hq2 hq3
        have HC := hide hq1
        clear hq1
        have r2 := blk_below h4 J2.out (lt_blk J2.out)
        have d0 := cell_blk r2 0; have d1 := cell_blk r2 1; have d2 := cell_blk r2 2; have df := fun o => free_blk r2 o
        have c0 := cell_blk HF4.out.blk 0; have c1 := cell_blk HF4.out.blk 1; have c2 := cell_blk HF4.out.blk 2
        have z3 : w.heap.size + 1 + 1 < w4.heap.size := lt_blk r2
        have z4 := HF4.out.lt
        have H5 : Below w.heap.size w w4 := bthen HBr.out h4 (by omega)
        clear r2
        go_wp2_with fail
        refine bodyPost_ret (by simp [results, Try.results28, go_sem, *]; try rfl) rfl ?_
        exact ⟨Q, rfl, HF4.out.own.ret (by omega) (by omega) (Nat.le_refl _) _ _ _, HC.out, by go_grown⟩
end Go.Proofs.Ytkhcepmileiejaa
