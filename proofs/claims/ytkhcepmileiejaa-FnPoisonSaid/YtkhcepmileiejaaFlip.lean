/- The reference's flip of one symbol of a stored word. -/
import Derived.Test.YtkhcepmileiejaaCase
set_option linter.unusedSimpArgs false
set_option linter.unusedVariables false
namespace Go.Proofs.Ytkhcepmileiejaa
open Go.RowKit Go.ChangeShapes Go.WideShapes Go.ChangeAt Go.Joins Go.Deep
open Go.ChangeMaps (open_string shut_string)
theorem half_line {lo p i j : Nat} {V : World} {A : Ar} {g : Ge} (h : Half lo p V A) (hok : arOk g A.con = true) (hk : i < A.con.cs.length) (hj : j < 11) : ∃ (e : Cl) (u q y c : Nat), A.es[i]? = some e ∧ A.a = some ⟨u, 0, none⟩ ∧ e.h = ⟨some ⟨q, 0, none⟩, 11, c⟩ ∧ conC e = A.con.cs.getD i ([], false) ∧ lo ≤ q ∧ q < V.heap.size ∧ u < V.heap.size ∧ ¬ u = p ∧ ¬ q = p ∧ i < A.n ∧ 11 ≤ c ∧ c ≤ 9223372036854775807 ∧
    V.cell? ⟨p, 0, none⟩ = some (.slice (some ⟨u, 0, none⟩) A.n A.c) ∧ V.cell? ⟨u, i * 2, none⟩ = some (.slice (some ⟨q, 0, none⟩) 11 c) ∧ V.cell? ⟨q, j, none⟩ = some (.int .i64 (y : Nat)) ∧ (∀ o, V.frozen? ⟨q, o, none⟩ = false) ∧ y < 16 ∧ y = (nats e.ws).getD j 0 ∧ e.ws = ints (nats e.ws) ∧ p < V.heap.size := by
  obtain ⟨e, he, hce⟩ := con_at (C := A.con) rfl hk
  have hsy := sym_at hok hk hce
  obtain ⟨u, hua, hu1, hu2, hkn, hup, d0, d1, df, hI⟩ := half_cell h he
  have hl := (symOk_of (n := 11) hsy).2.2.2
  obtain ⟨⟨ea, en, ec⟩, ews, ep⟩ := e
  simp only at hI hl d0 hsy
  obtain rfl : en = 11 := hI.1.symm.trans hl
  have ho := h.own.sep.rows (rowC ⟨⟨ea, 11, ec⟩, ews, ep⟩) (by simp only [Ar.rows, List.mem_cons, List.mem_map]; exact .inr (.inr ⟨_, List.mem_of_getElem? he, rfl⟩))
  obtain ⟨q, hqa, hq1, hq2, hq3, hcq, hfq⟩ := ho.1.some (by show 0 < 11; omega)
  simp only [rowC] at hqa
  subst hqa
  have hc := h.blk
  rw [hua] at hc
  simp only [symOkB, Bool.and_eq_true, List.all_eq_true, btw_true, beq_iff_eq] at hsy
  have hx : ews[j]? = some (ews[j]'(by omega)) := List.getElem?_eq_getElem _
  have bx := hsy.1 _ (List.mem_of_getElem? hx)
  have hin : ews = ints (nats ews) := by
    unfold ints nats
    rw [List.map_map]
    refine (List.map_id _).symm.trans (List.map_congr_left ?_)
    intro z hz
    have := (hsy.1 z hz).1
    simp only [Function.comp, id]; omega
  refine ⟨_, u, q, (ews[j]'(by omega)).toNat, ec, he, hua, rfl, hce, hq1, hq3, hu2, hup, own_type ho.1 h.blk (by decide), hkn, hI.2.1, hI.2.2.1, cell_blk hc 0, d0, ?_, hfq, by omega, ?_, hin, h.lt⟩
  · refine (hcq j (by show j < 11 * 1; omega)).trans ?_
    show (ews.map (Value.int .i64))[j]? = _
    rw [List.getElem?_map, hx]
    show some (Value.int .i64 _) = some (Value.int .i64 _)
    rw [Int.toNat_of_nonneg bx.1]
  · unfold nats
    rw [List.getD_eq_getElem?_getD, List.getElem?_map, hx]; rfl
def flipC (C : Con) (i j v : Nat) : Con := setC C i (ints (turn (nats (C.cs.getD i ([], false)).1) j v), (C.cs.getD i ([], false)).2)
theorem flip_ints {ws : List Int} (h : ws = ints (nats ws)) (j v : Nat) : ws.set j (((nats ws).getD j 0 ^^^ v : Nat) : Int) = ints (turn (nats ws) j v) := by
  conv => lhs; rw [h, nats_ints]
  unfold ints turn
  rw [List.map_set]
theorem spec_l11Is_is (x : Int) (v : Bool) (hv : btw x 0 15 = v) (w : World) :
    Calls Try.prog 67 #[.int .i64 x] w fun e w' => e = .returned (.bool v) ∧ w = w' := by subst hv; exact spec_l11Is x w
set_option maxRecDepth 100000 in
set_option maxHeartbeats 8000000 in
theorem spec_FlipSymbol (g : Ge) (A : Ar) (x : Ad) (j v : Nat) (C' : Con) (w : World) (hq : flipC A.con (adIdx g x).toNat j v = C') (hok : arOk g A.con = true) (hado : adOk g x = true) (hj : j < 11) (hv : v < 16) (hA : IsAr w A) (ht : A.tot ≤ 1048576) :
    Calls Try.prog 36 #[.agg #[.int .i64 g.gr, .int .i64 g.bk, .int .i64 g.rw, .int .i64 g.cl], .agg #[.slice A.a A.n A.c, .slice A.ag.1.a A.ag.1.n A.ag.1.c, .slice A.ht.1.a A.ht.1.n A.ht.1.c], .agg #[.int .i64 x.b, .int .i64 x.r, .int .i64 x.c], .int .i64 j, .int .i64 v] w (GotAr w C') := by
  have HA := hide hA; have HT := hide ht
  clear hA ht
  obtain ⟨hi0, hi1⟩ := adIdx_bd hado
  have hlc := (arOk_of hok).2.1
  obtain ⟨k, hk⟩ : ∃ k : Nat, adIdx g x = (k : Int) := ⟨(adIdx g x).toNat, by omega⟩
  rw [hk, Int.toNat_natCast] at hq
  have hkl : k < A.con.cs.length := by omega
  have HK := hide hk; have HQ := hide hq; have HKL := hide hkl
  clear hq hi0 hi1 hlc hk hkl
  go_enter Try.func36, Try.ntmps36
  go_wp2_with fail
  refine (spec_l14Copy A _ (HA.out.below (B := w.heap.size) (by go_grown) (Nat.le_refl _)) HT.out).mono ?_
  rintro e w1 ⟨P, rfl, o1, hcp, h1⟩
  have s1 := h1.size
  try simp only [World.size_alloc, World.size_setCell, World.size_drew, World.heap_drewN] at s1
  have B1_1 := h1
  have z1_0 : w.heap.size < w1.heap.size := by omega
  have q1_0 := fun o => (bcell B1_1).1 (w.heap.size) o (by go_size)
  have f1_0 := fun o => (bcell B1_1).2 (w.heap.size) o (by go_size)
  have z1_1 : w.heap.size + 1 < w1.heap.size := by omega
  have q1_1 := fun o => (bcell B1_1).1 (w.heap.size + 1) o (by go_size)
  have f1_1 := fun o => (bcell B1_1).2 (w.heap.size + 1) o (by go_size)
  have z1_2 : w.heap.size + 1 + 1 < w1.heap.size := by omega
  have q1_2 := fun o => (bcell B1_1).1 (w.heap.size + 1 + 1) o (by go_size)
  have f1_2 := fun o => (bcell B1_1).2 (w.heap.size + 1 + 1) o (by go_size)
  have z1_3 : w.heap.size + 1 + 1 + 1 < w1.heap.size := by omega
  have q1_3 := fun o => (bcell B1_1).1 (w.heap.size + 1 + 1 + 1) o (by go_size)
  have f1_3 := fun o => (bcell B1_1).2 (w.heap.size + 1 + 1 + 1) o (by go_size)
  have H1 : Below w.heap.size w w1 := bthen (by repeat' (first | (with_reducible exact Below.refl _ _) | (with_reducible assumption) | (with_reducible refine bdrawn ?_ _) | (with_reducible refine Below.alloc ?_ ?_ _) | (with_reducible refine Below.drew ?_) | (with_reducible refine Below.setCell ?_ ?_ _) | go_size)) h1 (by go_size)
  have C1 := (bcell H1).1; have F1 := (bcell H1).2
  have p := hide o1
  clear o1
  have HCP := hide hcp; clear hcp
  go_wp2_with fail
  refine (spec_ArrayOk g A true _ hok (HA.out.below (B := w.heap.size) (bthen H1 (Below.alloc (Below.refl _ _) (Nat.le_refl _) _) (by omega)) (Nat.le_refl _)) HT.out).mono ?_
  rintro e w2 ⟨rfl, h2⟩
  have s2 := h2.size
  try simp only [World.size_alloc, World.size_setCell, World.size_drew, World.heap_drewN] at s2
  have B2_1 := bnext (by first | (with_reducible exact B1_1) | exact (bgrow B1_1 (by go_size) (by repeat' (first | (with_reducible exact Below.refl _ _) | (with_reducible assumption) | (with_reducible refine bdrawn ?_ _) | (with_reducible refine Below.alloc ?_ ?_ _) | (with_reducible refine Below.drew ?_) | (with_reducible refine Below.setCell ?_ ?_ _) | go_size)))) h2 (by go_size)
  have B2_2 := h2
  have z2_0 : w.heap.size < w2.heap.size := by omega
  have q2_0 := fun o => (bcell B2_1).1 (w.heap.size) o (by go_size)
  have f2_0 := fun o => (bcell B2_1).2 (w.heap.size) o (by go_size)
  have z2_1 : w.heap.size + 1 < w2.heap.size := by omega
  have q2_1 := fun o => (bcell B2_1).1 (w.heap.size + 1) o (by go_size)
  have f2_1 := fun o => (bcell B2_1).2 (w.heap.size + 1) o (by go_size)
  have z2_2 : w.heap.size + 1 + 1 < w2.heap.size := by omega
  have q2_2 := fun o => (bcell B2_1).1 (w.heap.size + 1 + 1) o (by go_size)
  have f2_2 := fun o => (bcell B2_1).2 (w.heap.size + 1 + 1) o (by go_size)
  have z2_3 : w.heap.size + 1 + 1 + 1 < w2.heap.size := by omega
  have q2_3 := fun o => (bcell B2_1).1 (w.heap.size + 1 + 1 + 1) o (by go_size)
  have f2_3 := fun o => (bcell B2_1).2 (w.heap.size + 1 + 1 + 1) o (by go_size)
  have z2_4 : w1.heap.size < w2.heap.size := by omega
  have q2_4 := fun o => (bcell B2_2).1 (w1.heap.size) o (by go_size)
  have f2_4 := fun o => (bcell B2_2).2 (w1.heap.size) o (by go_size)
  have H2 : Below w.heap.size w w2 := bthen (by repeat' (first | (with_reducible exact Below.refl _ _) | (with_reducible assumption) | (with_reducible refine bdrawn ?_ _) | (with_reducible refine Below.alloc ?_ ?_ _) | (with_reducible refine Below.drew ?_) | (with_reducible refine Below.setCell ?_ ?_ _) | go_size)) h2 (by go_size)
  have C2 := (bcell H2).1; have F2 := (bcell H2).2
  have P2 : Below w1.heap.size w1 w2 := bthen (by repeat' (first | (with_reducible exact Below.refl _ _) | (with_reducible assumption) | (with_reducible refine bdrawn ?_ _) | (with_reducible refine Below.alloc ?_ ?_ _) | (with_reducible refine Below.drew ?_) | (with_reducible refine Below.setCell ?_ ?_ _) | go_size)) h2 (by go_size)
  replace p := hide (p.out.below P2 (by omega))
  go_wp2_with fail
  refine (spec_AddrOk g x true _ hado).mono ?_
  rintro e w3 ⟨rfl, h3⟩
  have s3 := h3.size
  try simp only [World.size_alloc, World.size_setCell, World.size_drew, World.heap_drewN] at s3
  have B3_1 := bnext (by first | (with_reducible exact B2_1) | exact (bgrow B2_1 (by go_size) (by repeat' (first | (with_reducible exact Below.refl _ _) | (with_reducible assumption) | (with_reducible refine bdrawn ?_ _) | (with_reducible refine Below.alloc ?_ ?_ _) | (with_reducible refine Below.drew ?_) | (with_reducible refine Below.setCell ?_ ?_ _) | go_size)))) h3 (by go_size)
  have B3_2 := bnext (by first | (with_reducible exact B2_2) | exact (bgrow B2_2 (by go_size) (by repeat' (first | (with_reducible exact Below.refl _ _) | (with_reducible assumption) | (with_reducible refine bdrawn ?_ _) | (with_reducible refine Below.alloc ?_ ?_ _) | (with_reducible refine Below.drew ?_) | (with_reducible refine Below.setCell ?_ ?_ _) | go_size)))) h3 (by go_size)
  have z3_0 : w.heap.size < w3.heap.size := by omega
  have q3_0 := fun o => (bcell B3_1).1 (w.heap.size) o (by go_size)
  have f3_0 := fun o => (bcell B3_1).2 (w.heap.size) o (by go_size)
  have z3_1 : w.heap.size + 1 < w3.heap.size := by omega
  have q3_1 := fun o => (bcell B3_1).1 (w.heap.size + 1) o (by go_size)
  have f3_1 := fun o => (bcell B3_1).2 (w.heap.size + 1) o (by go_size)
  have z3_2 : w.heap.size + 1 + 1 < w3.heap.size := by omega
  have q3_2 := fun o => (bcell B3_1).1 (w.heap.size + 1 + 1) o (by go_size)
  have f3_2 := fun o => (bcell B3_1).2 (w.heap.size + 1 + 1) o (by go_size)
  have z3_3 : w.heap.size + 1 + 1 + 1 < w3.heap.size := by omega
  have q3_3 := fun o => (bcell B3_1).1 (w.heap.size + 1 + 1 + 1) o (by go_size)
  have f3_3 := fun o => (bcell B3_1).2 (w.heap.size + 1 + 1 + 1) o (by go_size)
  have z3_4 : w1.heap.size < w3.heap.size := by omega
  have q3_4 := fun o => (bcell B3_2).1 (w1.heap.size) o (by go_size)
  have f3_4 := fun o => (bcell B3_2).2 (w1.heap.size) o (by go_size)
  have H3 : Below w.heap.size w w3 := bthen (by repeat' (first | (with_reducible exact Below.refl _ _) | (with_reducible assumption) | (with_reducible refine bdrawn ?_ _) | (with_reducible refine Below.alloc ?_ ?_ _) | (with_reducible refine Below.drew ?_) | (with_reducible refine Below.setCell ?_ ?_ _) | go_size)) h3 (by go_size)
  have C3 := (bcell H3).1; have F3 := (bcell H3).2
  have P3 : Below w2.heap.size w2 w3 := bthen (by repeat' (first | (with_reducible exact Below.refl _ _) | (with_reducible assumption) | (with_reducible refine bdrawn ?_ _) | (with_reducible refine Below.alloc ?_ ?_ _) | (with_reducible refine Below.drew ?_) | (with_reducible refine Below.setCell ?_ ?_ _) | go_size)) h3 (by go_size)
  replace p := hide (p.out.below P3 (by omega))
  have hF := Half.of (p := w1.heap.size) p.out (by omega) ((B3_2.block w1.heap.size (by simp)).trans (alloc_at _ _ _ rfl)) (.inr (Nat.le_refl _))
  have hkp : k < P.con.cs.length := by rw [HCP.out]; exact HKL.out
  have hokP : arOk g P.con = true := by rw [HCP.out]; exact hok
  obtain ⟨f, gg, q, yv, cc, hf, hga, hfh, hcf, q1, q2, hg2, hgp, hqp, hkn, qc0, qc1, c0, d0, dq, dqf, hy16, hyv, hin, hpl⟩ := half_line hF hokP hkp hj
  have HF := hide hF; have HFE := hide hf; have HGA := hide hga; have HFH := hide hfh; have HCF := hide hcf; have HYV := hide hyv; have HIN := hide hin
  clear q2_4 q3_4 f2_4 f3_4
  have gbg0 : w3.cell? ⟨w.heap.size, 0, none⟩ = some (.int .i64 g.gr) := by rw [q3_0 0, World.cell?_alloc_lt _ _ _ (by simp; try omega), World.cell?_alloc_lt _ _ _ (by simp; try omega), World.cell?_alloc_lt _ _ _ (by simp; try omega)]; exact (cell_blk (alloc_at _ _ _ (by simp)) 0).trans rfl
  have gbg1 : w3.cell? ⟨w.heap.size, 1, none⟩ = some (.int .i64 g.bk) := by rw [q3_0 1, World.cell?_alloc_lt _ _ _ (by simp; try omega), World.cell?_alloc_lt _ _ _ (by simp; try omega), World.cell?_alloc_lt _ _ _ (by simp; try omega)]; exact (cell_blk (alloc_at _ _ _ (by simp)) 1).trans rfl
  have gbg2 : w3.cell? ⟨w.heap.size, 2, none⟩ = some (.int .i64 g.rw) := by rw [q3_0 2, World.cell?_alloc_lt _ _ _ (by simp; try omega), World.cell?_alloc_lt _ _ _ (by simp; try omega), World.cell?_alloc_lt _ _ _ (by simp; try omega)]; exact (cell_blk (alloc_at _ _ _ (by simp)) 2).trans rfl
  have gbg3 : w3.cell? ⟨w.heap.size, 3, none⟩ = some (.int .i64 g.cl) := by rw [q3_0 3, World.cell?_alloc_lt _ _ _ (by simp; try omega), World.cell?_alloc_lt _ _ _ (by simp; try omega), World.cell?_alloc_lt _ _ _ (by simp; try omega)]; exact (cell_blk (alloc_at _ _ _ (by simp)) 3).trans rfl
  have gbx0 : w3.cell? ⟨w.heap.size + 1 + 1, 0, none⟩ = some (.int .i64 x.b) := by rw [q3_2 0, World.cell?_alloc_lt _ _ _ (by simp; try omega)]; exact (cell_blk (alloc_at _ _ _ (by simp)) 0).trans rfl
  have gbx1 : w3.cell? ⟨w.heap.size + 1 + 1, 1, none⟩ = some (.int .i64 x.r) := by rw [q3_2 1, World.cell?_alloc_lt _ _ _ (by simp; try omega)]; exact (cell_blk (alloc_at _ _ _ (by simp)) 1).trans rfl
  have gbx2 : w3.cell? ⟨w.heap.size + 1 + 1, 2, none⟩ = some (.int .i64 x.c) := by rw [q3_2 2, World.cell?_alloc_lt _ _ _ (by simp; try omega)]; exact (cell_blk (alloc_at _ _ _ (by simp)) 2).trans rfl
  clear q1_0 q2_0 q3_0 q1_2 q2_2 q3_2
  have hcap := caps_n p.out
  have hc1 := hcap.1; have hc2 := hcap.2
  have i0 : (0 : Int) ≤ (k : Int) := by omega
  have i1 : (k : Int) < (P.n : Int) := by omega
  have j0 : (0 : Int) ≤ (j : Int) := by omega
  have j1 : (j : Int) < 11 := by omega
  have hH3 := hide H3
  clear hF hf hga hfh hcf hyv hin hcap hkp hokP
  have hbj : btw (j : Int) 0 10 = true := btw_mk (by omega) (by omega)
  have hbv : btw (v : Int) 0 15 = true := btw_mk (by omega) (by omega)
  have hxor : bits .xor .i64 ((yv : Nat) : Int) ((v : Nat) : Int) = ((yv ^^^ v : Nat) : Int) := i64_xor yv v (by omega) (by omega)
  go_wp2_with (first | (go_at_call 59; refine (spec_l01In_is _ _ _ true hbj _).mono ?_; rintro ey wy ⟨rfl, rfl⟩) | (go_at_call 67; refine (spec_l11Is_is _ true hbv _).mono ?_; rintro ey wy ⟨rfl, rfl⟩))
  go_region_held3 (fun v => v.cell? ⟨w1.heap.size, 0, none⟩ = some (.slice (some ⟨gg, 0, none⟩) P.n P.c) ∧ v.cell? ⟨gg, k * 2, none⟩ = some (.slice (some ⟨q, 0, none⟩) 11 cc) ∧ v.cell? ⟨w.heap.size, 0, none⟩ = some (.int .i64 g.gr) ∧ v.cell? ⟨w.heap.size, 1, none⟩ = some (.int .i64 g.bk) ∧ v.cell? ⟨w.heap.size, 2, none⟩ = some (.int .i64 g.rw) ∧ v.cell? ⟨w.heap.size, 3, none⟩ = some (.int .i64 g.cl) ∧ v.cell? ⟨w.heap.size + 1 + 1, 0, none⟩ = some (.int .i64 x.b) ∧ v.cell? ⟨w.heap.size + 1 + 1, 1, none⟩ = some (.int .i64 x.r) ∧ v.cell? ⟨w.heap.size + 1 + 1, 2, none⟩ = some (.int .i64 x.c)) (first | go_keep | simp [go_sem, *]) (first | (go_at_call 38; refine (spec_AddrIndex g x (k : Nat) _ hado HK.out).mono ?_; rintro ex y1 ⟨rfl, hy9⟩; have hY : Below w3.heap.size w3 y1 := below_drew hy9; clear hy9; have s_y := hY.size; have p_y := ((bcell hY).1 w1.heap.size 0 (by omega)).trans c0; have a_y := ((bcell hY).1 gg (k * 2) (by omega)).trans d0; have b_y := ((bcell hY).1 q j (by omega)).trans dq; have f_y := fun o => ((bcell hY).2 q o (by omega)).trans (dqf o); have x0_y := fun o => (bcell hY).1 (w.heap.size) o (by omega); have x2_y := fun o => (bcell hY).1 (w.heap.size + 1 + 1) o (by omega); have x3_y := fun o => (bcell hY).1 (w.heap.size + 1 + 1 + 1) o (by omega); have z3_y := fun o => (bcell hY).2 (w.heap.size + 1 + 1 + 1) o (by omega)))
  all_goals
    have q2y : q < y1.heap.size := by omega
    go_upto_region 5 with fail
    have hlq : w.heap.size + 4 ≤ q := by simpa using q1
    have hx16 : yv ^^^ v < 16 := Nat.xor_lt_two_pow (n := 4) hy16 hv
    have HZ := hide (HF.out.below hY)
    have HH := hide (HZ.out.symSet (j := j) (v := ((yv ^^^ v : Nat) : Int)) HFE.out (by rw [HFH.out]) ⟨by omega, by omega⟩)
    have hBZ : Below (w.heap.size + 4) w3 (y1.setCell ⟨q, j, none⟩ (.int .i64 ((yv ^^^ v : Nat) : Int))) := (hY.mono (by omega)).setCell (p := ⟨q, j, none⟩) hlq _
    have sZ := hBZ.size
    clear hY HZ p_y a_y b_y f_y x0_y x2_y x3_y z3_y dq dqf c0 d0 hxor
    generalize (y1.setCell ⟨q, j, none⟩ (.int .i64 ((yv ^^^ v : Nat) : Int))) = Z at HH hBZ sZ ⊢
    have v3 := fun o => (bcell hBZ).1 (w.heap.size + 1 + 1 + 1) o (by omega)
    have u3 := fun o => (bcell hBZ).2 (w.heap.size + 1 + 1 + 1) o (by omega)
    have t3 : w.heap.size + 1 + 1 + 1 < Z.heap.size := by omega
    have e0 := cell_blk HH.out.blk 0; have e1 := cell_blk HH.out.blk 1; have e2 := cell_blk HH.out.blk 2
    have t4 := HH.out.lt
    have H5 : Below w.heap.size w Z := bthen hH3.out hBZ (by omega)
    have hcc : conC ⟨f.h, f.ws.set j ((yv ^^^ v : Nat) : Int), f.p⟩ = (ints (turn (nats (A.con.cs.getD k ([], false)).1) j v), (A.con.cs.getD k ([], false)).2) := by
      rw [← HCP.out, ← HCF.out]
      show (f.ws.set j ((yv ^^^ v : Nat) : Int), f.p) = (ints (turn (nats f.ws) j v), f.p)
      rw [HYV.out, flip_ints HIN.out]
    have HCC := hide hcc
    clear hBZ hcc
    go_wp2_with fail
    refine bodyPost_ret (by simp [results, Try.results36, go_sem, *]; try rfl) rfl ?_
    exact ⟨{ P with es := P.es.set k ⟨f.h, f.ws.set j ((yv ^^^ v : Nat) : Int), f.p⟩ }, rfl, HH.out.own.ret (by simp) (by simp; omega) (Nat.le_refl _) _ _ _, set_con HCP.out HQ.out HCC.out, by go_grown⟩
end Go.Proofs.Ytkhcepmileiejaa
