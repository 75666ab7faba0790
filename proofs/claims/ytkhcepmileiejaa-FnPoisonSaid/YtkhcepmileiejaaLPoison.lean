/- A poisoned line remains lost until it is written: for every drawn input FnPoison answers true. No condition. -/
import Derived.Test.YtkhcepmileiejaaWordP
import Derived.Test.YtkhcepmileiejaaWord1
import Derived.Test.YtkhcepmileiejaaPlaces3
import Derived.Deep.DeepCutAuto
import Derived.Test.YtkhcepmileiejaaHeldLast
set_option linter.unusedSimpArgs false
set_option linter.unusedVariables false
namespace Go.Proofs.Ytkhcepmileiejaa
open Go.RowKit Go.ChangeShapes Go.WideShapes Go.ChangeAt Go.Joins Go.Deep
open Go.ChangeMaps (open_string shut_string)
theorem spec_AddrAt_is (g : Ge) (n : Int) (x : Ad) (w : World) (hv : btw n 0 (lineCnt g - 1) = true) (he : adOf g n = x) :
    Calls Try.prog 33 #[.agg #[.int .i64 g.gr, .int .i64 g.bk, .int .i64 g.rw, .int .i64 g.cl], .int .i64 n] w fun e w' => e = .returned (.tuple #[.agg #[.int .i64 x.b, .int .i64 x.r, .int .i64 x.c], .bool true]) ∧ Below w.heap.size w w' := by
  subst he; exact spec_AddrAt g n _ _ _ w hv rfl
/-- What the region that draws a place holds on to. -/
theorem keep_gp {W v : World} {g : Ge} {b0 q : Nat} {P0 : Int} (k0 : W.heap[b0]? = some (.cells #[.int .i64 g.gr, .int .i64 g.bk, .int .i64 g.rw, .int .i64 g.cl] 30 (0, 0))) (hq : W.cell? ⟨q, 0, none⟩ = some (.int .i64 P0)) (hql : q < W.heap.size) (hb : Below W.heap.size W v) : v.cell? ⟨b0, 0, none⟩ = some (.int .i64 g.gr) ∧ v.cell? ⟨b0, 1, none⟩ = some (.int .i64 g.bk) ∧ v.cell? ⟨b0, 2, none⟩ = some (.int .i64 g.rw) ∧ v.cell? ⟨b0, 3, none⟩ = some (.int .i64 g.cl) ∧ v.cell? ⟨q, 0, none⟩ = some (.int .i64 P0) ∧ Below W.heap.size W v :=
  ⟨cell_blk (blk_below hb k0 (lt_blk k0)) 0, cell_blk (blk_below hb k0 (lt_blk k0)) 1, cell_blk (blk_below hb k0 (lt_blk k0)) 2, cell_blk (blk_below hb k0 (lt_blk k0)) 3, ((bcell hb).1 q 0 hql).trans hq, hb⟩
/-- What a region that flips a symbol holds on to. -/
theorem keep_flip {W v : World} {g : Ge} {b0 b1 b2 q o o2 : Nat} {u u2 : Int} {A : Ar} {x : Ad} (k0 : W.heap[b0]? = some (.cells #[.int .i64 g.gr, .int .i64 g.bk, .int .i64 g.rw, .int .i64 g.cl] 30 (0, 0))) (k1 : W.heap[b1]? = some (.cells #[.slice A.a A.n A.c, .slice A.ag.1.a A.ag.1.n A.ag.1.c, .slice A.ht.1.a A.ht.1.n A.ht.1.c] 34 (0, 0))) (k2 : W.heap[b2]? = some (.cells #[.int .i64 x.b, .int .i64 x.r, .int .i64 x.c] 44 (0, 0))) (hq : W.cell? ⟨q, o, none⟩ = some (.int .i64 u)) (hq2 : W.cell? ⟨q, o2, none⟩ = some (.int .i64 u2)) (hql : q < W.heap.size) (hb : Below W.heap.size W v) : v.cell? ⟨b0, 0, none⟩ = some (.int .i64 g.gr) ∧ v.cell? ⟨b0, 1, none⟩ = some (.int .i64 g.bk) ∧ v.cell? ⟨b0, 2, none⟩ = some (.int .i64 g.rw) ∧ v.cell? ⟨b0, 3, none⟩ = some (.int .i64 g.cl) ∧ v.cell? ⟨b1, 0, none⟩ = some (.slice A.a A.n A.c) ∧ v.cell? ⟨b1, 1, none⟩ = some (.slice A.ag.1.a A.ag.1.n A.ag.1.c) ∧ v.cell? ⟨b1, 2, none⟩ = some (.slice A.ht.1.a A.ht.1.n A.ht.1.c) ∧ v.cell? ⟨b2, 0, none⟩ = some (.int .i64 x.b) ∧ v.cell? ⟨b2, 1, none⟩ = some (.int .i64 x.r) ∧ v.cell? ⟨b2, 2, none⟩ = some (.int .i64 x.c) ∧ v.cell? ⟨q, o, none⟩ = some (.int .i64 u) ∧ v.cell? ⟨q, o2, none⟩ = some (.int .i64 u2) :=
  ⟨cell_blk (blk_below hb k0 (lt_blk k0)) 0, cell_blk (blk_below hb k0 (lt_blk k0)) 1, cell_blk (blk_below hb k0 (lt_blk k0)) 2, cell_blk (blk_below hb k0 (lt_blk k0)) 3, cell_blk (blk_below hb k1 (lt_blk k1)) 0, cell_blk (blk_below hb k1 (lt_blk k1)) 1, cell_blk (blk_below hb k1 (lt_blk k1)) 2, cell_blk (blk_below hb k2 (lt_blk k2)) 0, cell_blk (blk_below hb k2 (lt_blk k2)) 1, cell_blk (blk_below hb k2 (lt_blk k2)) 2, ((bcell hb).1 q o hql).trans hq, ((bcell hb).1 q o2 hql).trans hq2⟩
theorem keep_gAxp {W v : World} {g : Ge} {b0 b1 b2 q o : Nat} {u : Int} {A : Ar} {x : Ad} (k0 : W.heap[b0]? = some (.cells #[.int .i64 g.gr, .int .i64 g.bk, .int .i64 g.rw, .int .i64 g.cl] 30 (0, 0))) (k1 : W.heap[b1]? = some (.cells #[.slice A.a A.n A.c, .slice A.ag.1.a A.ag.1.n A.ag.1.c, .slice A.ht.1.a A.ht.1.n A.ht.1.c] 34 (0, 0))) (k2 : W.heap[b2]? = some (.cells #[.int .i64 x.b, .int .i64 x.r, .int .i64 x.c] 44 (0, 0))) (hq : W.cell? ⟨q, o, none⟩ = some (.int .i64 u)) (hql : q < W.heap.size) (hb : Below W.heap.size W v) : v.cell? ⟨b0, 0, none⟩ = some (.int .i64 g.gr) ∧ v.cell? ⟨b0, 1, none⟩ = some (.int .i64 g.bk) ∧ v.cell? ⟨b0, 2, none⟩ = some (.int .i64 g.rw) ∧ v.cell? ⟨b0, 3, none⟩ = some (.int .i64 g.cl) ∧ v.cell? ⟨b1, 0, none⟩ = some (.slice A.a A.n A.c) ∧ v.cell? ⟨b1, 1, none⟩ = some (.slice A.ag.1.a A.ag.1.n A.ag.1.c) ∧ v.cell? ⟨b1, 2, none⟩ = some (.slice A.ht.1.a A.ht.1.n A.ht.1.c) ∧ v.cell? ⟨b2, 0, none⟩ = some (.int .i64 x.b) ∧ v.cell? ⟨b2, 1, none⟩ = some (.int .i64 x.r) ∧ v.cell? ⟨b2, 2, none⟩ = some (.int .i64 x.c) ∧ v.cell? ⟨q, o, none⟩ = some (.int .i64 u) ∧ Below W.heap.size W v :=
  ⟨cell_blk (blk_below hb k0 (lt_blk k0)) 0, cell_blk (blk_below hb k0 (lt_blk k0)) 1, cell_blk (blk_below hb k0 (lt_blk k0)) 2, cell_blk (blk_below hb k0 (lt_blk k0)) 3, cell_blk (blk_below hb k1 (lt_blk k1)) 0, cell_blk (blk_below hb k1 (lt_blk k1)) 1, cell_blk (blk_below hb k1 (lt_blk k1)) 2, cell_blk (blk_below hb k2 (lt_blk k2)) 0, cell_blk (blk_below hb k2 (lt_blk k2)) 1, cell_blk (blk_below hb k2 (lt_blk k2)) 2, ((bcell hb).1 q o hql).trans hq, hb⟩
set_option maxRecDepth 100000 in
set_option maxHeartbeats 8000000 in
theorem FnPoison_walk (a : Option Addr) (n c : Nat) (zs : List Int) (w : World) (ha : IsInts .u8 w a n c zs) :
    Calls Try.prog 9 #[.slice a n c] w fun e w' => e = .returned (.bool true) ∧ Below w.heap.size w w' := by
  have hm : c ≤ 9223372036854775807 := ha.2.2.1
  have hc := ha.2.1
  by_cases hs : n ≤ 1048576
  · have HA := hide ha
    clear ha
    go_enter Try.func9, Try.ntmps9
    go_wp2_with fail
    refine (laws_big a n c _ hs).mono ?_
    rintro e w' ⟨rfl, rfl⟩
    go_wp2_with fail
    refine (spec_DrawArray a n c _ _ HA.out hs).mono ?_
    rintro e v1 ⟨g, l1, l2, A, hgo, rfl, oA, okA, hB1⟩
    have s1 := hB1.size
    have k1 : (((v1.alloc (.cells #[.int .i64 g.gr, .int .i64 g.bk, .int .i64 g.rw, .int .i64 g.cl] 30)).alloc (.cells #[.int .i64 l1, .int .i64 l2] 57)).alloc (.cells #[.slice A.a A.n A.c, .slice A.ag.1.a A.ag.1.n A.ag.1.c, .slice A.ht.1.a A.ht.1.n A.ht.1.c] 34)).heap[v1.heap.size]? = some (.cells #[.int .i64 g.gr, .int .i64 g.bk, .int .i64 g.rw, .int .i64 g.cl] 30 (0, 0)) := by rw [alloc_lt _ _ _ (by simp; try omega), alloc_lt _ _ _ (by simp; try omega)]; exact alloc_at _ _ _ (by simp)
    have k2 : (((v1.alloc (.cells #[.int .i64 g.gr, .int .i64 g.bk, .int .i64 g.rw, .int .i64 g.cl] 30)).alloc (.cells #[.int .i64 l1, .int .i64 l2] 57)).alloc (.cells #[.slice A.a A.n A.c, .slice A.ag.1.a A.ag.1.n A.ag.1.c, .slice A.ht.1.a A.ht.1.n A.ht.1.c] 34)).heap[v1.heap.size + 1 + 1]? = some (.cells #[.slice A.a A.n A.c, .slice A.ag.1.a A.ag.1.n A.ag.1.c, .slice A.ht.1.a A.ht.1.n A.ht.1.c] 34 (0, 0)) := alloc_at _ _ _ (by simp)
    have hBW : Below v1.heap.size v1 (((v1.alloc (.cells #[.int .i64 g.gr, .int .i64 g.bk, .int .i64 g.rw, .int .i64 g.cl] 30)).alloc (.cells #[.int .i64 l1, .int .i64 l2] 57)).alloc (.cells #[.slice A.a A.n A.c, .slice A.ag.1.a A.ag.1.n A.ag.1.c, .slice A.ht.1.a A.ht.1.n A.ht.1.c] 34)) := by go_grown
    have sW : v1.heap.size + 3 ≤ (((v1.alloc (.cells #[.int .i64 g.gr, .int .i64 g.bk, .int .i64 g.rw, .int .i64 g.cl] 30)).alloc (.cells #[.int .i64 l1, .int .i64 l2] 57)).alloc (.cells #[.slice A.a A.n A.c, .slice A.ag.1.a A.ag.1.n A.ag.1.c, .slice A.ht.1.a A.ht.1.n A.ht.1.c] 34)).heap.size := by simp
    have HIS := hide (oA.is.below hBW (Nat.le_refl _))
    have HT : A.tot ≤ 1048576 := by rw [tot_con oA.is]; exact tot_ok okA
    have HBW := hide (bthen hB1 hBW s1)
    clear hB1 hBW oA
    go_wp2_with fail
    generalize (((v1.alloc (.cells #[.int .i64 g.gr, .int .i64 g.bk, .int .i64 g.rw, .int .i64 g.cl] 30)).alloc (.cells #[.int .i64 l1, .int .i64 l2] 57)).alloc (.cells #[.slice A.a A.n A.c, .slice A.ag.1.a A.ag.1.n A.ag.1.c, .slice A.ht.1.a A.ht.1.n A.ht.1.c] 34)) = W1 at *
    refine (spec_DrawPlaces a n c zs _ (HA.out.below HBW.out (Nat.le_refl _)) hs).mono ?_
    rintro e v2 ⟨a1, c1, ps, rfl, hown, hpl, hpb, hB2⟩
    have s2 := hB2.size
    obtain ⟨pg, rfl, hpg0, hpg1, hcell⟩ := own_some hown (by omega)
    have hp0 := hcell 0 (by omega); have hp1 := hcell 1 (by omega); have hp2 := hcell 2 (by omega); have hp3 := hcell 3 (by omega); have hp4 := hcell 4 (by omega); have hp5 := hcell 5 (by omega)
    obtain ⟨P0, hP0⟩ : ∃ z, ps[0]? = some z := ⟨_, List.getElem?_eq_getElem (by omega)⟩
    obtain ⟨P1, hP1⟩ : ∃ z, ps[1]? = some z := ⟨_, List.getElem?_eq_getElem (by omega)⟩
    obtain ⟨P2, hP2⟩ : ∃ z, ps[2]? = some z := ⟨_, List.getElem?_eq_getElem (by omega)⟩
    obtain ⟨P3, hP3⟩ : ∃ z, ps[3]? = some z := ⟨_, List.getElem?_eq_getElem (by omega)⟩
    obtain ⟨P4, hP4⟩ : ∃ z, ps[4]? = some z := ⟨_, List.getElem?_eq_getElem (by omega)⟩
    obtain ⟨P5, hP5⟩ : ∃ z, ps[5]? = some z := ⟨_, List.getElem?_eq_getElem (by omega)⟩
    have hb0 := hpb P0 (List.mem_of_getElem? hP0)
    have hb1 := hpb P1 (List.mem_of_getElem? hP1)
    have hb2 := hpb P2 (List.mem_of_getElem? hP2)
    have hb3 := hpb P3 (List.mem_of_getElem? hP3)
    have hb4 := hpb P4 (List.mem_of_getElem? hP4)
    have hb5 := hpb P5 (List.mem_of_getElem? hP5)
    rw [List.getElem?_map, hP0] at hp0
    rw [List.getElem?_map, hP1] at hp1
    rw [List.getElem?_map, hP2] at hp2
    rw [List.getElem?_map, hP3] at hp3
    rw [List.getElem?_map, hP4] at hp4
    rw [List.getElem?_map, hP5] at hp5
    simp only [Option.map_some] at hp0 hp1 hp2 hp3 hp4 hp5
    obtain ⟨lc, hlc⟩ : ∃ lc, lineCnt g = lc := ⟨_, rfl⟩
    have hlc1 : 1 ≤ lc ∧ lc ≤ 1024 := by rw [← hlc]; have := lineCnt_bd g; unfold lineCnt at this ⊢; rw [if_pos hgo] at this ⊢; exact ⟨by have := (line_bd hgo).1; omega, this.2⟩
    obtain ⟨li, hli⟩ : ∃ li, P0.tmod lc = li := ⟨_, rfl⟩
    have hli0 : 0 ≤ li ∧ li < lc := by rw [← hli, Int.tmod_eq_emod_of_nonneg hb0.1]; exact ⟨Int.emod_nonneg _ (by omega), Int.emod_lt_of_pos _ (by omega)⟩
    obtain ⟨x, hx⟩ : ∃ x, adOf g li = x := ⟨_, rfl⟩
    have hbl : btw li 0 (lineCnt g - 1) = true := btw_mk (by omega) (by omega)
    have hxo : adOk g x = true := by rw [← hx]; exact (adOf_ok hbl).2.1
    obtain ⟨j, hj, hj11⟩ : ∃ j : Nat, P1.tmod 11 = (j : Int) ∧ j < 11 := by
      rw [Int.tmod_eq_emod_of_nonneg hb1.1]
      exact ⟨(P1 % 11).toNat, by omega, by omega⟩
    obtain ⟨vv, hv, hv15⟩ : ∃ v : Nat, P2.tmod 15 = (v : Int) ∧ v < 15 := by
      rw [Int.tmod_eq_emod_of_nonneg hb2.1]
      exact ⟨(P2 % 15).toNat, by omega, by omega⟩
    obtain ⟨yy, hy, hy15⟩ : ∃ v : Nat, P4.tmod 15 = (v : Int) ∧ v < 15 := by
      rw [Int.tmod_eq_emod_of_nonneg hb4.1]
      exact ⟨(P4 % 15).toNat, by omega, by omega⟩
    obtain ⟨v, hve⟩ : ∃ v : Nat, v = vv + 1 := ⟨_, rfl⟩
    obtain ⟨y, hye⟩ : ∃ v : Nat, v = yy + 1 := ⟨_, rfl⟩
    obtain ⟨jk, hjk⟩ : ∃ v : Nat, v = j + 1 := ⟨_, rfl⟩
    obtain ⟨jj, hjj⟩ : ∃ v : Nat, v = (j + 1) % 11 := ⟨_, rfl⟩
    obtain ⟨wn, rfl⟩ : ∃ k : Nat, P3 = (k : Int) := ⟨P3.toNat, by omega⟩
    obtain ⟨un, rfl⟩ : ∃ k : Nat, P5 = (k : Int) := ⟨P5.toNat, by omega⟩
    have wv : IntKind.i64.wrap (1 + (vv : Int)) = (v : Int) := by rw [hve]; exact (IntWalk.i64_in _ (by omega)).trans (by omega)
    have wy : IntKind.i64.wrap (1 + (yy : Int)) = (y : Int) := by rw [hye]; exact (IntWalk.i64_in _ (by omega)).trans (by omega)
    have wj : IntKind.i64.wrap ((j : Int) + 1) = (jk : Int) := by rw [hjk]; exact (IntWalk.i64_in _ (by omega)).trans (by omega)
    have hv16 : v < 16 := by omega
    have hy16 : y < 16 := by omega
    have hjj11 : jj < 11 := by omega
    have mj : (jk : Int).tmod 11 = (jj : Int) := by rw [Int.tmod_eq_emod_of_nonneg (by omega), hjk, hjj]; omega
    obtain ⟨C1, C2, C3, C4, C5, C6, C7, C8, p1, o1, p2, o2, p3, o3, p4, o4, p5, o5, p6, o6, p7, o7, p8⟩ := poison_plain okA hxo (wn := wn) (un := un) (j := j) (v := v) (y := y) (by omega) (by omega) hj11 (by omega) (by omega) (by omega) (by omega)
    rw [← hjj] at p3
    have HQ := hide (And.intro p1 (And.intro p2 (And.intro p3 (And.intro p4 (And.intro p5 (And.intro p6 (And.intro p7 p8)))))))
    have HOK := hide (And.intro o1 (And.intro o2 (And.intro o3 (And.intro o4 (And.intro o5 (And.intro o6 o7))))))
    have HY := hide hy; have HW := hide (And.intro wv (And.intro wy (And.intro wj mj)))
    clear p1 p2 p3 p4 p5 p6 p7 p8 o1 o2 o3 o4 o5 o6 o7 hve hye hjk hjj hy wv wy wj mj
    have HJ := hide hj; have HV := hide hv; have HX := hide hx; have HXO := hide hxo; have HLC := hide hlc; have HBL := hide hbl
    have k1v := blk_below hB2 k1 (by omega); have k2v := blk_below hB2 k2 (by omega)
    have HI2 := hide (HIS.out.below hB2 (Nat.le_refl _))
    have HB2 := hide (bthen HBW.out hB2 (by omega))
    have HK := hide (And.intro k1v k2v)
    have HPC := hide (And.intro hp0 (And.intro hp1 (And.intro hp2 (And.intro hp3 (And.intro hp4 hp5)))))
    have e_g0 := cell_blk k1v 0; have e_g1 := cell_blk k1v 1; have e_g2 := cell_blk k1v 2; have e_g3 := cell_blk k1v 3
    have zg : v1.heap.size < v2.heap.size := by omega
    have wr1 : IntKind.i64.wrap li = li := IntWalk.i64_in _ (by omega)
    have lcz : (lc == 0) = false := by simp; omega
    have lcn : ¬ lc = 0 := by omega
    clear hp0 e_g0 e_g1 e_g2 e_g3 k1 k2 k1v k2v hown hpl hpb hcell hP0 hP1 hP2 HBW HIS hB2 hx hxo hlc hbl hp1 hp2 hp3 hp4 hp5 hj hv
    go_upto_region 5 with fail
    go_cut [7, 8] (fun s0 s1 wx => ∃ b : Nat, s0 = .pointer (some ⟨b, 0, none⟩) ∧ s1 = .bool true ∧ Below v2.heap.size v2 wx ∧ v2.heap.size ≤ b ∧ wx.heap[b]? = some (.cells #[.int .i64 x.b, .int .i64 x.r, .int .i64 x.c] 44 (0, 0)))
    case first =>
      go_region_held3 (fun u => u.cell? ⟨v1.heap.size, 0, none⟩ = some (.int .i64 g.gr) ∧ u.cell? ⟨v1.heap.size, 1, none⟩ = some (.int .i64 g.bk) ∧ u.cell? ⟨v1.heap.size, 2, none⟩ = some (.int .i64 g.rw) ∧ u.cell? ⟨v1.heap.size, 3, none⟩ = some (.int .i64 g.cl) ∧ u.cell? ⟨pg, 0, none⟩ = some (.int .i64 P0) ∧ Below v2.heap.size v2 u) (first | (refine keep_gp HK.out.1 HPC.out.1 hpg1 ?_; (try go_split_ands); (repeat' (first | (with_reducible assumption) | (with_reducible refine Below.alloc ?_ ?_ _) | (with_reducible refine Below.drew ?_) | (with_reducible refine Below.setCell ?_ ?_ _) | (with_reducible exact Below.refl _ _) | (with_reducible exact Nat.le_refl _) | omega | (simp only [World.size_alloc, World.size_setCell, World.size_drew] <;> omega))); done)) (first | (go_at_call 34; refine (spec_LineCount_is g lc HLC.out _).mono ?_; rintro ex y1 ⟨rfl, hy_y1⟩; have hW_y1 : Below v2.heap.size v2 y1 := bthenS (by (try go_split_ands); (repeat' (first | (with_reducible assumption) | (with_reducible refine Below.alloc ?_ ?_ _) | (with_reducible refine Below.drew ?_) | (with_reducible refine Below.setCell ?_ ?_ _) | (with_reducible exact Below.refl _ _) | (with_reducible exact Nat.le_refl _) | omega | (simp only [World.size_alloc, World.size_setCell, World.size_drew] <;> omega))); done) hy_y1; have l_y1 := hW_y1.size; (first | (have hb_p_y1 := lt_blk hb_al; replace hb_al := blk_below hy_y1 hb_al (lt_blk hb_al)) | (have hb_al := blk_below hy_y1 (alloc_at _ (.cells #[.int .i64 0, .int .i64 0, .int .i64 0] 44) _ rfl) (by simp)) | skip); (try simp only [World.size_drew] at hb_al); (try simp only [World.size_drew] at hb_p_y1)) | (go_at_call 33; refine (spec_AddrAt_is g li x _ HBL.out HX.out).mono ?_; rintro ex y2 ⟨rfl, hy_y2⟩; have hW_y2 : Below v2.heap.size v2 y2 := bthenS (by (try go_split_ands); (repeat' (first | (with_reducible assumption) | (with_reducible refine Below.alloc ?_ ?_ _) | (with_reducible refine Below.drew ?_) | (with_reducible refine Below.setCell ?_ ?_ _) | (with_reducible exact Below.refl _ _) | (with_reducible exact Nat.le_refl _) | omega | (simp only [World.size_alloc, World.size_setCell, World.size_drew] <;> omega))); done) hy_y2; have l_y2 := hW_y2.size; (first | (have hb_p_y2 := lt_blk hb_al; replace hb_al := blk_below hy_y2 hb_al (lt_blk hb_al)) | (have hb_al := blk_below hy_y2 (alloc_at _ (.cells #[.int .i64 0, .int .i64 0, .int .i64 0] 44) _ rfl) (by simp)) | skip); (try simp only [World.size_drew] at hb_al); (try simp only [World.size_drew] at hb_p_y2); (try (obtain ⟨hc0, hc1, hc2, hf0, hf1, hf2⟩ := cells3 hb_al; have hb_lt := lt_blk hb_al))))
      all_goals
        go_wp2_with fail
        go_meet
        first
          | exact ⟨_, rfl, rfl, Below.alloc hW_y2 hW_y2.size _, hW_y2.size, alloc_at _ _ _ rfl⟩
          | (refine ⟨_, rfl, rfl, Below.setCell (Below.setCell (Below.setCell hW_y2 (by simp only; omega) _) (by simp only; omega) _) (by simp only; omega) _, ?_, set3 hb_al⟩; omega)
    case rest =>
      obtain ⟨xb, rfl, rfl, hBx, hxb, kx⟩ := hcut
      obtain ⟨v3, rfl⟩ : ∃ V : World, V = wc := ⟨_, rfl⟩
      have s3 := hBx.size
      have hx3 := lt_blk kx
      have HK3 := hide (And.intro (blk_below hBx HK.out.1 (by omega)) (And.intro (blk_below hBx HK.out.2 (by omega)) kx))
      have HI3 := hide (HI2.out.below hBx (Nat.le_refl _))
      have HB3 := hide (bthen HB2.out hBx (by omega))
      have HP3 := hide (show (∀ o, v3.cell? ⟨pg, o, none⟩ = v2.cell? ⟨pg, o, none⟩) from fun o => (bcell hBx).1 pg o hpg1)
      have e_p1 := (HP3.out 1).trans HPC.out.2.1
      have hj := HJ.out
      clear hBx kx HK HI2 HB2 lcz lcn wr1
      go_upto_region 7 with fail
      clear e_p1 hj
      have q3 := (HP3.out 3).trans HPC.out.2.2.2.1
      have hpl3 : pg < v3.heap.size := by omega
      go_cut [10] (fun s0 wx => ∃ (b lo hi : Nat) (Q : Ar), s0 = .pointer (some ⟨b, 0, none⟩) ∧ Kept v3 wx Q b lo hi C1)
      case first =>
        go_region_held3 (fun u => u.cell? ⟨v1.heap.size, 0, none⟩ = some (.int .i64 g.gr) ∧ u.cell? ⟨v1.heap.size, 1, none⟩ = some (.int .i64 g.bk) ∧ u.cell? ⟨v1.heap.size, 2, none⟩ = some (.int .i64 g.rw) ∧ u.cell? ⟨v1.heap.size, 3, none⟩ = some (.int .i64 g.cl) ∧ u.cell? ⟨v1.heap.size + 1 + 1, 0, none⟩ = some (.slice A.a A.n A.c) ∧ u.cell? ⟨v1.heap.size + 1 + 1, 1, none⟩ = some (.slice A.ag.1.a A.ag.1.n A.ag.1.c) ∧ u.cell? ⟨v1.heap.size + 1 + 1, 2, none⟩ = some (.slice A.ht.1.a A.ht.1.n A.ht.1.c) ∧ u.cell? ⟨xb, 0, none⟩ = some (.int .i64 x.b) ∧ u.cell? ⟨xb, 1, none⟩ = some (.int .i64 x.r) ∧ u.cell? ⟨xb, 2, none⟩ = some (.int .i64 x.c) ∧ u.cell? ⟨pg, 3, none⟩ = some (.int .i64 wn) ∧ Below v3.heap.size v3 u) (first | (refine keep_gAxp HK3.out.1 HK3.out.2.1 HK3.out.2.2 q3 hpl3 ?_; (try go_split_ands); (repeat' (first | (with_reducible assumption) | (with_reducible refine Below.alloc ?_ ?_ _) | (with_reducible refine Below.drew ?_) | (with_reducible refine Below.setCell ?_ ?_ _) | (with_reducible exact Below.refl _ _) | (with_reducible exact Nat.le_refl _) | omega | (simp only [World.size_alloc, World.size_setCell, World.size_drew] <;> omega))); done)) (first | (go_at_call 20; refine (spec_PutWord g A x wn C1 _ HQ.out.1 (HI3.out.below (B := v3.heap.size) (by (try go_split_ands); (repeat' (first | (with_reducible assumption) | (with_reducible refine Below.alloc ?_ ?_ _) | (with_reducible refine Below.drew ?_) | (with_reducible refine Below.setCell ?_ ?_ _) | (with_reducible exact Below.refl _ _) | (with_reducible exact Nat.le_refl _) | omega | (simp only [World.size_alloc, World.size_setCell, World.size_drew] <;> omega))); done) (Nat.le_refl _)) HT).mono ?_; rintro ex y1 ⟨Q, rfl, oQ, hcQ, hy_y1⟩; have hW_y1 : Below v3.heap.size v3 y1 := bthenS (by (try go_split_ands); (repeat' (first | (with_reducible assumption) | (with_reducible refine Below.alloc ?_ ?_ _) | (with_reducible refine Below.drew ?_) | (with_reducible refine Below.setCell ?_ ?_ _) | (with_reducible exact Below.refl _ _) | (with_reducible exact Nat.le_refl _) | omega | (simp only [World.size_alloc, World.size_setCell, World.size_drew] <;> omega))); done) hy_y1; have l_y1 := hW_y1.size; have HO := hide oQ; have HCQ := hide hcQ; clear oQ hcQ; (first | (have hb_p_y1 := lt_blk hb_al; replace hb_al := blk_below hy_y1 hb_al (lt_blk hb_al)) | (have hb_al := blk_below hy_y1 (alloc_at _ (.cells #[.slice none 0 0, .slice none 0 0, .slice none 0 0] 34) _ rfl) (by simp)) | skip); (try simp only [World.size_drew] at hb_al); (try simp only [World.size_drew] at hb_p_y1); (try (obtain ⟨hc0, hc1, hc2, hf0, hf1, hf2⟩ := cells3 hb_al; have hb_lt := lt_blk hb_al))))
        all_goals
          go_wp2_with fail
          go_meet
          first | (refine ⟨_, _, _, Q, rfl, Kept.late hW_y1 ?_ HO.out HCQ.out rfl⟩ <;> (first | omega | (simp only [World.size_alloc, World.size_drew] <;> omega))) | (refine ⟨_, _, _, Q, rfl, Kept.early hW_y1 ?_ HO.out HCQ.out hb_al ?_ ?_⟩ <;> (first | omega | (simp only [World.size_alloc, World.size_drew] <;> omega)))
      case rest =>
        obtain ⟨b5, lo5, hi5, A1, rfl, hkt⟩ := hcut
        obtain ⟨v5, rfl⟩ : ∃ V : World, V = wc := ⟨_, rfl⟩
        have hB5 := hkt.below
        have s5 := hB5.size; have lb5 := hkt.bl; have ll5 := hkt.ll; have lh5 := hkt.hh
        have kh5 := hkt.blk
        have lt5 := lt_blk kh5
        have HO5 := hide hkt.own; have HC5 := hide hkt.con; have hoff := hkt.off
        have HK5 := hide (And.intro (blk_below hB5 HK3.out.1 (by omega)) (blk_below hB5 HK3.out.2.2 hx3))
        have HB5 := hide (bthen HB3.out hB5 (by omega))
        have HP5 := hide (show (∀ o, v5.cell? ⟨pg, o, none⟩ = v2.cell? ⟨pg, o, none⟩) from fun o => ((bcell hB5).1 pg o hpl3).trans (HP3.out o))
        clear hB5 hkt HK3 HI3 HB3 HP3 q3
        have HT5 : A1.tot ≤ 1048576 := by rw [tot_con HO5.out.is, HC5.out]; exact tot_ok HOK.out.1
        have q8 := (HP5.out 2).trans HPC.out.2.2.1
        have hv := HV.out; have wv := HW.out.1
        have hpl8 : pg < v5.heap.size := by omega
        go_upto_region 8 with fail
        go_cut [10] (fun s0 wx => ∃ Q : Ar, s0 = .pointer (some ⟨b5, 0, none⟩) ∧ wx.heap[b5]? = some (.cells #[.slice Q.a Q.n Q.c, .slice Q.ag.1.a Q.ag.1.n Q.ag.1.c, .slice Q.ht.1.a Q.ht.1.n Q.ht.1.c] 34 (0, 0)) ∧ OwnAr v5.heap.size wx.heap.size wx Q ∧ Q.con = C2 ∧ Below v3.heap.size v5 wx)
        case first =>
          refine wp_region_last (fun u => u.cell? ⟨v1.heap.size, 0, none⟩ = some (.int .i64 g.gr) ∧ u.cell? ⟨v1.heap.size, 1, none⟩ = some (.int .i64 g.bk) ∧ u.cell? ⟨v1.heap.size, 2, none⟩ = some (.int .i64 g.rw) ∧ u.cell? ⟨v1.heap.size, 3, none⟩ = some (.int .i64 g.cl) ∧ u.cell? ⟨b5, 0, none⟩ = some (.slice A1.a A1.n A1.c) ∧ u.cell? ⟨b5, 1, none⟩ = some (.slice A1.ag.1.a A1.ag.1.n A1.ag.1.c) ∧ u.cell? ⟨b5, 2, none⟩ = some (.slice A1.ht.1.a A1.ht.1.n A1.ht.1.c) ∧ u.cell? ⟨xb, 0, none⟩ = some (.int .i64 x.b) ∧ u.cell? ⟨xb, 1, none⟩ = some (.int .i64 x.r) ∧ u.cell? ⟨xb, 2, none⟩ = some (.int .i64 x.c) ∧ u.cell? ⟨pg, 2, none⟩ = some (.int .i64 P2) ∧ Below v5.heap.size v5 u) 10 (by kernel_rfl) (keep_gAxp HK5.out.1 kh5 HK5.out.2 q8 hpl8 (Below.refl _ _).drew) (fun hSx => ?_)
          refine wpAnyK_take 2 (i := 0) (v := ?_) rfl (by kernel_rfl) (by kernel_rfl) (by kernel_rfl) (by kernel_rfl) (fun _ _ _ h => h) (Or.inl ⟨by rfl, ?_⟩) (by assumption) ?_
          rotate_left
          · intro w hSw; (try dsimp only at hSw); go_simp; try with_reducible rfl
          try simp only [Act.put, List.getElem_toArray, List.getElem_cons_zero, List.getElem_cons_succ, List.setIfInBounds_toArray, List.set_cons_zero, List.set_cons_succ]
          refine wpAnyK_take 2 (i := 1) (v := ?_) rfl (by kernel_rfl) (by kernel_rfl) (by kernel_rfl) (by kernel_rfl) (fun _ _ _ h => h) (Or.inl ⟨by rfl, ?_⟩) (by assumption) ?_
          rotate_left
          · intro w hSw; (try dsimp only at hSw); go_simp; try with_reducible rfl
          try simp only [Act.put, List.getElem_toArray, List.getElem_cons_zero, List.getElem_cons_succ, List.setIfInBounds_toArray, List.set_cons_zero, List.set_cons_succ]
          refine wpAnyK_take 2 (i := 2) (v := ?_) rfl (by kernel_rfl) (by kernel_rfl) (by kernel_rfl) (by kernel_rfl) (fun _ _ _ h => h) (Or.inl ⟨by rfl, ?_⟩) (by assumption) ?_
          rotate_left
          · intro w hSw; (try dsimp only at hSw); go_simp; try with_reducible rfl
          try simp only [Act.put, List.getElem_toArray, List.getElem_cons_zero, List.getElem_cons_succ, List.setIfInBounds_toArray, List.set_cons_zero, List.set_cons_succ]
          refine wpAnyK_take 2 (i := 3) (v := ?_) rfl (by kernel_rfl) (by kernel_rfl) (by kernel_rfl) (by kernel_rfl) (fun _ _ _ h => h) (Or.inl ⟨by rfl, ?_⟩) (by assumption) ?_
          rotate_left
          · intro w hSw; (try dsimp only at hSw); go_simp; try with_reducible rfl
          try simp only [Act.put, List.getElem_toArray, List.getElem_cons_zero, List.getElem_cons_succ, List.setIfInBounds_toArray, List.set_cons_zero, List.set_cons_succ]
          refine wpAnyK_take 2 (i := 4) (v := ?_) rfl (by kernel_rfl) (by kernel_rfl) (by kernel_rfl) (by kernel_rfl) (fun _ _ _ h => h) (Or.inl ⟨by rfl, ?_⟩) (by assumption) ?_
          rotate_left
          · intro w hSw; (try dsimp only at hSw); go_simp; try with_reducible rfl
          try simp only [Act.put, List.getElem_toArray, List.getElem_cons_zero, List.getElem_cons_succ, List.setIfInBounds_toArray, List.set_cons_zero, List.set_cons_succ]
          refine wpAnyK_take 2 (i := 5) (v := ?_) rfl (by kernel_rfl) (by kernel_rfl) (by kernel_rfl) (by kernel_rfl) (fun _ _ _ h => h) (Or.inl ⟨by rfl, ?_⟩) (by assumption) ?_
          rotate_left
          · intro w hSw; (try dsimp only at hSw); go_simp; try with_reducible rfl
          try simp only [Act.put, List.getElem_toArray, List.getElem_cons_zero, List.getElem_cons_succ, List.setIfInBounds_toArray, List.set_cons_zero, List.set_cons_succ]
          refine wpAnyK_take 2 (i := 6) (v := ?_) rfl (by kernel_rfl) (by kernel_rfl) (by kernel_rfl) (by kernel_rfl) (fun _ _ _ h => h) (Or.inl ⟨by rfl, ?_⟩) (by assumption) ?_
          rotate_left
          · intro w hSw; (try dsimp only at hSw); go_simp; try with_reducible rfl
          try simp only [Act.put, List.getElem_toArray, List.getElem_cons_zero, List.getElem_cons_succ, List.setIfInBounds_toArray, List.set_cons_zero, List.set_cons_succ]
          refine wpAnyK_take 2 (i := 7) (v := ?_) rfl (by kernel_rfl) (by kernel_rfl) (by kernel_rfl) (by kernel_rfl) (fun _ _ _ h => h) (Or.inl ⟨by rfl, ?_⟩) (by assumption) ?_
          rotate_left
          · intro w hSw; (try dsimp only at hSw); go_simp; try with_reducible rfl
          try simp only [Act.put, List.getElem_toArray, List.getElem_cons_zero, List.getElem_cons_succ, List.setIfInBounds_toArray, List.set_cons_zero, List.set_cons_succ]
          refine wpAnyK_take 2 (i := 8) (v := ?_) rfl (by kernel_rfl) (by kernel_rfl) (by kernel_rfl) (by kernel_rfl) (fun _ _ _ h => h) (Or.inl ⟨by rfl, ?_⟩) (by assumption) ?_
          rotate_left
          · intro w hSw; (try dsimp only at hSw); go_simp; try with_reducible rfl
          try simp only [Act.put, List.getElem_toArray, List.getElem_cons_zero, List.getElem_cons_succ, List.setIfInBounds_toArray, List.set_cons_zero, List.set_cons_succ]
          refine wpAnyK_one (i := 9) (by kernel_rfl) rfl (fun K hK => ?_)
          go_simp
          (refine (spec_FlipSymbol g A1 x j v C2 _ (by rw [HC5.out]; exact HQ.out.2.1) (by rw [HC5.out]; exact HOK.out.1) HXO.out hj11 (by omega) (HO5.out.is.below (B := v5.heap.size) (Below.drew (Below.refl _ _)) (by first | exact Nat.le_refl _ | omega)) HT5).mono ?_; rintro ex vz ⟨Q, rfl, oQ, cQ, hBzd⟩; have hBz : Below v5.heap.size v5 vz := below_drew hBzd; have sz := hBz.size; obtain ⟨hc0, hc1, hc2, hf0, hf1, hf2⟩ := cells3 (blk_below hBz kh5 lt5); have hb_lt : b5 < vz.heap.size := (by omega); refine hK.out _ _ (.inr (keep_gAxp HK5.out.1 kh5 HK5.out.2 q8 hpl8 hBz)) (fun hSy => ?_))
          clear hSx hK K
          have hSx := hSy.resolve_left (by decide); clear hSy
          try simp only [Act.put, List.getElem_toArray, List.getElem_cons_zero, List.getElem_cons_succ, List.setIfInBounds_toArray, List.set_cons_zero, List.set_cons_succ]
          refine wpAnyK_one (i := 10) (by kernel_rfl) rfl (fun K hK => ?_)
          go_simp
          skip
          refine hK.out _ _ (.inl rfl) (fun _ => ?_)
          clear hSx hK K
          try simp only [Act.put, List.getElem_toArray, List.getElem_cons_zero, List.getElem_cons_succ, List.setIfInBounds_toArray, List.set_cons_zero, List.set_cons_succ]
          refine wpAnyK_done (by kernel_rfl) ?_ _
          · go_wp2_with fail
            go_meet
            exact ⟨Q, rfl, set3 (blk_below hBz kh5 lt5), (((oQ.set_off (.inl lt5) _).set_off (.inl lt5) _).set_off (.inl lt5) _).wide (Nat.le_refl _) (by simp), cQ, (((hBz.mono (by omega)).setCell (p := ⟨b5, 0, none⟩) lb5 _).setCell (p := ⟨b5, 1, none⟩) lb5 _).setCell (p := ⟨b5, 2, none⟩) lb5 _⟩
        case rest =>
          obtain ⟨A2, rfl, kh6, oA, cA, hB⟩ := hcut
          obtain ⟨v6, rfl⟩ : ∃ V : World, V = wc := ⟨_, rfl⟩
          have s6 := hB.size
          have HK6 := hide (And.intro (blk_below hB HK5.out.1 (by omega)) (blk_below hB HK5.out.2 (by omega)))
          have HB6 := hide (bthen HB5.out hB (by omega))
          have HP6 := hide (show (∀ o, v6.cell? ⟨pg, o, none⟩ = v2.cell? ⟨pg, o, none⟩) from fun o => ((bcell hB).1 pg o hpl3).trans (HP5.out o))
          have HT6 : A2.tot ≤ 1048576 := by rw [tot_con oA.is, cA]; exact tot_ok HOK.out.2.1
          have HO6 := hide oA; have HC6 := hide cA
          have lt6 := lt_blk kh6
          clear hB oA cA q8 kh5 HK5 HB5 HP5
          clear hv wv
          have q9 := (HP6.out 4).trans HPC.out.2.2.2.2.1
          have hy := HY.out; have wy := HW.out.2.1; have wj := HW.out.2.2.1; have mj := HW.out.2.2.2
          have hpl9 : pg < v6.heap.size := by omega
          go_upto_region 9 with fail
          go_cut [10] (fun s0 wx => ∃ Q : Ar, s0 = .pointer (some ⟨b5, 0, none⟩) ∧ wx.heap[b5]? = some (.cells #[.slice Q.a Q.n Q.c, .slice Q.ag.1.a Q.ag.1.n Q.ag.1.c, .slice Q.ht.1.a Q.ht.1.n Q.ht.1.c] 34 (0, 0)) ∧ OwnAr v6.heap.size wx.heap.size wx Q ∧ Q.con = C3 ∧ Below v3.heap.size v6 wx)
          case first =>
            refine wp_region_last (fun u => u.cell? ⟨v1.heap.size, 0, none⟩ = some (.int .i64 g.gr) ∧ u.cell? ⟨v1.heap.size, 1, none⟩ = some (.int .i64 g.bk) ∧ u.cell? ⟨v1.heap.size, 2, none⟩ = some (.int .i64 g.rw) ∧ u.cell? ⟨v1.heap.size, 3, none⟩ = some (.int .i64 g.cl) ∧ u.cell? ⟨b5, 0, none⟩ = some (.slice A2.a A2.n A2.c) ∧ u.cell? ⟨b5, 1, none⟩ = some (.slice A2.ag.1.a A2.ag.1.n A2.ag.1.c) ∧ u.cell? ⟨b5, 2, none⟩ = some (.slice A2.ht.1.a A2.ht.1.n A2.ht.1.c) ∧ u.cell? ⟨xb, 0, none⟩ = some (.int .i64 x.b) ∧ u.cell? ⟨xb, 1, none⟩ = some (.int .i64 x.r) ∧ u.cell? ⟨xb, 2, none⟩ = some (.int .i64 x.c) ∧ u.cell? ⟨pg, 4, none⟩ = some (.int .i64 P4) ∧ Below v6.heap.size v6 u) 12 (by kernel_rfl) (keep_gAxp HK6.out.1 kh6 HK6.out.2 q9 hpl9 (Below.refl _ _).drew) (fun hSx => ?_)
            refine wpAnyK_take 2 (i := 0) (v := ?_) rfl (by kernel_rfl) (by kernel_rfl) (by kernel_rfl) (by kernel_rfl) (fun _ _ _ h => h) (Or.inl ⟨by rfl, ?_⟩) (by assumption) ?_
            rotate_left
            · intro w hSw; (try dsimp only at hSw); go_simp; try with_reducible rfl
            try simp only [Act.put, List.getElem_toArray, List.getElem_cons_zero, List.getElem_cons_succ, List.setIfInBounds_toArray, List.set_cons_zero, List.set_cons_succ]
            refine wpAnyK_take 2 (i := 1) (v := ?_) rfl (by kernel_rfl) (by kernel_rfl) (by kernel_rfl) (by kernel_rfl) (fun _ _ _ h => h) (Or.inl ⟨by rfl, ?_⟩) (by assumption) ?_
            rotate_left
            · intro w hSw; (try dsimp only at hSw); go_simp; try with_reducible rfl
            try simp only [Act.put, List.getElem_toArray, List.getElem_cons_zero, List.getElem_cons_succ, List.setIfInBounds_toArray, List.set_cons_zero, List.set_cons_succ]
            refine wpAnyK_take 2 (i := 2) (v := ?_) rfl (by kernel_rfl) (by kernel_rfl) (by kernel_rfl) (by kernel_rfl) (fun _ _ _ h => h) (Or.inl ⟨by rfl, ?_⟩) (by assumption) ?_
            rotate_left
            · intro w hSw; (try dsimp only at hSw); go_simp; try with_reducible rfl
            try simp only [Act.put, List.getElem_toArray, List.getElem_cons_zero, List.getElem_cons_succ, List.setIfInBounds_toArray, List.set_cons_zero, List.set_cons_succ]
            refine wpAnyK_take 2 (i := 3) (v := ?_) rfl (by kernel_rfl) (by kernel_rfl) (by kernel_rfl) (by kernel_rfl) (fun _ _ _ h => h) (Or.inl ⟨by rfl, ?_⟩) (by assumption) ?_
            rotate_left
            · intro w hSw; (try dsimp only at hSw); go_simp; try with_reducible rfl
            try simp only [Act.put, List.getElem_toArray, List.getElem_cons_zero, List.getElem_cons_succ, List.setIfInBounds_toArray, List.set_cons_zero, List.set_cons_succ]
            refine wpAnyK_take 2 (i := 4) (v := ?_) rfl (by kernel_rfl) (by kernel_rfl) (by kernel_rfl) (by kernel_rfl) (fun _ _ _ h => h) (Or.inl ⟨by rfl, ?_⟩) (by assumption) ?_
            rotate_left
            · intro w hSw; (try dsimp only at hSw); go_simp; try with_reducible rfl
            try simp only [Act.put, List.getElem_toArray, List.getElem_cons_zero, List.getElem_cons_succ, List.setIfInBounds_toArray, List.set_cons_zero, List.set_cons_succ]
            refine wpAnyK_take 2 (i := 5) (v := ?_) rfl (by kernel_rfl) (by kernel_rfl) (by kernel_rfl) (by kernel_rfl) (fun _ _ _ h => h) (Or.inl ⟨by rfl, ?_⟩) (by assumption) ?_
            rotate_left
            · intro w hSw; (try dsimp only at hSw); go_simp; try with_reducible rfl
            try simp only [Act.put, List.getElem_toArray, List.getElem_cons_zero, List.getElem_cons_succ, List.setIfInBounds_toArray, List.set_cons_zero, List.set_cons_succ]
            refine wpAnyK_take 2 (i := 6) (v := ?_) rfl (by kernel_rfl) (by kernel_rfl) (by kernel_rfl) (by kernel_rfl) (fun _ _ _ h => h) (Or.inl ⟨by rfl, ?_⟩) (by assumption) ?_
            rotate_left
            · intro w hSw; (try dsimp only at hSw); go_simp; try with_reducible rfl
            try simp only [Act.put, List.getElem_toArray, List.getElem_cons_zero, List.getElem_cons_succ, List.setIfInBounds_toArray, List.set_cons_zero, List.set_cons_succ]
            refine wpAnyK_take 2 (i := 7) (v := ?_) rfl (by kernel_rfl) (by kernel_rfl) (by kernel_rfl) (by kernel_rfl) (fun _ _ _ h => h) (Or.inl ⟨by rfl, ?_⟩) (by assumption) ?_
            rotate_left
            · intro w hSw; (try dsimp only at hSw); go_simp; try with_reducible rfl
            try simp only [Act.put, List.getElem_toArray, List.getElem_cons_zero, List.getElem_cons_succ, List.setIfInBounds_toArray, List.set_cons_zero, List.set_cons_succ]
            refine wpAnyK_take 2 (i := 8) (v := ?_) rfl (by kernel_rfl) (by kernel_rfl) (by kernel_rfl) (by kernel_rfl) (fun _ _ _ h => h) (Or.inl ⟨by rfl, ?_⟩) (by assumption) ?_
            rotate_left
            · intro w hSw; (try dsimp only at hSw); go_simp; try with_reducible rfl
            try simp only [Act.put, List.getElem_toArray, List.getElem_cons_zero, List.getElem_cons_succ, List.setIfInBounds_toArray, List.set_cons_zero, List.set_cons_succ]
            refine wpAnyK_take 2 (i := 9) (v := ?_) rfl (by kernel_rfl) (by kernel_rfl) (by kernel_rfl) (by kernel_rfl) (fun _ _ _ h => h) (Or.inl ⟨by rfl, ?_⟩) (by assumption) ?_
            rotate_left
            · intro w hSw; (try dsimp only at hSw); go_simp; try with_reducible rfl
            try simp only [Act.put, List.getElem_toArray, List.getElem_cons_zero, List.getElem_cons_succ, List.setIfInBounds_toArray, List.set_cons_zero, List.set_cons_succ]
            refine wpAnyK_take 2 (i := 10) (v := ?_) rfl (by kernel_rfl) (by kernel_rfl) (by kernel_rfl) (by kernel_rfl) (fun _ _ _ h => h) (Or.inl ⟨by rfl, ?_⟩) (by assumption) ?_
            rotate_left
            · intro w hSw; (try dsimp only at hSw); go_simp; try with_reducible rfl
            try simp only [Act.put, List.getElem_toArray, List.getElem_cons_zero, List.getElem_cons_succ, List.setIfInBounds_toArray, List.set_cons_zero, List.set_cons_succ]
            refine wpAnyK_one (i := 11) (by kernel_rfl) rfl (fun K hK => ?_)
            go_simp
            (refine (spec_FlipSymbol g A2 x jj y C3 _ (by rw [HC6.out]; exact HQ.out.2.2.1) (by rw [HC6.out]; exact HOK.out.2.1) HXO.out (by omega) (by omega) (HO6.out.is.below (B := v6.heap.size) (Below.drew (Below.refl _ _)) (by first | exact Nat.le_refl _ | omega)) HT6).mono ?_; rintro ex vz ⟨Q, rfl, oQ, cQ, hBzd⟩; have hBz : Below v6.heap.size v6 vz := below_drew hBzd; have sz := hBz.size; obtain ⟨hc0, hc1, hc2, hf0, hf1, hf2⟩ := cells3 (blk_below hBz kh6 lt6); have hb_lt : b5 < vz.heap.size := (by omega); refine hK.out _ _ (.inr (keep_gAxp HK6.out.1 kh6 HK6.out.2 q9 hpl9 hBz)) (fun hSy => ?_))
            clear hSx hK K
            have hSx := hSy.resolve_left (by decide); clear hSy
            try simp only [Act.put, List.getElem_toArray, List.getElem_cons_zero, List.getElem_cons_succ, List.setIfInBounds_toArray, List.set_cons_zero, List.set_cons_succ]
            refine wpAnyK_one (i := 12) (by kernel_rfl) rfl (fun K hK => ?_)
            go_simp
            skip
            refine hK.out _ _ (.inl rfl) (fun _ => ?_)
            clear hSx hK K
            try simp only [Act.put, List.getElem_toArray, List.getElem_cons_zero, List.getElem_cons_succ, List.setIfInBounds_toArray, List.set_cons_zero, List.set_cons_succ]
            refine wpAnyK_done (by kernel_rfl) ?_ _
            · go_wp2_with fail
              go_meet
              exact ⟨Q, rfl, set3 (blk_below hBz kh6 lt6), (((oQ.set_off (.inl lt6) _).set_off (.inl lt6) _).set_off (.inl lt6) _).wide (Nat.le_refl _) (by simp), cQ, (((hBz.mono (by omega)).setCell (p := ⟨b5, 0, none⟩) lb5 _).setCell (p := ⟨b5, 1, none⟩) lb5 _).setCell (p := ⟨b5, 2, none⟩) lb5 _⟩
          case rest =>
            obtain ⟨A3, rfl, kh7, oA, cA, hB⟩ := hcut
            obtain ⟨v7, rfl⟩ : ∃ V : World, V = wc := ⟨_, rfl⟩
            have s7 := hB.size
            have HK7 := hide (And.intro (blk_below hB HK6.out.1 (by omega)) (blk_below hB HK6.out.2 (by omega)))
            have HB7 := hide (bthen HB6.out hB (by omega))
            have HP7 := hide (show (∀ o, v7.cell? ⟨pg, o, none⟩ = v2.cell? ⟨pg, o, none⟩) from fun o => ((bcell hB).1 pg o hpl3).trans (HP6.out o))
            have HT7 : A3.tot ≤ 1048576 := by rw [tot_con oA.is, cA]; exact tot_ok HOK.out.2.2.1
            have HO7 := hide oA; have HC7 := hide cA
            have lt7 := lt_blk kh7
            clear hB oA cA q9 kh6 HK6 HB6 HP6
            clear hy wy wj mj
            have e_g0 := cell_blk HK7.out.1 0; have e_g1 := cell_blk HK7.out.1 1; have e_g2 := cell_blk HK7.out.1 2; have e_g3 := cell_blk HK7.out.1 3
            have e_A0 := cell_blk kh7 0; have e_A1 := cell_blk kh7 1; have e_A2 := cell_blk kh7 2
            have e_x0 := cell_blk HK7.out.2 0; have e_x1 := cell_blk HK7.out.2 1; have e_x2 := cell_blk HK7.out.2 2
            go_wp2_with fail
            refine (impl_GetWord g A3 x C4 0 2 _ (by rw [HC7.out]; exact HQ.out.2.2.2.1) HO7.out.is HT7).mono ?_
            rintro e v8 ⟨A4, rfl, oA, cA, hB⟩
            have s8 := hB.size
            clear e_g0 e_g1 e_g2 e_g3 e_A0 e_A1 e_A2 e_x0 e_x1 e_x2
            have hBW : Below v7.heap.size v7 (v8.alloc (.cells #[.slice A4.a A4.n A4.c, .slice A4.ag.1.a A4.ag.1.n A4.ag.1.c, .slice A4.ht.1.a A4.ht.1.n A4.ht.1.c] 34)) := Below.alloc hB s8 _
            have kh8 : (v8.alloc (.cells #[.slice A4.a A4.n A4.c, .slice A4.ag.1.a A4.ag.1.n A4.ag.1.c, .slice A4.ht.1.a A4.ht.1.n A4.ht.1.c] 34)).heap[v8.heap.size]? = some (.cells #[.slice A4.a A4.n A4.c, .slice A4.ag.1.a A4.ag.1.n A4.ag.1.c, .slice A4.ht.1.a A4.ht.1.n A4.ht.1.c] 34 (0, 0)) := alloc_at _ _ _ rfl
            have sW8 : v8.heap.size < (v8.alloc (.cells #[.slice A4.a A4.n A4.c, .slice A4.ag.1.a A4.ag.1.n A4.ag.1.c, .slice A4.ht.1.a A4.ht.1.n A4.ht.1.c] 34)).heap.size := by simp
            have HI8 := hide (oA.is.below (w' := v8.alloc (.cells #[.slice A4.a A4.n A4.c, .slice A4.ag.1.a A4.ag.1.n A4.ag.1.c, .slice A4.ht.1.a A4.ht.1.n A4.ht.1.c] 34)) (Below.alloc (Below.refl _ _) (Nat.le_refl _) _) (Nat.le_refl _))
            have HT8 : A4.tot ≤ 1048576 := by rw [tot_con oA.is, cA]; exact tot_ok HOK.out.2.2.2.1
            have HK8 := hide (And.intro (blk_below hBW HK7.out.1 (by omega)) (blk_below hBW HK7.out.2 (by omega)))
            have HB8 := hide (bthen HB7.out hBW (by omega))
            have HP8 := hide (show (∀ o, (v8.alloc (.cells #[.slice A4.a A4.n A4.c, .slice A4.ag.1.a A4.ag.1.n A4.ag.1.c, .slice A4.ht.1.a A4.ht.1.n A4.ht.1.c] 34)).cell? ⟨pg, o, none⟩ = v2.cell? ⟨pg, o, none⟩) from fun o => ((bcell hBW).1 pg o (by omega)).trans (HP7.out o))
            have HC8 := hide cA
            clear hB hBW oA cA kh7 HK7 HB7 HP7
            go_upto_region 11 with fail
            generalize (v8.alloc (.cells #[.slice A4.a A4.n A4.c, .slice A4.ag.1.a A4.ag.1.n A4.ag.1.c, .slice A4.ht.1.a A4.ht.1.n A4.ht.1.c] 34)) = W8 at *
            have e_g0 := cell_blk HK8.out.1 0; have e_g1 := cell_blk HK8.out.1 1; have e_g2 := cell_blk HK8.out.1 2; have e_g3 := cell_blk HK8.out.1 3
            have e_A0 := cell_blk kh8 0; have e_A1 := cell_blk kh8 1; have e_A2 := cell_blk kh8 2
            have e_x0 := cell_blk HK8.out.2 0; have e_x1 := cell_blk HK8.out.2 1; have e_x2 := cell_blk HK8.out.2 2
            go_wp2_with fail
            refine (impl_GetWord g A4 x C5 0 2 _ (by rw [HC8.out]; exact HQ.out.2.2.2.2.1) HI8.out HT8).mono ?_
            rintro e v9 ⟨A5, rfl, oA, cA, hB⟩
            have s9 := hB.size
            clear e_g0 e_g1 e_g2 e_g3 e_A0 e_A1 e_A2 e_x0 e_x1 e_x2
            have hBW : Below W8.heap.size W8 (v9.alloc (.cells #[.slice A5.a A5.n A5.c, .slice A5.ag.1.a A5.ag.1.n A5.ag.1.c, .slice A5.ht.1.a A5.ht.1.n A5.ht.1.c] 34)) := Below.alloc hB s9 _
            have kh9 : (v9.alloc (.cells #[.slice A5.a A5.n A5.c, .slice A5.ag.1.a A5.ag.1.n A5.ag.1.c, .slice A5.ht.1.a A5.ht.1.n A5.ht.1.c] 34)).heap[v9.heap.size]? = some (.cells #[.slice A5.a A5.n A5.c, .slice A5.ag.1.a A5.ag.1.n A5.ag.1.c, .slice A5.ht.1.a A5.ht.1.n A5.ht.1.c] 34 (0, 0)) := alloc_at _ _ _ rfl
            have sW9 : v9.heap.size < (v9.alloc (.cells #[.slice A5.a A5.n A5.c, .slice A5.ag.1.a A5.ag.1.n A5.ag.1.c, .slice A5.ht.1.a A5.ht.1.n A5.ht.1.c] 34)).heap.size := by simp
            have HI9 := hide (oA.is.below (w' := v9.alloc (.cells #[.slice A5.a A5.n A5.c, .slice A5.ag.1.a A5.ag.1.n A5.ag.1.c, .slice A5.ht.1.a A5.ht.1.n A5.ht.1.c] 34)) (Below.alloc (Below.refl _ _) (Nat.le_refl _) _) (Nat.le_refl _))
            have HT9 : A5.tot ≤ 1048576 := by rw [tot_con oA.is, cA]; exact tot_ok HOK.out.2.2.2.2.1
            have HK9 := hide (And.intro (blk_below hBW HK8.out.1 (by omega)) (blk_below hBW HK8.out.2 (by omega)))
            have HB9 := hide (bthen HB8.out hBW (by omega))
            have HP9 := hide (show (∀ o, (v9.alloc (.cells #[.slice A5.a A5.n A5.c, .slice A5.ag.1.a A5.ag.1.n A5.ag.1.c, .slice A5.ht.1.a A5.ht.1.n A5.ht.1.c] 34)).cell? ⟨pg, o, none⟩ = v2.cell? ⟨pg, o, none⟩) from fun o => ((bcell hBW).1 pg o (by omega)).trans (HP8.out o))
            have HC9 := hide cA
            have kh8b := blk_below hBW kh8 (by omega); have HI8b := hide (HI8.out.below hBW (Nat.le_refl _))
            clear hB hBW oA cA kh8 HK8 HB8 HP8
            go_upto_region 12 with fail
            generalize (v9.alloc (.cells #[.slice A5.a A5.n A5.c, .slice A5.ag.1.a A5.ag.1.n A5.ag.1.c, .slice A5.ht.1.a A5.ht.1.n A5.ht.1.c] 34)) = W9 at *
            have q12 := (HP9.out 5).trans HPC.out.2.2.2.2.2
            have hpl12 : pg < W9.heap.size := by omega
            go_cut [17, 18, 19] (fun s0 s1 s2 wx => ∃ (b lo hi : Nat) (Q : Ar), s0 = .pointer (some ⟨b, 0, none⟩) ∧ s1 = .int .i64 un ∧ s2 = .int .i64 0 ∧ Kept W9 wx Q b lo hi C7)
            case first =>
              go_region_held3 (fun u => u.cell? ⟨v1.heap.size, 0, none⟩ = some (.int .i64 g.gr) ∧ u.cell? ⟨v1.heap.size, 1, none⟩ = some (.int .i64 g.bk) ∧ u.cell? ⟨v1.heap.size, 2, none⟩ = some (.int .i64 g.rw) ∧ u.cell? ⟨v1.heap.size, 3, none⟩ = some (.int .i64 g.cl) ∧ u.cell? ⟨v9.heap.size, 0, none⟩ = some (.slice A5.a A5.n A5.c) ∧ u.cell? ⟨v9.heap.size, 1, none⟩ = some (.slice A5.ag.1.a A5.ag.1.n A5.ag.1.c) ∧ u.cell? ⟨v9.heap.size, 2, none⟩ = some (.slice A5.ht.1.a A5.ht.1.n A5.ht.1.c) ∧ u.cell? ⟨xb, 0, none⟩ = some (.int .i64 x.b) ∧ u.cell? ⟨xb, 1, none⟩ = some (.int .i64 x.r) ∧ u.cell? ⟨xb, 2, none⟩ = some (.int .i64 x.c) ∧ u.cell? ⟨pg, 5, none⟩ = some (.int .i64 un) ∧ Below W9.heap.size W9 u) (first | (refine keep_gAxp HK9.out.1 kh9 HK9.out.2 q12 hpl12 ?_; (try go_split_ands); (repeat' (first | (with_reducible assumption) | (with_reducible refine Below.alloc ?_ ?_ _) | (with_reducible refine Below.drew ?_) | (with_reducible refine Below.setCell ?_ ?_ _) | (with_reducible exact Below.refl _ _) | (with_reducible exact Nat.le_refl _) | omega | (simp only [World.size_alloc, World.size_setCell, World.size_drew] <;> omega))); done)) (first | (go_at_call 22; refine (impl_PutWord g A5 x un C6 _ (by rw [HC9.out]; exact HQ.out.2.2.2.2.2.1) (HI9.out.below (B := W9.heap.size) (by (try go_split_ands); (repeat' (first | (with_reducible assumption) | (with_reducible refine Below.alloc ?_ ?_ _) | (with_reducible refine Below.drew ?_) | (with_reducible refine Below.setCell ?_ ?_ _) | (with_reducible exact Below.refl _ _) | (with_reducible exact Nat.le_refl _) | omega | (simp only [World.size_alloc, World.size_setCell, World.size_drew] <;> omega))); done) (Nat.le_refl _)) HT9).mono ?_; rintro ex y1 ⟨Z, rfl, oZ, hcZ, hy_y1⟩; have hW_y1 : Below W9.heap.size W9 y1 := bthenS (by (try go_split_ands); (repeat' (first | (with_reducible assumption) | (with_reducible refine Below.alloc ?_ ?_ _) | (with_reducible refine Below.drew ?_) | (with_reducible refine Below.setCell ?_ ?_ _) | (with_reducible exact Below.refl _ _) | (with_reducible exact Nat.le_refl _) | omega | (simp only [World.size_alloc, World.size_setCell, World.size_drew] <;> omega))); done) hy_y1; have l_y1 := hW_y1.size; have HZ := hide oZ.is; have HCZ := hide hcZ; have HTZ := hide (show Z.tot ≤ 1048576 by rw [tot_con oZ.is, hcZ]; exact tot_ok HOK.out.2.2.2.2.2.1); clear oZ hcZ; (first | (have hb_p_y1 := lt_blk hb_al; replace hb_al := blk_below hy_y1 hb_al (lt_blk hb_al)) | (have hb_al := blk_below hy_y1 (alloc_at _ (.cells #[.slice none 0 0, .slice none 0 0, .slice none 0 0] 34) _ rfl) (by simp)) | skip); (try simp only [World.size_drew] at hb_al); (try simp only [World.size_drew] at hb_p_y1)) | (go_at_call 25; refine (impl_GetWord g Z x C7 un 0 _ (by rw [HCZ.out]; exact HQ.out.2.2.2.2.2.2.1) (HZ.out.below (B := y1.heap.size) (by (try go_split_ands); (repeat' (first | (with_reducible assumption) | (with_reducible refine Below.alloc ?_ ?_ _) | (with_reducible refine Below.drew ?_) | (with_reducible refine Below.setCell ?_ ?_ _) | (with_reducible exact Below.refl _ _) | (with_reducible exact Nat.le_refl _) | omega | (simp only [World.size_alloc, World.size_setCell, World.size_drew] <;> omega))); done) (Nat.le_refl _)) HTZ.out).mono ?_; rintro ex y2 ⟨Q, rfl, oQ, hcQ, hy_y2⟩; have hW_y2 : Below W9.heap.size W9 y2 := bthenS (by (try go_split_ands); (repeat' (first | (with_reducible assumption) | (with_reducible refine Below.alloc ?_ ?_ _) | (with_reducible refine Below.drew ?_) | (with_reducible refine Below.setCell ?_ ?_ _) | (with_reducible exact Below.refl _ _) | (with_reducible exact Nat.le_refl _) | omega | (simp only [World.size_alloc, World.size_setCell, World.size_drew] <;> omega))); done) hy_y2; have l_y2 := hW_y2.size; have HO := hide oQ; have HCQ := hide hcQ; clear oQ hcQ; (first | (have hb_p_y2 := lt_blk hb_al; replace hb_al := blk_below hy_y2 hb_al (lt_blk hb_al)) | (have hb_al := blk_below hy_y2 (alloc_at _ (.cells #[.slice none 0 0, .slice none 0 0, .slice none 0 0] 34) _ rfl) (by simp)) | skip); (try simp only [World.size_drew] at hb_al); (try simp only [World.size_drew] at hb_p_y2); (try (obtain ⟨hc0, hc1, hc2, hf0, hf1, hf2⟩ := cells3 hb_al; have hb_lt := lt_blk hb_al))))
              all_goals
                go_wp2_with fail
                go_meet
                first | (refine ⟨_, _, _, Q, rfl, rfl, rfl, Kept.late hW_y2 ?_ HO.out HCQ.out rfl⟩ <;> (first | omega | (simp only [World.size_alloc, World.size_drew] <;> omega))) | (refine ⟨_, _, _, Q, rfl, rfl, rfl, Kept.early hW_y2 ?_ HO.out HCQ.out hb_al ?_ ?_⟩ <;> (first | omega | (simp only [World.size_alloc, World.size_drew] <;> omega)))
            case rest =>
              obtain ⟨b17, lo17, hi17, A6, rfl, rfl, rfl, hkt⟩ := hcut
              obtain ⟨w12, rfl⟩ : ∃ V : World, V = wc := ⟨_, rfl⟩
              have hB := hkt.below
              have s12 := hB.size
              have kh12 := hkt.blk
              have HI12 := hide hkt.own.is; have HC12 := hide hkt.con
              have HT12 : A6.tot ≤ 1048576 := by rw [tot_con hkt.own.is, hkt.con]; exact tot_ok HOK.out.2.2.2.2.2.2
              have HK12 := hide (And.intro (blk_below hB HK9.out.1 (by omega)) (blk_below hB HK9.out.2 (by omega)))
              have HB12 := hide (bthen HB9.out hB (by omega))
              have HP12 := hide (show (∀ o, w12.cell? ⟨pg, o, none⟩ = v2.cell? ⟨pg, o, none⟩) from fun o => ((bcell hB).1 pg o hpl12).trans (HP9.out o))
              have kh8c := blk_below hB kh8b (lt_blk kh8b)
              have HI8c := hide (HI8b.out.below hB (Nat.le_refl _))
              have q13 := (HP12.out 5).trans HPC.out.2.2.2.2.2
              have hpl13 : pg < w12.heap.size := by omega
              clear hB hkt HK9 HB9 HP9 q12 kh9 HI9 kh8b HI8b
              go_upto_region 13 with fail
              go_cut [21] (fun s0 wx => s0 = .int .i64 2 ∧ Below w12.heap.size w12 wx)
              case first =>
                go_region_held3 (fun u => u.cell? ⟨v1.heap.size, 0, none⟩ = some (.int .i64 g.gr) ∧ u.cell? ⟨v1.heap.size, 1, none⟩ = some (.int .i64 g.bk) ∧ u.cell? ⟨v1.heap.size, 2, none⟩ = some (.int .i64 g.rw) ∧ u.cell? ⟨v1.heap.size, 3, none⟩ = some (.int .i64 g.cl) ∧ u.cell? ⟨v8.heap.size, 0, none⟩ = some (.slice A4.a A4.n A4.c) ∧ u.cell? ⟨v8.heap.size, 1, none⟩ = some (.slice A4.ag.1.a A4.ag.1.n A4.ag.1.c) ∧ u.cell? ⟨v8.heap.size, 2, none⟩ = some (.slice A4.ht.1.a A4.ht.1.n A4.ht.1.c) ∧ u.cell? ⟨xb, 0, none⟩ = some (.int .i64 x.b) ∧ u.cell? ⟨xb, 1, none⟩ = some (.int .i64 x.r) ∧ u.cell? ⟨xb, 2, none⟩ = some (.int .i64 x.c) ∧ u.cell? ⟨pg, 5, none⟩ = some (.int .i64 un) ∧ Below w12.heap.size w12 u) (first | (refine keep_gAxp HK12.out.1 kh8c HK12.out.2 q13 hpl13 ?_; (try go_split_ands); (repeat' (first | (with_reducible assumption) | (with_reducible refine Below.alloc ?_ ?_ _) | (with_reducible refine Below.drew ?_) | (with_reducible refine Below.setCell ?_ ?_ _) | (with_reducible exact Below.refl _ _) | (with_reducible exact Nat.le_refl _) | omega | (simp only [World.size_alloc, World.size_setCell, World.size_drew] <;> omega))); done)) (first | (go_at_call 38; refine (spec_AddrIndex g x (adIdx g x) _ HXO.out rfl).mono ?_; rintro ex y1 ⟨rfl, hy_y1⟩; have hW_y1 : Below w12.heap.size w12 y1 := bthenS (by (try go_split_ands); (repeat' (first | (with_reducible assumption) | (with_reducible refine Below.alloc ?_ ?_ _) | (with_reducible refine Below.drew ?_) | (with_reducible refine Below.setCell ?_ ?_ _) | (with_reducible exact Below.refl _ _) | (with_reducible exact Nat.le_refl _) | omega | (simp only [World.size_alloc, World.size_setCell, World.size_drew] <;> omega))); done) hy_y1; have l_y1 := hW_y1.size; (first | (have hb_p_y1 := lt_blk hb_al; replace hb_al := blk_below hy_y1 hb_al (lt_blk hb_al)) | (have hb_al := blk_below hy_y1 (alloc_at _ (.cells #[.slice none 0 0, .slice none 0 0, .slice none 0 0] 34) _ rfl) (by simp)) | skip); (try simp only [World.size_drew] at hb_al); (try simp only [World.size_drew] at hb_p_y1)) | (go_at_call 27; refine (impl_ScrubLine g A4 (adIdx g x) C8 2 _ (by rw [HC8.out]; exact HQ.out.2.2.2.2.2.2.2) (HI8c.out.below (B := w12.heap.size) (by (try go_split_ands); (repeat' (first | (with_reducible assumption) | (with_reducible refine Below.alloc ?_ ?_ _) | (with_reducible refine Below.drew ?_) | (with_reducible refine Below.setCell ?_ ?_ _) | (with_reducible exact Below.refl _ _) | (with_reducible exact Nat.le_refl _) | omega | (simp only [World.size_alloc, World.size_setCell, World.size_drew] <;> omega))); done) (Nat.le_refl _)) HT8).mono ?_; rintro ex y2 ⟨Q, rfl, oQ, hcQ, hy_y2⟩; have hW_y2 : Below w12.heap.size w12 y2 := bthenS (by (try go_split_ands); (repeat' (first | (with_reducible assumption) | (with_reducible refine Below.alloc ?_ ?_ _) | (with_reducible refine Below.drew ?_) | (with_reducible refine Below.setCell ?_ ?_ _) | (with_reducible exact Below.refl _ _) | (with_reducible exact Nat.le_refl _) | omega | (simp only [World.size_alloc, World.size_setCell, World.size_drew] <;> omega))); done) hy_y2; have l_y2 := hW_y2.size; clear oQ hcQ; (first | (have hb_p_y2 := lt_blk hb_al; replace hb_al := blk_below hy_y2 hb_al (lt_blk hb_al)) | (have hb_al := blk_below hy_y2 (alloc_at _ (.cells #[.slice none 0 0, .slice none 0 0, .slice none 0 0] 34) _ rfl) (by simp)) | skip); (try simp only [World.size_drew] at hb_al); (try simp only [World.size_drew] at hb_p_y2); (try (obtain ⟨hc0, hc1, hc2, hf0, hf1, hf2⟩ := cells3 hb_al; have hb_lt := lt_blk hb_al))))
                all_goals
                  go_wp2_with fail
                  go_meet
                  first
                    | exact ⟨rfl, Below.alloc hW_y2 hW_y2.size _⟩
                    | (refine ⟨rfl, Below.setCell (Below.setCell (Below.setCell hW_y2 ?_ _) ?_ _) ?_ _⟩ <;> (simp only [World.size_alloc, World.size_drew] <;> omega))
              case rest =>
                obtain ⟨rfl, hB⟩ := hcut
                obtain ⟨w13, rfl⟩ : ∃ V : World, V = wc := ⟨_, rfl⟩
                have s13 := hB.size
                have HK13 := hide (And.intro (blk_below hB HK12.out.1 (by omega)) (blk_below hB HK12.out.2 (by omega)))
                have kh13 := blk_below hB kh12 (lt_blk kh12)
                have HI13 := hide (HI12.out.below hB (Nat.le_refl _))
                have e_p5 := ((bcell hB).1 pg 5 hpl13).trans q13
                have HB13 := hide (bthen HB12.out hB (by omega))
                have hokt : arOk g A6.con = true := by rw [HC12.out]; exact HOK.out.2.2.2.2.2.2
                have HOKT := hide hokt
                clear hB hokt q13 HK12 HB12 HP12 kh12 kh8c
                have e_g0 := cell_blk HK13.out.1 0; have e_g1 := cell_blk HK13.out.1 1; have e_g2 := cell_blk HK13.out.1 2; have e_g3 := cell_blk HK13.out.1 3
                have e_A0 := cell_blk kh13 0; have e_A1 := cell_blk kh13 1; have e_A2 := cell_blk kh13 2
                have e_x0 := cell_blk HK13.out.2 0; have e_x1 := cell_blk HK13.out.2 1; have e_x2 := cell_blk HK13.out.2 2
                go_wp2_with (go_at_call 37; refine (impl_ArrayOk g A6 true _ HOKT.out HI13.out HT12).mono ?_; rintro e w14 ⟨rfl, hB14⟩)
                go_ret
                exact ⟨rfl, bthen HB13.out hB14 HB13.out.size⟩
  · go_enter Try.func9, Try.ntmps9
    go_wp2_with fail
    refine (laws_big_yes a n c _ hm hc hs).mono ?_
    rintro e w' ⟨rfl, rfl⟩
    go_wp2_with fail
    go_ret
    exact ⟨rfl, by go_grown⟩
set_option maxRecDepth 100000 in
theorem FnPoison_lifted (os : Os) (started : os.Started) (H : Type) (enc : TypeId × Value → H) :
    ReturnsInHanded {} Try.checked os 9 .any (Rows.fnPoisonSpec.pre6 enc Try.prog Try.f9 Rows.fnPoisonRow.domain false) (Rows.fnPoisonSpec.post enc Try.prog Try.f9 false true false false) := by
  refine returnsInHanded_of_change (C := Try.checked) try_own started (by kernel_rfl) Try.func9
    (ChangeSpec.witness6 (enc := enc) (C := Try.checked) false ⟨#[], #[.slice none 0 0], []⟩ 8 (by kernel_rfl) (by kernel_rfl) (by kernel_rfl) (by kernel_rfl)) ?_
  intro W base args ds gs before hval0 hW _ _
  have hval : ∀ (j : Nat) t v, Try.f9.params[j]? = some t → args[j]? = some v → Value.okWide Try.prog W .any base t v := hval0
  have hW' := hW
  obtain ⟨p, q, hA0, hV, rfl, hfz, hnd⟩ := hW
  have hA : DataW.TrodAll enc Try.prog W 0 (fun _ => true) true Try.f9.params.toList args.toList ds p := hA0
  rw [Try.params9] at hA hval
  obtain ⟨v0, vs0, d0, ds0, p0, q0, hargs, rfl, rfl, h0, r0⟩ := trodAll_cons hA
  obtain ⟨rfl, rfl, rfl⟩ := trodAll_nil r0
  obtain rfl : args = #[v0] := by cases args; simp_all
  obtain ⟨rfl, rfl⟩ := trodVars_none hV
  have k0 := h0
  have lt0 : ∀ x ∈ p0, x.block < W.heap.size := by obtain ⟨m, hm⟩ := k0; exact DataW.trod_lt m _ _ _ hm
  obtain ⟨b_x0, m_x0, l_x0, rfl⟩ := okWide_slice Try.underlying54 (hval 0 54 v0 rfl rfl)
  obtain ⟨fu0, h0⟩ := h0
  obtain ⟨a_x0, n_x0, c_x0, x0, e_x0, w_x0⟩ := isBytes_of Try.underlying54 Try.underlying5 (by kernel_rfl) h0
  simp only [Value.cells, List.cons.injEq, and_true] at e_x0
  obtain ⟨q1, q2, q3⟩ : b_x0 = a_x0 ∧ m_x0 = n_x0 ∧ l_x0 = c_x0 := by simpa using e_x0
  replace q1 := q1.symm; replace q2 := q2.symm; replace q3 := q3.symm; subst q1 q2 q3
  clear hA0 hval0
  refine (FnPoison_walk a_x0 n_x0 c_x0 x0 W w_x0).mono fun e W' ⟨he, bel⟩ => ?_
  subst he
  exact ⟨_, rfl, _, _, _, [], _, [], hW', trodAll_mk1 (shut_bool Try.underlying4 _), (trodAll_cons_mk (Below.trod try_laidOut (by kernel_rfl) (of_decide_eq_true (by kernel_rfl)) k0 bel lt0) trodAll_mk0), rfl, bel.frame _, fun h => by cases h⟩

theorem FnPoison_holds : Rows.FnPoisonSaid :=
  OpenClaim.holds_of_wide 9 Try.f9 rfl rfl rfl rfl rfl rfl rfl ⟨rfl, rfl, rfl, rfl, rfl⟩ rfl rfl rfl rfl rfl (by kernel_rfl) Try.func9 (by kernel_rfl)
    (of_decide_eq_true (by kernel_rfl)) (by unfold Func.isWrapper; rw [if_neg (of_decide_eq_false (by kernel_rfl))]; exact ⟨rfl, rfl⟩)
    (fun os started H enc _ => FnPoison_lifted os started H enc)
#print axioms FnPoison_holds
end Go.Proofs.Ytkhcepmileiejaa
