/- A written word is read again, also after one chip failed: for every drawn input FnWords answers true. No condition. -/
import Derived.Test.YtkhcepmileiejaaWordP
import Derived.Test.YtkhcepmileiejaaWord1
import Derived.Test.YtkhcepmileiejaaPlaces3
import Derived.Deep.DeepCutAuto
import Derived.Test.YtkhcepmileiejaaHeldLast
set_option linter.unusedSimpArgs false
set_option linter.unusedVariables false
namespace Go.Proofs.Ytkhcepmileiejaa
open Go.RowKit Go.ChangeShapes Go.WideShapes Go.ChangeAt Go.Joins Go.Deep
open Go.ChangeMaps (open_string shut_string)
theorem spec_AddrAt_is (g : Ge) (n : Int) (x : Ad) (w : World) (hv : btw n 0 (lineCnt g - 1) = true) (he : adOf g n = x) :
    Calls Try.prog 33 #[.agg #[.int .i64 g.gr, .int .i64 g.bk, .int .i64 g.rw, .int .i64 g.cl], .int .i64 n] w fun e w' => e = .returned (.tuple #[.agg #[.int .i64 x.b, .int .i64 x.r, .int .i64 x.c], .bool true]) ∧ Below w.heap.size w w' := by
  subst he; exact spec_AddrAt g n _ _ _ w hv rfl
/-- What the region that draws a place holds on to. -/
theorem keep_gp {W v : World} {g : Ge} {b0 q : Nat} {P0 : Int} (k0 : W.heap[b0]? = some (.cells #[.int .i64 g.gr, .int .i64 g.bk, .int .i64 g.rw, .int .i64 g.cl] 30 (0, 0))) (hq : W.cell? ⟨q, 0, none⟩ = some (.int .i64 P0)) (hql : q < W.heap.size) (hb : Below W.heap.size W v) : v.cell? ⟨b0, 0, none⟩ = some (.int .i64 g.gr) ∧ v.cell? ⟨b0, 1, none⟩ = some (.int .i64 g.bk) ∧ v.cell? ⟨b0, 2, none⟩ = some (.int .i64 g.rw) ∧ v.cell? ⟨b0, 3, none⟩ = some (.int .i64 g.cl) ∧ v.cell? ⟨q, 0, none⟩ = some (.int .i64 P0) ∧ Below W.heap.size W v :=
  ⟨cell_blk (blk_below hb k0 (lt_blk k0)) 0, cell_blk (blk_below hb k0 (lt_blk k0)) 1, cell_blk (blk_below hb k0 (lt_blk k0)) 2, cell_blk (blk_below hb k0 (lt_blk k0)) 3, ((bcell hb).1 q 0 hql).trans hq, hb⟩
/-- What a region that flips a symbol holds on to. -/
theorem keep_flip {W v : World} {g : Ge} {b0 b1 b2 q o o2 : Nat} {u u2 : Int} {A : Ar} {x : Ad} (k0 : W.heap[b0]? = some (.cells #[.int .i64 g.gr, .int .i64 g.bk, .int .i64 g.rw, .int .i64 g.cl] 30 (0, 0))) (k1 : W.heap[b1]? = some (.cells #[.slice A.a A.n A.c, .slice A.ag.1.a A.ag.1.n A.ag.1.c, .slice A.ht.1.a A.ht.1.n A.ht.1.c] 34 (0, 0))) (k2 : W.heap[b2]? = some (.cells #[.int .i64 x.b, .int .i64 x.r, .int .i64 x.c] 44 (0, 0))) (hq : W.cell? ⟨q, o, none⟩ = some (.int .i64 u)) (hq2 : W.cell? ⟨q, o2, none⟩ = some (.int .i64 u2)) (hql : q < W.heap.size) (hb : Below W.heap.size W v) : v.cell? ⟨b0, 0, none⟩ = some (.int .i64 g.gr) ∧ v.cell? ⟨b0, 1, none⟩ = some (.int .i64 g.bk) ∧ v.cell? ⟨b0, 2, none⟩ = some (.int .i64 g.rw) ∧ v.cell? ⟨b0, 3, none⟩ = some (.int .i64 g.cl) ∧ v.cell? ⟨b1, 0, none⟩ = some (.slice A.a A.n A.c) ∧ v.cell? ⟨b1, 1, none⟩ = some (.slice A.ag.1.a A.ag.1.n A.ag.1.c) ∧ v.cell? ⟨b1, 2, none⟩ = some (.slice A.ht.1.a A.ht.1.n A.ht.1.c) ∧ v.cell? ⟨b2, 0, none⟩ = some (.int .i64 x.b) ∧ v.cell? ⟨b2, 1, none⟩ = some (.int .i64 x.r) ∧ v.cell? ⟨b2, 2, none⟩ = some (.int .i64 x.c) ∧ v.cell? ⟨q, o, none⟩ = some (.int .i64 u) ∧ v.cell? ⟨q, o2, none⟩ = some (.int .i64 u2) :=
  ⟨cell_blk (blk_below hb k0 (lt_blk k0)) 0, cell_blk (blk_below hb k0 (lt_blk k0)) 1, cell_blk (blk_below hb k0 (lt_blk k0)) 2, cell_blk (blk_below hb k0 (lt_blk k0)) 3, cell_blk (blk_below hb k1 (lt_blk k1)) 0, cell_blk (blk_below hb k1 (lt_blk k1)) 1, cell_blk (blk_below hb k1 (lt_blk k1)) 2, cell_blk (blk_below hb k2 (lt_blk k2)) 0, cell_blk (blk_below hb k2 (lt_blk k2)) 1, cell_blk (blk_below hb k2 (lt_blk k2)) 2, ((bcell hb).1 q o hql).trans hq, ((bcell hb).1 q o2 hql).trans hq2⟩
set_option maxRecDepth 100000 in
set_option maxHeartbeats 8000000 in
theorem FnWords_walk (a : Option Addr) (n c : Nat) (zs : List Int) (w : World) (ha : IsInts .u8 w a n c zs) :
    Calls Try.prog 8 #[.slice a n c] w fun e w' => e = .returned (.bool true) ∧ Below w.heap.size w w' := by
  have hm : c ≤ 9223372036854775807 := ha.2.2.1
  have hc := ha.2.1
  by_cases hs : n ≤ 1048576
  · have HA := hide ha
    clear ha
    go_enter Try.func8, Try.ntmps8
    go_wp2_with fail
    refine (laws_big a n c _ hs).mono ?_
    rintro e w' ⟨rfl, rfl⟩
    go_wp2_with fail
    refine (spec_DrawArray a n c _ _ HA.out hs).mono ?_
    rintro e v1 ⟨g, l1, l2, A, hgo, rfl, oA, okA, hB1⟩
    have s1 := hB1.size
    have k1 : (((v1.alloc (.cells #[.int .i64 g.gr, .int .i64 g.bk, .int .i64 g.rw, .int .i64 g.cl] 30)).alloc (.cells #[.int .i64 l1, .int .i64 l2] 57)).alloc (.cells #[.slice A.a A.n A.c, .slice A.ag.1.a A.ag.1.n A.ag.1.c, .slice A.ht.1.a A.ht.1.n A.ht.1.c] 34)).heap[v1.heap.size]? = some (.cells #[.int .i64 g.gr, .int .i64 g.bk, .int .i64 g.rw, .int .i64 g.cl] 30 (0, 0)) := by rw [alloc_lt _ _ _ (by simp; try omega), alloc_lt _ _ _ (by simp; try omega)]; exact alloc_at _ _ _ (by simp)
    have k2 : (((v1.alloc (.cells #[.int .i64 g.gr, .int .i64 g.bk, .int .i64 g.rw, .int .i64 g.cl] 30)).alloc (.cells #[.int .i64 l1, .int .i64 l2] 57)).alloc (.cells #[.slice A.a A.n A.c, .slice A.ag.1.a A.ag.1.n A.ag.1.c, .slice A.ht.1.a A.ht.1.n A.ht.1.c] 34)).heap[v1.heap.size + 1 + 1]? = some (.cells #[.slice A.a A.n A.c, .slice A.ag.1.a A.ag.1.n A.ag.1.c, .slice A.ht.1.a A.ht.1.n A.ht.1.c] 34 (0, 0)) := alloc_at _ _ _ (by simp)
    have hBW : Below v1.heap.size v1 (((v1.alloc (.cells #[.int .i64 g.gr, .int .i64 g.bk, .int .i64 g.rw, .int .i64 g.cl] 30)).alloc (.cells #[.int .i64 l1, .int .i64 l2] 57)).alloc (.cells #[.slice A.a A.n A.c, .slice A.ag.1.a A.ag.1.n A.ag.1.c, .slice A.ht.1.a A.ht.1.n A.ht.1.c] 34)) := by go_grown
    have sW : v1.heap.size + 3 ≤ (((v1.alloc (.cells #[.int .i64 g.gr, .int .i64 g.bk, .int .i64 g.rw, .int .i64 g.cl] 30)).alloc (.cells #[.int .i64 l1, .int .i64 l2] 57)).alloc (.cells #[.slice A.a A.n A.c, .slice A.ag.1.a A.ag.1.n A.ag.1.c, .slice A.ht.1.a A.ht.1.n A.ht.1.c] 34)).heap.size := by simp
    have HIS := hide (oA.is.below hBW (Nat.le_refl _))
    have HT : A.tot ≤ 1048576 := by rw [tot_con oA.is]; exact tot_ok okA
    have HBW := hide (bthen hB1 hBW s1)
    clear hB1 hBW oA
    go_wp2_with fail
    generalize (((v1.alloc (.cells #[.int .i64 g.gr, .int .i64 g.bk, .int .i64 g.rw, .int .i64 g.cl] 30)).alloc (.cells #[.int .i64 l1, .int .i64 l2] 57)).alloc (.cells #[.slice A.a A.n A.c, .slice A.ag.1.a A.ag.1.n A.ag.1.c, .slice A.ht.1.a A.ht.1.n A.ht.1.c] 34)) = W1 at *
    refine (spec_DrawPlaces a n c zs _ (HA.out.below HBW.out (Nat.le_refl _)) hs).mono ?_
    rintro e v2 ⟨a1, c1, ps, rfl, hown, hpl, hpb, hB2⟩
    have s2 := hB2.size
    obtain ⟨pg, rfl, hpg0, hpg1, hcell⟩ := own_some hown (by omega)
    have hp0 := hcell 0 (by omega); have hp1 := hcell 1 (by omega); have hp2 := hcell 2 (by omega)
    obtain ⟨P0, hP0⟩ : ∃ z, ps[0]? = some z := ⟨_, List.getElem?_eq_getElem (by omega)⟩
    obtain ⟨P1, hP1⟩ : ∃ z, ps[1]? = some z := ⟨_, List.getElem?_eq_getElem (by omega)⟩
    obtain ⟨P2, hP2⟩ : ∃ z, ps[2]? = some z := ⟨_, List.getElem?_eq_getElem (by omega)⟩
    have hb0 := hpb P0 (List.mem_of_getElem? hP0); have hb1 := hpb P1 (List.mem_of_getElem? hP1); have hb2 := hpb P2 (List.mem_of_getElem? hP2)
    rw [List.getElem?_map, hP0] at hp0
    rw [List.getElem?_map, hP1] at hp1
    rw [List.getElem?_map, hP2] at hp2
    simp only [Option.map_some] at hp0 hp1 hp2
    obtain ⟨lc, hlc⟩ : ∃ lc, lineCnt g = lc := ⟨_, rfl⟩
    have hlc1 : 1 ≤ lc ∧ lc ≤ 1024 := by rw [← hlc]; have := lineCnt_bd g; unfold lineCnt at this ⊢; rw [if_pos hgo] at this ⊢; exact ⟨by have := (line_bd hgo).1; omega, this.2⟩
    obtain ⟨li, hli⟩ : ∃ li, P0.tmod lc = li := ⟨_, rfl⟩
    have hli0 : 0 ≤ li ∧ li < lc := by rw [← hli, Int.tmod_eq_emod_of_nonneg hb0.1]; exact ⟨Int.emod_nonneg _ (by omega), Int.emod_lt_of_pos _ (by omega)⟩
    obtain ⟨x, hx⟩ : ∃ x, adOf g li = x := ⟨_, rfl⟩
    have hbl : btw li 0 (lineCnt g - 1) = true := btw_mk (by omega) (by omega)
    have hxo : adOk g x = true := by rw [← hx]; exact (adOf_ok hbl).2.1
    obtain ⟨j, hj, hj11⟩ : ∃ j : Nat, P1.tmod 11 = (j : Int) ∧ j < 11 := by
      rw [Int.tmod_eq_emod_of_nonneg hb1.1]
      exact ⟨(P1 % 11).toNat, by omega, by omega⟩
    obtain ⟨v, hv, hv16⟩ : ∃ v : Nat, P2.tmod 16 = (v : Int) ∧ v < 16 := by
      rw [Int.tmod_eq_emod_of_nonneg hb2.1]
      exact ⟨(P2 % 16).toNat, by omega, by omega⟩
    have HJ := hide hj; have HV := hide hv; have HX := hide hx; have HXO := hide hxo; have HLC := hide hlc; have HBL := hide hbl
    have k1v := blk_below hB2 k1 (by omega); have k2v := blk_below hB2 k2 (by omega)
    have HI2 := hide (HIS.out.below hB2 (Nat.le_refl _))
    have HB2 := hide (bthen HBW.out hB2 (by omega))
    have HK := hide (And.intro k1v k2v)
    have HPC := hide (And.intro hp0 (And.intro hp1 hp2))
    have e_g0 := cell_blk k1v 0; have e_g1 := cell_blk k1v 1; have e_g2 := cell_blk k1v 2; have e_g3 := cell_blk k1v 3
    have zg : v1.heap.size < v2.heap.size := by omega
    have wr1 : IntKind.i64.wrap li = li := IntWalk.i64_in _ (by omega)
    have lcz : (lc == 0) = false := by simp; omega
    have lcn : ¬ lc = 0 := by omega
    clear hp0 e_g0 e_g1 e_g2 e_g3 k1 k2 k1v k2v hown hpl hpb hcell hP0 hP1 hP2 HBW HIS hB2 hx hxo hlc hbl hp1 hp2 hj hv
    go_upto_region 5 with fail
    go_cut [7, 8] (fun s0 s1 wx => ∃ b : Nat, s0 = .pointer (some ⟨b, 0, none⟩) ∧ s1 = .bool true ∧ Below v2.heap.size v2 wx ∧ v2.heap.size ≤ b ∧ wx.heap[b]? = some (.cells #[.int .i64 x.b, .int .i64 x.r, .int .i64 x.c] 44 (0, 0)))
    case first =>
      go_region_held3 (fun u => u.cell? ⟨v1.heap.size, 0, none⟩ = some (.int .i64 g.gr) ∧ u.cell? ⟨v1.heap.size, 1, none⟩ = some (.int .i64 g.bk) ∧ u.cell? ⟨v1.heap.size, 2, none⟩ = some (.int .i64 g.rw) ∧ u.cell? ⟨v1.heap.size, 3, none⟩ = some (.int .i64 g.cl) ∧ u.cell? ⟨pg, 0, none⟩ = some (.int .i64 P0) ∧ Below v2.heap.size v2 u) (first | (refine keep_gp HK.out.1 HPC.out.1 hpg1 ?_; (try go_split_ands); (repeat' (first | (with_reducible assumption) | (with_reducible refine Below.alloc ?_ ?_ _) | (with_reducible refine Below.drew ?_) | (with_reducible refine Below.setCell ?_ ?_ _) | (with_reducible exact Below.refl _ _) | (with_reducible exact Nat.le_refl _) | omega | (simp only [World.size_alloc, World.size_setCell, World.size_drew] <;> omega))); done)) (first | (go_at_call 34; refine (spec_LineCount_is g lc HLC.out _).mono ?_; rintro ex y1 ⟨rfl, hy_y1⟩; have hW_y1 : Below v2.heap.size v2 y1 := bthenS (by (try go_split_ands); (repeat' (first | (with_reducible assumption) | (with_reducible refine Below.alloc ?_ ?_ _) | (with_reducible refine Below.drew ?_) | (with_reducible refine Below.setCell ?_ ?_ _) | (with_reducible exact Below.refl _ _) | (with_reducible exact Nat.le_refl _) | omega | (simp only [World.size_alloc, World.size_setCell, World.size_drew] <;> omega))); done) hy_y1; have l_y1 := hW_y1.size; (first | (have hb_p_y1 := lt_blk hb_al; replace hb_al := blk_below hy_y1 hb_al (lt_blk hb_al)) | (have hb_al := blk_below hy_y1 (alloc_at _ (.cells #[.int .i64 0, .int .i64 0, .int .i64 0] 44) _ rfl) (by simp)) | skip); (try simp only [World.size_drew] at hb_al); (try simp only [World.size_drew] at hb_p_y1)) | (go_at_call 33; refine (spec_AddrAt_is g li x _ HBL.out HX.out).mono ?_; rintro ex y2 ⟨rfl, hy_y2⟩; have hW_y2 : Below v2.heap.size v2 y2 := bthenS (by (try go_split_ands); (repeat' (first | (with_reducible assumption) | (with_reducible refine Below.alloc ?_ ?_ _) | (with_reducible refine Below.drew ?_) | (with_reducible refine Below.setCell ?_ ?_ _) | (with_reducible exact Below.refl _ _) | (with_reducible exact Nat.le_refl _) | omega | (simp only [World.size_alloc, World.size_setCell, World.size_drew] <;> omega))); done) hy_y2; have l_y2 := hW_y2.size; (first | (have hb_p_y2 := lt_blk hb_al; replace hb_al := blk_below hy_y2 hb_al (lt_blk hb_al)) | (have hb_al := blk_below hy_y2 (alloc_at _ (.cells #[.int .i64 0, .int .i64 0, .int .i64 0] 44) _ rfl) (by simp)) | skip); (try simp only [World.size_drew] at hb_al); (try simp only [World.size_drew] at hb_p_y2); (try (obtain ⟨hc0, hc1, hc2, hf0, hf1, hf2⟩ := cells3 hb_al; have hb_lt := lt_blk hb_al))))
      all_goals
        go_wp2_with fail
        go_meet
        first
          | exact ⟨_, rfl, rfl, Below.alloc hW_y2 hW_y2.size _, hW_y2.size, alloc_at _ _ _ rfl⟩
          | (refine ⟨_, rfl, rfl, Below.setCell (Below.setCell (Below.setCell hW_y2 (by simp only; omega) _) (by simp only; omega) _) (by simp only; omega) _, ?_, set3 hb_al⟩; omega)
    case rest =>
      obtain ⟨xb, rfl, rfl, hBx, hxb, kx⟩ := hcut
      obtain ⟨v3, rfl⟩ : ∃ V : World, V = wc := ⟨_, rfl⟩
      have s3 := hBx.size
      have hx3 := lt_blk kx
      have HK3 := hide (And.intro (blk_below hBx HK.out.1 (by omega)) (And.intro (blk_below hBx HK.out.2 (by omega)) kx))
      have HI3 := hide (HI2.out.below hBx (Nat.le_refl _))
      have HB3 := hide (bthen HB2.out hBx (by omega))
      have HP3 := hide (And.intro (((bcell hBx).1 pg 1 hpg1).trans HPC.out.2.1) (((bcell hBx).1 pg 2 hpg1).trans HPC.out.2.2))
      clear hBx kx HK HI2 HB2 HPC lcz lcn wr1
      go_wp2_with fail
      refine (spec_DrawWord a n c zs _ (HA.out.below HB3.out (Nat.le_refl _)) hs).mono ?_
      rintro e v4 ⟨wi, hw0, hw1, rfl, hB4⟩
      obtain ⟨wn, rfl⟩ : ∃ k : Nat, wi = (k : Int) := ⟨wi.toNat, by omega⟩
      obtain ⟨C1, C2, C3, C4, p1, o1, p2, o2, p3, o3, p4⟩ := words_plain okA HXO.out (wn := wn) (j := j) (v := v) (by omega) hj11 hv16
      have HQ1 := hide p1; have HQ2 := hide p2; have HQ3 := hide p3; have HQ4 := hide p4; have HOK := hide (And.intro o1 (And.intro o2 o3))
      clear p1 p2 p3 p4 o1 o2 o3
      have s4 := hB4.size
      have HK4 := hide (And.intro (blk_below hB4 HK3.out.1 (by omega)) (And.intro (blk_below hB4 HK3.out.2.1 (by omega)) (blk_below hB4 HK3.out.2.2 hx3)))
      have HI4 := hide (HI3.out.below hB4 (Nat.le_refl _))
      have HB4 := hide (bthen HB3.out hB4 (by omega))
      have HP4 := hide (And.intro (((bcell hB4).1 pg 1 (by omega)).trans HP3.out.1) (((bcell hB4).1 pg 2 (by omega)).trans HP3.out.2))
      clear hB4 HK3 HI3 HB3 HP3
      have e_g0 := cell_blk HK4.out.1 0; have e_g1 := cell_blk HK4.out.1 1; have e_g2 := cell_blk HK4.out.1 2; have e_g3 := cell_blk HK4.out.1 3
      have e_A0 := cell_blk HK4.out.2.1 0; have e_A1 := cell_blk HK4.out.2.1 1; have e_A2 := cell_blk HK4.out.2.1 2
      have e_x0 := cell_blk HK4.out.2.2 0; have e_x1 := cell_blk HK4.out.2.2 1; have e_x2 := cell_blk HK4.out.2.2 2
      go_wp2_with fail
      refine (impl_PutWord g A x wn C1 _ HQ1.out HI4.out HT).mono ?_
      rintro e v5 ⟨A1, rfl, oA1, cA1, hB5⟩
      have s5 := hB5.size
      clear e_g0 e_g1 e_g2 e_g3 e_A0 e_A1 e_A2 e_x0 e_x1 e_x2
      have hBW : Below v4.heap.size v4 (v5.alloc (.cells #[.slice A1.a A1.n A1.c, .slice A1.ag.1.a A1.ag.1.n A1.ag.1.c, .slice A1.ht.1.a A1.ht.1.n A1.ht.1.c] 34)) := Below.alloc hB5 s5 _
      have kh5 : (v5.alloc (.cells #[.slice A1.a A1.n A1.c, .slice A1.ag.1.a A1.ag.1.n A1.ag.1.c, .slice A1.ht.1.a A1.ht.1.n A1.ht.1.c] 34)).heap[v5.heap.size]? = some (.cells #[.slice A1.a A1.n A1.c, .slice A1.ag.1.a A1.ag.1.n A1.ag.1.c, .slice A1.ht.1.a A1.ht.1.n A1.ht.1.c] 34 (0, 0)) := alloc_at _ _ _ rfl
      have sW5 : v5.heap.size < (v5.alloc (.cells #[.slice A1.a A1.n A1.c, .slice A1.ag.1.a A1.ag.1.n A1.ag.1.c, .slice A1.ht.1.a A1.ht.1.n A1.ht.1.c] 34)).heap.size := by simp
      have HI5 := hide (oA1.is.below (w' := v5.alloc (.cells #[.slice A1.a A1.n A1.c, .slice A1.ag.1.a A1.ag.1.n A1.ag.1.c, .slice A1.ht.1.a A1.ht.1.n A1.ht.1.c] 34)) (Below.alloc (Below.refl _ _) (Nat.le_refl _) _) (Nat.le_refl _))
      have HT1 : A1.tot ≤ 1048576 := by rw [tot_con oA1.is, cA1]; exact tot_ok HOK.out.1
      have HK5 := hide (And.intro (blk_below hBW HK4.out.1 (by omega)) (blk_below hBW HK4.out.2.2 (by omega)))
      have HB5 := hide (bthen HB4.out hBW (by omega))
      have HP5 := hide (And.intro (((bcell hBW).1 pg 1 (by omega)).trans HP4.out.1) (((bcell hBW).1 pg 2 (by omega)).trans HP4.out.2))
      have HC1 := hide cA1
      clear hB5 hBW oA1 cA1 HK4 HI4 HB4 HP4
      go_upto_region 8 with fail
      generalize (v5.alloc (.cells #[.slice A1.a A1.n A1.c, .slice A1.ag.1.a A1.ag.1.n A1.ag.1.c, .slice A1.ht.1.a A1.ht.1.n A1.ht.1.c] 34)) = W5 at *
      have e_g0 := cell_blk HK5.out.1 0; have e_g1 := cell_blk HK5.out.1 1; have e_g2 := cell_blk HK5.out.1 2; have e_g3 := cell_blk HK5.out.1 3
      have e_A0 := cell_blk kh5 0; have e_A1 := cell_blk kh5 1; have e_A2 := cell_blk kh5 2
      have e_x0 := cell_blk HK5.out.2 0; have e_x1 := cell_blk HK5.out.2 1; have e_x2 := cell_blk HK5.out.2 2
      have e_p1 := HP5.out.1; have e_p2 := HP5.out.2
      have hj := HJ.out; have hv := HV.out
      have HKH := hide kh5
      clear kh5
      go_cut [10] (fun s0 wx => ∃ A2 : Ar, s0 = .pointer (some ⟨v5.heap.size, 0, none⟩) ∧ wx.heap[v5.heap.size]? = some (.cells #[.slice A2.a A2.n A2.c, .slice A2.ag.1.a A2.ag.1.n A2.ag.1.c, .slice A2.ht.1.a A2.ht.1.n A2.ht.1.c] 34 (0, 0)) ∧ OwnAr W5.heap.size wx.heap.size wx A2 ∧ A2.con = C2 ∧ Below v5.heap.size W5 wx)
      case first =>
        have hpg5 : pg < W5.heap.size := by omega
        refine wp_region_last (fun u => u.cell? ⟨v1.heap.size, 0, none⟩ = some (.int .i64 g.gr) ∧ u.cell? ⟨v1.heap.size, 1, none⟩ = some (.int .i64 g.bk) ∧ u.cell? ⟨v1.heap.size, 2, none⟩ = some (.int .i64 g.rw) ∧ u.cell? ⟨v1.heap.size, 3, none⟩ = some (.int .i64 g.cl) ∧ u.cell? ⟨v5.heap.size, 0, none⟩ = some (.slice A1.a A1.n A1.c) ∧ u.cell? ⟨v5.heap.size, 1, none⟩ = some (.slice A1.ag.1.a A1.ag.1.n A1.ag.1.c) ∧ u.cell? ⟨v5.heap.size, 2, none⟩ = some (.slice A1.ht.1.a A1.ht.1.n A1.ht.1.c) ∧ u.cell? ⟨xb, 0, none⟩ = some (.int .i64 x.b) ∧ u.cell? ⟨xb, 1, none⟩ = some (.int .i64 x.r) ∧ u.cell? ⟨xb, 2, none⟩ = some (.int .i64 x.c) ∧ u.cell? ⟨pg, 1, none⟩ = some (.int .i64 P1) ∧ u.cell? ⟨pg, 2, none⟩ = some (.int .i64 P2)) 12 (by kernel_rfl) (keep_flip HK5.out.1 HKH.out HK5.out.2 HP5.out.1 HP5.out.2 hpg5 (Below.refl _ _).drew) (fun hSx => ?_)
        refine wpAnyK_take 2 (i := 0) (v := ?_) rfl (by kernel_rfl) (by kernel_rfl) (by kernel_rfl) (by kernel_rfl) (fun _ _ _ h => h) (Or.inl ⟨by rfl, ?_⟩) (by assumption) ?_
        rotate_left
        · intro w hSw; (try dsimp only at hSw); go_simp; try with_reducible rfl
        try simp only [Act.put, List.getElem_toArray, List.getElem_cons_zero, List.getElem_cons_succ, List.setIfInBounds_toArray, List.set_cons_zero, List.set_cons_succ]
        refine wpAnyK_take 2 (i := 1) (v := ?_) rfl (by kernel_rfl) (by kernel_rfl) (by kernel_rfl) (by kernel_rfl) (fun _ _ _ h => h) (Or.inl ⟨by rfl, ?_⟩) (by assumption) ?_
        rotate_left
        · intro w hSw; (try dsimp only at hSw); go_simp; try with_reducible rfl
        try simp only [Act.put, List.getElem_toArray, List.getElem_cons_zero, List.getElem_cons_succ, List.setIfInBounds_toArray, List.set_cons_zero, List.set_cons_succ]
        refine wpAnyK_take 2 (i := 2) (v := ?_) rfl (by kernel_rfl) (by kernel_rfl) (by kernel_rfl) (by kernel_rfl) (fun _ _ _ h => h) (Or.inl ⟨by rfl, ?_⟩) (by assumption) ?_
        rotate_left
        · intro w hSw; (try dsimp only at hSw); go_simp; try with_reducible rfl
        try simp only [Act.put, List.getElem_toArray, List.getElem_cons_zero, List.getElem_cons_succ, List.setIfInBounds_toArray, List.set_cons_zero, List.set_cons_succ]
        refine wpAnyK_take 2 (i := 3) (v := ?_) rfl (by kernel_rfl) (by kernel_rfl) (by kernel_rfl) (by kernel_rfl) (fun _ _ _ h => h) (Or.inl ⟨by rfl, ?_⟩) (by assumption) ?_
        rotate_left
        · intro w hSw; (try dsimp only at hSw); go_simp; try with_reducible rfl
        try simp only [Act.put, List.getElem_toArray, List.getElem_cons_zero, List.getElem_cons_succ, List.setIfInBounds_toArray, List.set_cons_zero, List.set_cons_succ]
        refine wpAnyK_take 2 (i := 4) (v := ?_) rfl (by kernel_rfl) (by kernel_rfl) (by kernel_rfl) (by kernel_rfl) (fun _ _ _ h => h) (Or.inl ⟨by rfl, ?_⟩) (by assumption) ?_
        rotate_left
        · intro w hSw; (try dsimp only at hSw); go_simp; try with_reducible rfl
        try simp only [Act.put, List.getElem_toArray, List.getElem_cons_zero, List.getElem_cons_succ, List.setIfInBounds_toArray, List.set_cons_zero, List.set_cons_succ]
        refine wpAnyK_take 2 (i := 5) (v := ?_) rfl (by kernel_rfl) (by kernel_rfl) (by kernel_rfl) (by kernel_rfl) (fun _ _ _ h => h) (Or.inl ⟨by rfl, ?_⟩) (by assumption) ?_
        rotate_left
        · intro w hSw; (try dsimp only at hSw); go_simp; try with_reducible rfl
        try simp only [Act.put, List.getElem_toArray, List.getElem_cons_zero, List.getElem_cons_succ, List.setIfInBounds_toArray, List.set_cons_zero, List.set_cons_succ]
        refine wpAnyK_take 2 (i := 6) (v := ?_) rfl (by kernel_rfl) (by kernel_rfl) (by kernel_rfl) (by kernel_rfl) (fun _ _ _ h => h) (Or.inl ⟨by rfl, ?_⟩) (by assumption) ?_
        rotate_left
        · intro w hSw; (try dsimp only at hSw); go_simp; try with_reducible rfl
        try simp only [Act.put, List.getElem_toArray, List.getElem_cons_zero, List.getElem_cons_succ, List.setIfInBounds_toArray, List.set_cons_zero, List.set_cons_succ]
        refine wpAnyK_take 2 (i := 7) (v := ?_) rfl (by kernel_rfl) (by kernel_rfl) (by kernel_rfl) (by kernel_rfl) (fun _ _ _ h => h) (Or.inl ⟨by rfl, ?_⟩) (by assumption) ?_
        rotate_left
        · intro w hSw; (try dsimp only at hSw); go_simp; try with_reducible rfl
        try simp only [Act.put, List.getElem_toArray, List.getElem_cons_zero, List.getElem_cons_succ, List.setIfInBounds_toArray, List.set_cons_zero, List.set_cons_succ]
        refine wpAnyK_take 2 (i := 8) (v := ?_) rfl (by kernel_rfl) (by kernel_rfl) (by kernel_rfl) (by kernel_rfl) (fun _ _ _ h => h) (Or.inl ⟨by rfl, ?_⟩) (by assumption) ?_
        rotate_left
        · intro w hSw; (try dsimp only at hSw); go_simp; try with_reducible rfl
        try simp only [Act.put, List.getElem_toArray, List.getElem_cons_zero, List.getElem_cons_succ, List.setIfInBounds_toArray, List.set_cons_zero, List.set_cons_succ]
        refine wpAnyK_take 2 (i := 9) (v := ?_) rfl (by kernel_rfl) (by kernel_rfl) (by kernel_rfl) (by kernel_rfl) (fun _ _ _ h => h) (Or.inl ⟨by rfl, ?_⟩) (by assumption) ?_
        rotate_left
        · intro w hSw; (try dsimp only at hSw); go_simp; try with_reducible rfl
        try simp only [Act.put, List.getElem_toArray, List.getElem_cons_zero, List.getElem_cons_succ, List.setIfInBounds_toArray, List.set_cons_zero, List.set_cons_succ]
        refine wpAnyK_take 2 (i := 10) (v := ?_) rfl (by kernel_rfl) (by kernel_rfl) (by kernel_rfl) (by kernel_rfl) (fun _ _ _ h => h) (Or.inl ⟨by rfl, ?_⟩) (by assumption) ?_
        rotate_left
        · intro w hSw; (try dsimp only at hSw); go_simp; try with_reducible rfl
        try simp only [Act.put, List.getElem_toArray, List.getElem_cons_zero, List.getElem_cons_succ, List.setIfInBounds_toArray, List.set_cons_zero, List.set_cons_succ]
        refine wpAnyK_one (i := 11) (by kernel_rfl) rfl (fun K hK => ?_)
        go_simp
        (refine (spec_FlipSymbol g A1 x j v C2 _ (by rw [HC1.out]; exact HQ2.out) (by rw [HC1.out]; exact HOK.out.1) HXO.out hj11 hv16 (HI5.out.below (Below.drew (Below.refl _ _)) (Nat.le_refl _)) HT1).mono ?_; rintro ex v6 ⟨A2, rfl, oA2, cA2, hB6d⟩; have hB6 : Below W5.heap.size W5 v6 := below_drew hB6d; have s6 := hB6.size; obtain ⟨hc0, hc1, hc2, hf0, hf1, hf2⟩ := cells3 (blk_below hB6 HKH.out sW5); have hb_lt : v5.heap.size < v6.heap.size := (by omega); refine hK.out _ _ (.inr (keep_flip HK5.out.1 HKH.out HK5.out.2 HP5.out.1 HP5.out.2 hpg5 hB6)) (fun hSy => ?_))
        clear hSx hK K
        have hSx := hSy.resolve_left (by decide); clear hSy
        try simp only [Act.put, List.getElem_toArray, List.getElem_cons_zero, List.getElem_cons_succ, List.setIfInBounds_toArray, List.set_cons_zero, List.set_cons_succ]
        refine wpAnyK_one (i := 12) (by kernel_rfl) rfl (fun K hK => ?_)
        go_simp
        skip
        refine hK.out _ _ (.inl rfl) (fun _ => ?_)
        clear hSx hK K
        try simp only [Act.put, List.getElem_toArray, List.getElem_cons_zero, List.getElem_cons_succ, List.setIfInBounds_toArray, List.set_cons_zero, List.set_cons_succ]
        refine wpAnyK_done (by kernel_rfl) ?_ _
        · go_wp2_with fail
          go_meet
          exact ⟨A2, rfl, set3 (blk_below hB6 HKH.out sW5), (((oA2.set_off (.inl sW5) _).set_off (.inl sW5) _).set_off (.inl sW5) _).wide (Nat.le_refl _) (by simp), cA2, (((hB6.mono (Nat.le_of_lt sW5)).setCell (p := ⟨v5.heap.size, 0, none⟩) (Nat.le_refl _) _).setCell (p := ⟨v5.heap.size, 1, none⟩) (Nat.le_refl _) _).setCell (p := ⟨v5.heap.size, 2, none⟩) (Nat.le_refl _) _⟩
      case rest =>
        obtain ⟨A2, rfl, kh6, oA2, cA2, hB6⟩ := hcut
        obtain ⟨v6, rfl⟩ : ∃ V : World, V = wc := ⟨_, rfl⟩
        have s6 := hB6.size
        have HK6 := hide (And.intro (blk_below hB6 HK5.out.1 (by omega)) (blk_below hB6 HK5.out.2 (by omega)))
        have HB6 := hide (bthen HB5.out hB6 (by omega))
        have HP6 := hide (((bcell hB6).1 pg 2 (by omega)).trans HP5.out.2)
        have HT2 : A2.tot ≤ 1048576 := by rw [tot_con oA2.is, cA2]; exact tot_ok HOK.out.2.1
        have HO2 := hide oA2; have HC2 := hide cA2
        have hl6 := lt_blk kh6
        clear e_g0 e_g1 e_g2 e_g3 e_A0 e_A1 e_A2 e_x0 e_x1 e_x2 e_p1 e_p2 hj hv HKH HK5 HB5 HP5 hB6 oA2 cA2
        have e_g0 := cell_blk HK6.out.1 0; have e_g1 := cell_blk HK6.out.1 1; have e_g2 := cell_blk HK6.out.1 2; have e_g3 := cell_blk HK6.out.1 3
        have e_A0 := cell_blk kh6 0; have e_A1 := cell_blk kh6 1; have e_A2 := cell_blk kh6 2
        have e_x0 := cell_blk HK6.out.2 0; have e_x1 := cell_blk HK6.out.2 1; have e_x2 := cell_blk HK6.out.2 2
        obtain ⟨cd, hcd⟩ : ∃ cd : Int, (if v = 0 then 0 else 1) = cd := ⟨_, rfl⟩
        have HCD := hide hcd
        clear hcd kh6
        go_wp2_with fail
        refine (impl_GetWord g A2 x C3 wn cd _ (by rw [HC2.out, ← HCD.out]; exact HQ3.out) HO2.out.is HT2).mono ?_
        rintro e v7 ⟨A3, rfl, oA3, cA3, hB7⟩
        have s7 := hB7.size
        clear e_g0 e_g1 e_g2 e_g3 e_A0 e_A1 e_A2 e_x0 e_x1 e_x2
        have hBW : Below v6.heap.size v6 (v7.alloc (.cells #[.slice A3.a A3.n A3.c, .slice A3.ag.1.a A3.ag.1.n A3.ag.1.c, .slice A3.ht.1.a A3.ht.1.n A3.ht.1.c] 34)) := Below.alloc hB7 s7 _
        have kh7 : (v7.alloc (.cells #[.slice A3.a A3.n A3.c, .slice A3.ag.1.a A3.ag.1.n A3.ag.1.c, .slice A3.ht.1.a A3.ht.1.n A3.ht.1.c] 34)).heap[v7.heap.size]? = some (.cells #[.slice A3.a A3.n A3.c, .slice A3.ag.1.a A3.ag.1.n A3.ag.1.c, .slice A3.ht.1.a A3.ht.1.n A3.ht.1.c] 34 (0, 0)) := alloc_at _ _ _ rfl
        have sW7 : v7.heap.size < (v7.alloc (.cells #[.slice A3.a A3.n A3.c, .slice A3.ag.1.a A3.ag.1.n A3.ag.1.c, .slice A3.ht.1.a A3.ht.1.n A3.ht.1.c] 34)).heap.size := by simp
        have HI7 := hide (oA3.is.below (w' := v7.alloc (.cells #[.slice A3.a A3.n A3.c, .slice A3.ag.1.a A3.ag.1.n A3.ag.1.c, .slice A3.ht.1.a A3.ht.1.n A3.ht.1.c] 34)) (Below.alloc (Below.refl _ _) (Nat.le_refl _) _) (Nat.le_refl _))
        have HT3 : A3.tot ≤ 1048576 := by rw [tot_con oA3.is, cA3]; exact tot_ok HOK.out.2.2
        have HK7 := hide (And.intro (blk_below hBW HK6.out.1 (by omega)) (blk_below hBW HK6.out.2 (by omega)))
        have HB7 := hide (bthen HB6.out hBW (by omega))
        have HP7 := hide (((bcell hBW).1 pg 2 (by omega)).trans HP6.out)
        have HC3 := hide cA3
        clear hB7 hBW oA3 cA3 HK6 HB6 HP6
        go_upto_region 10 with fail
        generalize (v7.alloc (.cells #[.slice A3.a A3.n A3.c, .slice A3.ag.1.a A3.ag.1.n A3.ag.1.c, .slice A3.ht.1.a A3.ht.1.n A3.ht.1.c] 34)) = W7 at *
        have e_g0 := cell_blk HK7.out.1 0; have e_g1 := cell_blk HK7.out.1 1; have e_g2 := cell_blk HK7.out.1 2; have e_g3 := cell_blk HK7.out.1 3
        have e_A0 := cell_blk kh7 0; have e_A1 := cell_blk kh7 1; have e_A2 := cell_blk kh7 2
        have e_x0 := cell_blk HK7.out.2 0; have e_x1 := cell_blk HK7.out.2 1; have e_x2 := cell_blk HK7.out.2 2
        have HKH7 := hide kh7
        clear kh7
        go_wp2_with fail
        refine (impl_GetWord g A3 x C4 wn 0 _ (by rw [HC3.out]; exact HQ4.out) HI7.out HT3).mono ?_
        rintro e v8 ⟨A4, rfl, oA4, cA4, hB8⟩
        have s8 := hB8.size
        clear e_g0 e_g1 e_g2 e_g3 e_A0 e_A1 e_A2 e_x0 e_x1 e_x2
        have hBW : Below W7.heap.size W7 (v8.alloc (.cells #[.slice A4.a A4.n A4.c, .slice A4.ag.1.a A4.ag.1.n A4.ag.1.c, .slice A4.ht.1.a A4.ht.1.n A4.ht.1.c] 34)) := Below.alloc hB8 s8 _
        have hkg := blk_below hBW HK7.out.1 (by omega)
        have hkh := blk_below hBW HKH7.out sW7
        have e_p2 := ((bcell hBW).1 pg 2 (by omega)).trans HP7.out
        have HI8 := hide (HI7.out.below hBW (Nat.le_refl _))
        have HB8 := hide (bthen HB7.out hBW (by omega))
        clear hB8 hBW oA4 cA4 HK7 HB7 HP7 HI7 HKH7
        go_upto_region 11 with fail
        generalize (v8.alloc (.cells #[.slice A4.a A4.n A4.c, .slice A4.ag.1.a A4.ag.1.n A4.ag.1.c, .slice A4.ht.1.a A4.ht.1.n A4.ht.1.c] 34)) = W8 at *
        have e_g0 := cell_blk hkg 0; have e_g1 := cell_blk hkg 1; have e_g2 := cell_blk hkg 2; have e_g3 := cell_blk hkg 3
        have e_A0 := cell_blk hkh 0; have e_A1 := cell_blk hkh 1; have e_A2 := cell_blk hkh 2
        have hokt : arOk g A3.con = true := by rw [HC3.out]; exact HOK.out.2.2
        have HOKT := hide hokt
        clear hkg hkh hokt
        by_cases hv0 : v = 0
        · obtain rfl : (0 : Int) = cd := by have := HCD.out; rw [if_pos hv0] at this; exact this
          have hv : P2.tmod 16 = 0 := by rw [HV.out, hv0]; rfl
          go_wp2_with (go_at_call 37; refine (impl_ArrayOk g A3 true _ HOKT.out HI8.out HT3).mono ?_; rintro e v9 ⟨rfl, hB9⟩)
          go_ret
          exact ⟨rfl, bthen HB8.out hB9 HB8.out.size⟩
        · obtain rfl : (1 : Int) = cd := by have := HCD.out; rw [if_neg hv0] at this; exact this
          have hv := HV.out
          have hvn : ¬ (v : Int) = 0 := by omega
          have hvb : ((v : Int) != 0) = true := by simpa using hv0
          go_wp2_with (go_at_call 37; refine (impl_ArrayOk g A3 true _ HOKT.out HI8.out HT3).mono ?_; rintro e v9 ⟨rfl, hB9⟩)
          go_ret
          exact ⟨rfl, bthen HB8.out hB9 HB8.out.size⟩
  · go_enter Try.func8, Try.ntmps8
    go_wp2_with fail
    refine (laws_big_yes a n c _ hm hc hs).mono ?_
    rintro e w' ⟨rfl, rfl⟩
    go_wp2_with fail
    go_ret
    exact ⟨rfl, by go_grown⟩
set_option maxRecDepth 100000 in
theorem FnWords_lifted (os : Os) (started : os.Started) (H : Type) (enc : TypeId × Value → H) :
    ReturnsInHanded {} Try.checked os 8 .any (Rows.fnWordsSpec.pre6 enc Try.prog Try.f8 Rows.fnWordsRow.domain false) (Rows.fnWordsSpec.post enc Try.prog Try.f8 false true false false) := by
  refine returnsInHanded_of_change (C := Try.checked) try_own started (by kernel_rfl) Try.func8
    (ChangeSpec.witness6 (enc := enc) (C := Try.checked) false ⟨#[], #[.slice none 0 0], []⟩ 8 (by kernel_rfl) (by kernel_rfl) (by kernel_rfl) (by kernel_rfl)) ?_
  intro W base args ds gs before hval0 hW _ _
  have hval : ∀ (j : Nat) t v, Try.f8.params[j]? = some t → args[j]? = some v → Value.okWide Try.prog W .any base t v := hval0
  have hW' := hW
  obtain ⟨p, q, hA0, hV, rfl, hfz, hnd⟩ := hW
  have hA : DataW.TrodAll enc Try.prog W 0 (fun _ => true) true Try.f8.params.toList args.toList ds p := hA0
  rw [Try.params8] at hA hval
  obtain ⟨v0, vs0, d0, ds0, p0, q0, hargs, rfl, rfl, h0, r0⟩ := trodAll_cons hA
  obtain ⟨rfl, rfl, rfl⟩ := trodAll_nil r0
  obtain rfl : args = #[v0] := by cases args; simp_all
  obtain ⟨rfl, rfl⟩ := trodVars_none hV
  have k0 := h0
  have lt0 : ∀ x ∈ p0, x.block < W.heap.size := by obtain ⟨m, hm⟩ := k0; exact DataW.trod_lt m _ _ _ hm
  obtain ⟨b_x0, m_x0, l_x0, rfl⟩ := okWide_slice Try.underlying54 (hval 0 54 v0 rfl rfl)
  obtain ⟨fu0, h0⟩ := h0
  obtain ⟨a_x0, n_x0, c_x0, x0, e_x0, w_x0⟩ := isBytes_of Try.underlying54 Try.underlying5 (by kernel_rfl) h0
  simp only [Value.cells, List.cons.injEq, and_true] at e_x0
  obtain ⟨q1, q2, q3⟩ : b_x0 = a_x0 ∧ m_x0 = n_x0 ∧ l_x0 = c_x0 := by simpa using e_x0
  replace q1 := q1.symm; replace q2 := q2.symm; replace q3 := q3.symm; subst q1 q2 q3
  clear hA0 hval0
  refine (FnWords_walk a_x0 n_x0 c_x0 x0 W w_x0).mono fun e W' ⟨he, bel⟩ => ?_
  subst he
  exact ⟨_, rfl, _, _, _, [], _, [], hW', trodAll_mk1 (shut_bool Try.underlying4 _), (trodAll_cons_mk (Below.trod try_laidOut (by kernel_rfl) (of_decide_eq_true (by kernel_rfl)) k0 bel lt0) trodAll_mk0), rfl, bel.frame _, fun h => by cases h⟩

theorem FnWords_holds : Rows.FnWordsSaid :=
  OpenClaim.holds_of_wide 8 Try.f8 rfl rfl rfl rfl rfl rfl rfl ⟨rfl, rfl, rfl, rfl, rfl⟩ rfl rfl rfl rfl rfl (by kernel_rfl) Try.func8 (by kernel_rfl)
    (of_decide_eq_true (by kernel_rfl)) (by unfold Func.isWrapper; rw [if_neg (of_decide_eq_false (by kernel_rfl))]; exact ⟨rfl, rfl⟩)
    (fun os started H enc _ => FnWords_lifted os started H enc)
#print axioms FnWords_holds
end Go.Proofs.Ytkhcepmileiejaa
