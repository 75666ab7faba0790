/- For every geometry and array the program's ScrubAll returns what the reference's returns, in memory of its own, and leaves its arguments as they were. No condition. -/
import Derived.Test.YtkhcepmileiejaaLawA
import Derived.Test.YtkhcepmileiejaaAllW
import Derived.Deep.DeepCutAuto
set_option linter.unusedSimpArgs false
set_option linter.unusedVariables false
namespace Go.Proofs.Ytkhcepmileiejaa
open Go.RowKit Go.ChangeShapes Go.WideShapes Go.ChangeAt Go.Joins Go.Deep
open Go.ChangeMaps (open_string shut_string)
set_option maxRecDepth 100000 in
set_option maxHeartbeats 8000000 in
theorem FnExactScrubAll_walk (g1 g2 g3 g4 : Int) (a : Option Addr) (n c : Nat) (es : List Cl) (a2 : Option Addr) (n2 c2 : Nat) (z2 : List Int) (a3 : Option Addr) (n3 c3 : Nat) (z3 : List Int) (w : World) (h1 : IsCells w a n c es) (h2 : IsInts .i64 w a2 n2 c2 z2) (h3 : IsInts .i64 w a3 n3 c3 z3) :
    Calls Try.prog 7 #[.agg #[.int .i64 g1, .int .i64 g2, .int .i64 g3, .int .i64 g4], .agg #[.slice a n c, .slice a2 n2 c2, .slice a3 n3 c3]] w fun e w' => e = .returned (.bool true) ∧ Below w.heap.size w w' := by
  obtain ⟨A, hAe⟩ : ∃ A : Ar, A = ⟨a, n, c, es, ⟨⟨a2, n2, c2⟩, z2⟩, ⟨⟨a3, n3, c3⟩, z3⟩⟩ := ⟨_, rfl⟩
  obtain ⟨g, hge⟩ : ∃ g : Ge, g = ⟨g1, g2, g3, g4⟩ := ⟨_, rfl⟩
  have hA : IsAr w A := by subst hAe; exact ⟨h1, h2, h3⟩
  have goal : Calls Try.prog 7 #[.agg #[.int .i64 g.gr, .int .i64 g.bk, .int .i64 g.rw, .int .i64 g.cl], .agg #[.slice A.a A.n A.c, .slice A.ag.1.a A.ag.1.n A.ag.1.c, .slice A.ht.1.a A.ht.1.n A.ht.1.c]] w fun e w' => e = .returned (.bool true) ∧ Below w.heap.size w w' := by
    clear hAe hge h1 h2 h3
    by_cases ht : A.tot ≤ 1048576
    · obtain ⟨⟨C', v, code⟩, hg⟩ : ∃ r, scrubA g A.con = r := ⟨_, rfl⟩
      have hct : conTot C' = A.tot := by rw [tot_con hA]; have := scrubA_tot g A.con; rw [hg] at this; exact this
      have HA := hide hA; have HT := hide ht; have HG := hide hg; have HCT := hide hct
      have hsz := szI_fit (l := 1048576) (m := A.tot) (by omega)
      have hpos : (0 : Int) ≤ 1048576 - (A.tot : Int) := by omega
      have hk9 : ¬ 1 + (A.tot : Int) < 0 := by omega
      clear hA hg hct
      go_enter Try.func7, Try.ntmps7
      go_wp2_with fail
      have k0 : ((w.alloc (.cells #[.int .i64 g.gr, .int .i64 g.bk, .int .i64 g.rw, .int .i64 g.cl] 23)).alloc (.cells #[.slice A.a A.n A.c, .slice A.ag.1.a A.ag.1.n A.ag.1.c, .slice A.ht.1.a A.ht.1.n A.ht.1.c] 27)).heap[w.heap.size]? = some (.cells #[.int .i64 g.gr, .int .i64 g.bk, .int .i64 g.rw, .int .i64 g.cl] 23 (0, 0)) := by rw [alloc_lt _ _ _ (by simp; try omega)]; exact alloc_at _ _ _ (by simp)
      have k1 : ((w.alloc (.cells #[.int .i64 g.gr, .int .i64 g.bk, .int .i64 g.rw, .int .i64 g.cl] 23)).alloc (.cells #[.slice A.a A.n A.c, .slice A.ag.1.a A.ag.1.n A.ag.1.c, .slice A.ht.1.a A.ht.1.n A.ht.1.c] 27)).heap[w.heap.size + 1]? = some (.cells #[.slice A.a A.n A.c, .slice A.ag.1.a A.ag.1.n A.ag.1.c, .slice A.ht.1.a A.ht.1.n A.ht.1.c] 27 (0, 0)) := by exact alloc_at _ _ _ (by simp)
      have hB0 : Below w.heap.size w ((w.alloc (.cells #[.int .i64 g.gr, .int .i64 g.bk, .int .i64 g.rw, .int .i64 g.cl] 23)).alloc (.cells #[.slice A.a A.n A.c, .slice A.ag.1.a A.ag.1.n A.ag.1.c, .slice A.ht.1.a A.ht.1.n A.ht.1.c] 27)) := by go_grown
      have hs0 : w.heap.size + 2 ≤ ((w.alloc (.cells #[.int .i64 g.gr, .int .i64 g.bk, .int .i64 g.rw, .int .i64 g.cl] 23)).alloc (.cells #[.slice A.a A.n A.c, .slice A.ag.1.a A.ag.1.n A.ag.1.c, .slice A.ht.1.a A.ht.1.n A.ht.1.c] 27)).heap.size := by simp
      generalize ((w.alloc (.cells #[.int .i64 g.gr, .int .i64 g.bk, .int .i64 g.rw, .int .i64 g.cl] 23)).alloc (.cells #[.slice A.a A.n A.c, .slice A.ag.1.a A.ag.1.n A.ag.1.c, .slice A.ht.1.a A.ht.1.n A.ht.1.c] 27)) = W at *
      have HAW := hide (HA.out.below hB0 (Nat.le_refl _))
      refine (laws_szArray A _ _ _ HAW.out (by omega) (by omega) hsz).mono ?_
      rintro ex w1 ⟨rfl, hw1⟩
      have s1 := hw1.size
      replace k0 := blk_below hw1 k0 (by omega)
      replace k1 := blk_below hw1 k1 (by omega)
      have HB1 := hide (bthen hB0 hw1 (by omega))
      have HAW1 := hide (HAW.out.below hw1 (Nat.le_refl _))
      clear hw1 HAW hB0
      have e_g0 := cell_blk k0 0
      have e_g1 := cell_blk k0 1
      have e_g2 := cell_blk k0 2
      have e_g3 := cell_blk k0 3
      have e_A0 := cell_blk k1 0
      have e_A1 := cell_blk k1 1
      have e_A2 := cell_blk k1 2
      clear e_g0 e_g1 e_g2 e_g3 e_A0 e_A1 e_A2
      go_upto_region 5 with fail
      go_cut [6, 7, 8] (fun s0 s1 s2 wx => ∃ (b lo hi : Nat) (Q : Ar), s0 = .pointer (some ⟨b, 0, none⟩) ∧ s1 = .int .i64 v ∧ s2 = .int .i64 code ∧ Kept w1 wx Q b lo hi C')
      case first =>
        go_region_held3 (fun v => v.cell? ⟨w.heap.size, 0, none⟩ = some (.int .i64 g.gr) ∧ v.cell? ⟨w.heap.size, 1, none⟩ = some (.int .i64 g.bk) ∧ v.cell? ⟨w.heap.size, 2, none⟩ = some (.int .i64 g.rw) ∧ v.cell? ⟨w.heap.size, 3, none⟩ = some (.int .i64 g.cl) ∧ v.cell? ⟨w.heap.size + 1, 0, none⟩ = some (.slice A.a A.n A.c) ∧ v.cell? ⟨w.heap.size + 1, 1, none⟩ = some (.slice A.ag.1.a A.ag.1.n A.ag.1.c) ∧ v.cell? ⟨w.heap.size + 1, 2, none⟩ = some (.slice A.ht.1.a A.ht.1.n A.ht.1.c) ∧ Below w1.heap.size w1 v) (first | (refine keep_gA k0 k1 ?_; (try go_split_ands); (repeat' (first | (with_reducible assumption) | (with_reducible refine Below.alloc ?_ ?_ _) | (with_reducible refine Below.drew ?_) | (with_reducible refine Below.setCell ?_ ?_ _) | (with_reducible exact Below.refl _ _) | (with_reducible exact Nat.le_refl _) | omega | (simp only [World.size_alloc, World.size_setCell, World.size_drew] <;> omega))); done)) (first | (go_at_call 12; refine (laws_toGeometry g _).mono ?_; rintro ex y1 ⟨rfl, hy_y1⟩; have hW_y1 : Below w1.heap.size w1 y1 := bthenS (by (try go_split_ands); (repeat' (first | (with_reducible assumption) | (with_reducible refine Below.alloc ?_ ?_ _) | (with_reducible refine Below.drew ?_) | (with_reducible refine Below.setCell ?_ ?_ _) | (with_reducible exact Below.refl _ _) | (with_reducible exact Nat.le_refl _) | omega | (simp only [World.size_alloc, World.size_setCell, World.size_drew] <;> omega))); done) hy_y1; have l_y1 := hW_y1.size; (first | (have hb_p_y1 := lt_blk hb_al; replace hb_al := blk_below hy_y1 hb_al (lt_blk hb_al)) | (have hb_al := blk_below hy_y1 (alloc_at _ (.cells #[.slice none 0 0, .slice none 0 0, .slice none 0 0] 34) _ rfl) (by simp)) | skip); (try simp only [World.size_drew] at hb_al); (try simp only [World.size_drew] at hb_p_y1)) | (go_at_call 13; refine (laws_toArray A _ (HAW1.out.below (B := w1.heap.size) (by (try go_split_ands); (repeat' (first | (with_reducible assumption) | (with_reducible refine Below.alloc ?_ ?_ _) | (with_reducible refine Below.drew ?_) | (with_reducible refine Below.setCell ?_ ?_ _) | (with_reducible exact Below.refl _ _) | (with_reducible exact Nat.le_refl _) | omega | (simp only [World.size_alloc, World.size_setCell, World.size_drew] <;> omega))); done) (Nat.le_refl _)) HT.out).mono ?_; rintro ex y2 ⟨Z, rfl, oZ, hcZ, hy_y2⟩; have hW_y2 : Below w1.heap.size w1 y2 := bthenS (by (try go_split_ands); (repeat' (first | (with_reducible assumption) | (with_reducible refine Below.alloc ?_ ?_ _) | (with_reducible refine Below.drew ?_) | (with_reducible refine Below.setCell ?_ ?_ _) | (with_reducible exact Below.refl _ _) | (with_reducible exact Nat.le_refl _) | omega | (simp only [World.size_alloc, World.size_setCell, World.size_drew] <;> omega))); done) hy_y2; have l_y2 := hW_y2.size; have HZ := hide oZ.is; have HCZ := hide hcZ; have HTZ := hide (show Z.tot ≤ 1048576 by rw [tot_con oZ.is, hcZ, ← tot_con HAW1.out]; exact HT.out); clear oZ hcZ; (first | (have hb_p_y2 := lt_blk hb_al; replace hb_al := blk_below hy_y2 hb_al (lt_blk hb_al)) | (have hb_al := blk_below hy_y2 (alloc_at _ (.cells #[.slice none 0 0, .slice none 0 0, .slice none 0 0] 34) _ rfl) (by simp)) | skip); (try simp only [World.size_drew] at hb_al); (try simp only [World.size_drew] at hb_p_y2)) | (go_at_call 28; refine (spec_ScrubAll g Z C' v code _ (by rw [HCZ.out]; exact HG.out) (HZ.out.below (B := y2.heap.size) (by (try go_split_ands); (repeat' (first | (with_reducible assumption) | (with_reducible refine Below.alloc ?_ ?_ _) | (with_reducible refine Below.drew ?_) | (with_reducible refine Below.setCell ?_ ?_ _) | (with_reducible exact Below.refl _ _) | (with_reducible exact Nat.le_refl _) | omega | (simp only [World.size_alloc, World.size_setCell, World.size_drew] <;> omega))); done) (Nat.le_refl _)) HTZ.out).mono ?_; rintro ex y3 ⟨Q, rfl, oQ, hcQ, hy_y3⟩; have hW_y3 : Below w1.heap.size w1 y3 := bthenS (by (try go_split_ands); (repeat' (first | (with_reducible assumption) | (with_reducible refine Below.alloc ?_ ?_ _) | (with_reducible refine Below.drew ?_) | (with_reducible refine Below.setCell ?_ ?_ _) | (with_reducible exact Below.refl _ _) | (with_reducible exact Nat.le_refl _) | omega | (simp only [World.size_alloc, World.size_setCell, World.size_drew] <;> omega))); done) hy_y3; have l_y3 := hW_y3.size; have HO := hide oQ; have HCQ := hide hcQ; clear oQ hcQ; (first | (have hb_p_y3 := lt_blk hb_al; replace hb_al := blk_below hy_y3 hb_al (lt_blk hb_al)) | (have hb_al := blk_below hy_y3 (alloc_at _ (.cells #[.slice none 0 0, .slice none 0 0, .slice none 0 0] 34) _ rfl) (by simp)) | skip); (try simp only [World.size_drew] at hb_al); (try simp only [World.size_drew] at hb_p_y3); (try (obtain ⟨hc0, hc1, hc2, hf0, hf1, hf2⟩ := cells3 hb_al; have hb_lt := lt_blk hb_al))))
        all_goals
          go_wp2_with fail
          go_meet
          first | (refine ⟨_, _, _, Q, rfl, rfl, rfl, Kept.late hW_y3 ?_ HO.out HCQ.out rfl⟩ <;> (first | omega | (simp only [World.size_alloc, World.size_drew] <;> omega))) | (refine ⟨_, _, _, Q, rfl, rfl, rfl, Kept.early hW_y3 ?_ HO.out HCQ.out hb_al ?_ ?_⟩ <;> (first | omega | (simp only [World.size_alloc, World.size_drew] <;> omega)))
      case rest =>
      obtain ⟨qp, lop, hip, Pp, rfl, rfl, rfl, hkp⟩ := hcut
      obtain ⟨c1, rfl⟩ : ∃ V : World, V = wc := ⟨_, rfl⟩
      have hw1 := hkp.below; have s2 := hw1.size; have kp := hkp.blk; have lp := lt_blk kp; have lp2 := hkp.bl; have HOP := hide hkp.own; have hhp := hkp.hh; have HCP := hide hkp.con; have llp := hkp.ll
      replace k0 := blk_below hw1 k0 (by omega)
      replace k1 := blk_below hw1 k1 (by omega)
      have HB2 := hide (bthen HB1.out hw1 (by omega)); have HAW2 := hide (HAW1.out.below hw1 (Nat.le_refl _)); clear hw1 hkp HB1 HAW1
      have e_A0 := cell_blk k1 0
      have e_A1 := cell_blk k1 1
      have e_A2 := cell_blk k1 2
      go_wp2_with fail
      refine (laws_toArray A _ HAW2.out HT.out).mono ?_
      rintro ex w2 ⟨X, rfl, oX, hcX, hw2⟩
      clear e_A0 e_A1 e_A2
      have hX2 : Below c1.heap.size c1 (w2.alloc (.cells #[.slice X.a X.n X.c, .slice X.ag.1.a X.ag.1.n X.ag.1.c, .slice X.ht.1.a X.ht.1.n X.ht.1.c] 34)) := Below.alloc hw2 hw2.size _
      have kx : (w2.alloc (.cells #[.slice X.a X.n X.c, .slice X.ag.1.a X.ag.1.n X.ag.1.c, .slice X.ht.1.a X.ht.1.n X.ht.1.c] 34)).heap[w2.heap.size]? = some (.cells #[.slice X.a X.n X.c, .slice X.ag.1.a X.ag.1.n X.ag.1.c, .slice X.ht.1.a X.ht.1.n X.ht.1.c] 34 (0, 0)) := alloc_at _ _ _ rfl
      have hsx : (w2.alloc (.cells #[.slice X.a X.n X.c, .slice X.ag.1.a X.ag.1.n X.ag.1.c, .slice X.ht.1.a X.ht.1.n X.ht.1.c] 34)).heap.size = w2.heap.size + 1 := by simp
      have HOX := hide (oX.below (w' := (w2.alloc (.cells #[.slice X.a X.n X.c, .slice X.ag.1.a X.ag.1.n X.ag.1.c, .slice X.ht.1.a X.ht.1.n X.ht.1.c] 34))) (Below.alloc (Below.refl _ _) (Nat.le_refl _) _) (Nat.le_refl _))
      have HCX := hide hcX; have HTX := hide (show X.tot = A.tot by rw [tot_con oX.is, hcX, ← tot_con HAW2.out])
      have s3 := hw2.size
      replace k0 := blk_below hX2 k0 (by omega)
      replace k1 := blk_below hX2 k1 (by omega)
      replace kp := blk_below hX2 kp (by omega)
      have HB3 := hide (bthen HB2.out hX2 (by omega)); have HOP3 := hide (HOP.out.below hX2 hhp); clear hX2 hw2 HB2 HAW2 HOP oX hcX
      go_upto_region 7 with fail
      generalize hW3 : (w2.alloc (.cells #[.slice X.a X.n X.c, .slice X.ag.1.a X.ag.1.n X.ag.1.c, .slice X.ht.1.a X.ht.1.n X.ht.1.c] 34)) = W3 at *
      clear hW3
      have hsx1 : w2.heap.size + 1 ≤ W3.heap.size := by omega
      have hsx2 : W3.heap.size ≤ w2.heap.size + 1 := by omega
      clear hsx
      have HB := HB3; have HOP := HOP3; clear HB3 HOP3
      have HIX := hide HOX.out.is; have HTXL := hide (show X.tot ≤ 1048576 by rw [HTX.out]; exact HT.out)
      have lx := lt_blk kx
      go_upto_region 7 with fail
      go_cut [10, 11, 12] (fun s0 s1 s2 wx => ∃ (b lo hi : Nat) (Q : Ar), s0 = .pointer (some ⟨b, 0, none⟩) ∧ s1 = .int .i64 v ∧ s2 = .int .i64 code ∧ Kept W3 wx Q b lo hi C')
      case first =>
        go_region_held3 (fun v => v.cell? ⟨w.heap.size, 0, none⟩ = some (.int .i64 g.gr) ∧ v.cell? ⟨w.heap.size, 1, none⟩ = some (.int .i64 g.bk) ∧ v.cell? ⟨w.heap.size, 2, none⟩ = some (.int .i64 g.rw) ∧ v.cell? ⟨w.heap.size, 3, none⟩ = some (.int .i64 g.cl) ∧ v.cell? ⟨w2.heap.size, 0, none⟩ = some (.slice X.a X.n X.c) ∧ v.cell? ⟨w2.heap.size, 1, none⟩ = some (.slice X.ag.1.a X.ag.1.n X.ag.1.c) ∧ v.cell? ⟨w2.heap.size, 2, none⟩ = some (.slice X.ht.1.a X.ht.1.n X.ht.1.c) ∧ Below W3.heap.size W3 v) (first | (refine keep_gX k0 kx ?_; (try go_split_ands); (repeat' (first | (with_reducible assumption) | (with_reducible refine Below.alloc ?_ ?_ _) | (with_reducible refine Below.drew ?_) | (with_reducible refine Below.setCell ?_ ?_ _) | (with_reducible exact Below.refl _ _) | (with_reducible exact Nat.le_refl _) | omega | (simp only [World.size_alloc, World.size_setCell, World.size_drew] <;> omega))); done)) (first | (go_at_call 12; refine (laws_toGeometry g _).mono ?_; rintro ex y1 ⟨rfl, hy_y1⟩; have hW_y1 : Below W3.heap.size W3 y1 := bthenS (by (try go_split_ands); (repeat' (first | (with_reducible assumption) | (with_reducible refine Below.alloc ?_ ?_ _) | (with_reducible refine Below.drew ?_) | (with_reducible refine Below.setCell ?_ ?_ _) | (with_reducible exact Below.refl _ _) | (with_reducible exact Nat.le_refl _) | omega | (simp only [World.size_alloc, World.size_setCell, World.size_drew] <;> omega))); done) hy_y1; have l_y1 := hW_y1.size; (first | (have hb_p_y1 := lt_blk hb_al; replace hb_al := blk_below hy_y1 hb_al (lt_blk hb_al)) | (have hb_al := blk_below hy_y1 (alloc_at _ (.cells #[.slice none 0 0, .slice none 0 0, .slice none 0 0] 34) _ rfl) (by simp)) | skip); (try simp only [World.size_drew] at hb_al); (try simp only [World.size_drew] at hb_p_y1)) | (go_at_call 29; refine (impl_ScrubAll g X C' v code _ (by rw [HCX.out]; exact HG.out) (HIX.out.below (B := W3.heap.size) (by (try go_split_ands); (repeat' (first | (with_reducible assumption) | (with_reducible refine Below.alloc ?_ ?_ _) | (with_reducible refine Below.drew ?_) | (with_reducible refine Below.setCell ?_ ?_ _) | (with_reducible exact Below.refl _ _) | (with_reducible exact Nat.le_refl _) | omega | (simp only [World.size_alloc, World.size_setCell, World.size_drew] <;> omega))); done) (Nat.le_refl _)) HTXL.out).mono ?_; rintro ex y2 ⟨Q, rfl, oQ, hcQ, hy_y2⟩; have hW_y2 : Below W3.heap.size W3 y2 := bthenS (by (try go_split_ands); (repeat' (first | (with_reducible assumption) | (with_reducible refine Below.alloc ?_ ?_ _) | (with_reducible refine Below.drew ?_) | (with_reducible refine Below.setCell ?_ ?_ _) | (with_reducible exact Below.refl _ _) | (with_reducible exact Nat.le_refl _) | omega | (simp only [World.size_alloc, World.size_setCell, World.size_drew] <;> omega))); done) hy_y2; have l_y2 := hW_y2.size; have HO := hide oQ; have HCQ := hide hcQ; clear oQ hcQ; (first | (have hb_p_y2 := lt_blk hb_al; replace hb_al := blk_below hy_y2 hb_al (lt_blk hb_al)) | (have hb_al := blk_below hy_y2 (alloc_at _ (.cells #[.slice none 0 0, .slice none 0 0, .slice none 0 0] 34) _ rfl) (by simp)) | skip); (try simp only [World.size_drew] at hb_al); (try simp only [World.size_drew] at hb_p_y2); (try (obtain ⟨hc0, hc1, hc2, hf0, hf1, hf2⟩ := cells3 hb_al; have hb_lt := lt_blk hb_al))))
        all_goals
          go_wp2_with fail
          go_meet
          first | (refine ⟨_, _, _, Q, rfl, rfl, rfl, Kept.late hW_y2 ?_ HO.out HCQ.out rfl⟩ <;> (first | omega | (simp only [World.size_alloc, World.size_drew] <;> omega))) | (refine ⟨_, _, _, Q, rfl, rfl, rfl, Kept.early hW_y2 ?_ HO.out HCQ.out hb_al ?_ ?_⟩ <;> (first | omega | (simp only [World.size_alloc, World.size_drew] <;> omega)))
      case rest =>
      obtain ⟨qg, log, hig, G, rfl, rfl, rfl, hkg⟩ := hcut
      obtain ⟨c2, rfl⟩ : ∃ V : World, V = wc := ⟨_, rfl⟩
      have hv := hkg.below; have s4 := hv.size; have kg := hkg.blk; have lg := lt_blk kg; have lg2 := hkg.bl; have lg3 := hkg.ll; have lg4 := hkg.hh; have HOG := hide hkg.own; have HCG := hide hkg.con; have lg5 := hkg.off
      replace k0 := blk_below hv k0 (by omega)
      replace k1 := blk_below hv k1 (by omega)
      replace kp := blk_below hv kp (by omega)
      replace kx := blk_below hv kx (by omega)
      replace HOP := hide (HOP.out.below hv (by omega))
      replace HOX := hide (HOX.out.below hv (by omega))
      replace HB := hide (bthen HB.out hv (by omega)); clear hv hkg HIX
      have HTG := hide (show G.tot = A.tot by rw [tot_con HOG.out.is, HCG.out]; exact HCT.out)
      have e_G0 := cell_blk kg 0
      have e_G1 := cell_blk kg 1
      have e_G2 := cell_blk kg 2
      have e_P0 := cell_blk kp 0
      have e_P1 := cell_blk kp 1
      have e_P2 := cell_blk kp 2
      go_wp2_with fail
      refine (laws_eqArray G Pp _ HOG.out.is HOP.out.is (HCG.out.trans HCP.out.symm)).mono ?_
      rintro ex v1 ⟨rfl, hv⟩
      have s_v1 := hv.size
      clear e_G0 e_G1 e_G2 e_P0 e_P1 e_P2
      replace k0 := blk_below hv k0 (by omega)
      replace k1 := blk_below hv k1 (by omega)
      replace kp := blk_below hv kp (by omega)
      replace kx := blk_below hv kx (by omega)
      replace kg := blk_below hv kg (by omega)
      replace HOP := hide (HOP.out.below hv (by omega))
      replace HOX := hide (HOX.out.below hv (by omega))
      replace HOG := hide (HOG.out.below hv (by omega))
      replace HB := hide (bthen HB.out hv (by omega)); clear hv
      have HIX := hide HOX.out.is; have HAV := hide (HA.out.below HB.out (Nat.le_refl _))
      go_upto_region 10 with fail
      go_region_held3 (fun v => v.cell? ⟨w.heap.size + 1, 0, none⟩ = some (.slice A.a A.n A.c) ∧ v.cell? ⟨w.heap.size + 1, 1, none⟩ = some (.slice A.ag.1.a A.ag.1.n A.ag.1.c) ∧ v.cell? ⟨w.heap.size + 1, 2, none⟩ = some (.slice A.ht.1.a A.ht.1.n A.ht.1.c) ∧ v.cell? ⟨w2.heap.size, 0, none⟩ = some (.slice X.a X.n X.c) ∧ v.cell? ⟨w2.heap.size, 1, none⟩ = some (.slice X.ag.1.a X.ag.1.n X.ag.1.c) ∧ v.cell? ⟨w2.heap.size, 2, none⟩ = some (.slice X.ht.1.a X.ht.1.n X.ht.1.c) ∧ Below v1.heap.size v1 v) (first | (refine keep_AX k1 kx ?_; (try go_split_ands); (repeat' (first | (with_reducible assumption) | (with_reducible refine Below.alloc ?_ ?_ _) | (with_reducible refine Below.drew ?_) | (with_reducible refine Below.setCell ?_ ?_ _) | (with_reducible exact Below.refl _ _) | (with_reducible exact Nat.le_refl _) | omega | (simp only [World.size_alloc, World.size_setCell, World.size_drew] <;> omega))); done)) (first | (go_at_call 13; refine (laws_toArray A _ (HAV.out.below (B := v1.heap.size) (by (try go_split_ands); (repeat' (first | (with_reducible assumption) | (with_reducible refine Below.alloc ?_ ?_ _) | (with_reducible refine Below.drew ?_) | (with_reducible refine Below.setCell ?_ ?_ _) | (with_reducible exact Below.refl _ _) | (with_reducible exact Nat.le_refl _) | omega | (simp only [World.size_alloc, World.size_setCell, World.size_drew] <;> omega))); done) (Nat.le_refl _)) HT.out).mono ?_; rintro ex y1 ⟨Z, rfl, oZ, hcZ, hy_y1⟩; have hW_y1 : Below v1.heap.size v1 y1 := bthenS (by (try go_split_ands); (repeat' (first | (with_reducible assumption) | (with_reducible refine Below.alloc ?_ ?_ _) | (with_reducible refine Below.drew ?_) | (with_reducible refine Below.setCell ?_ ?_ _) | (with_reducible exact Below.refl _ _) | (with_reducible exact Nat.le_refl _) | omega | (simp only [World.size_alloc, World.size_setCell, World.size_drew] <;> omega))); done) hy_y1; have l_y1 := hW_y1.size; have HZ := hide oZ.is; have HCZ := hide hcZ; have HTZ := hide (show Z.tot ≤ 1048576 by rw [tot_con oZ.is, hcZ, ← tot_con HAV.out]; exact HT.out); clear oZ hcZ; (first | (have hb_p_y1 := lt_blk hb_al; replace hb_al := blk_below hy_y1 hb_al (lt_blk hb_al)) | (have hb_al := blk_below hy_y1 (alloc_at _ (.cells #[.slice none 0 0, .slice none 0 0, .slice none 0 0] 34) _ rfl) (by simp)) | skip); (try simp only [World.size_drew] at hb_al); (try simp only [World.size_drew] at hb_p_y1)) | (go_at_call 16; refine (laws_eqArray X Z _ (HIX.out.below (B := v1.heap.size) (by (try go_split_ands); (repeat' (first | (with_reducible assumption) | (with_reducible refine Below.alloc ?_ ?_ _) | (with_reducible refine Below.drew ?_) | (with_reducible refine Below.setCell ?_ ?_ _) | (with_reducible exact Below.refl _ _) | (with_reducible exact Nat.le_refl _) | omega | (simp only [World.size_alloc, World.size_setCell, World.size_drew] <;> omega))); done) (Nat.le_refl _)) HZ.out (HCX.out.trans HCZ.out.symm)).mono ?_; rintro ex y2 ⟨rfl, hy_y2⟩; have hW_y2 : Below v1.heap.size v1 y2 := bthenS (by (try go_split_ands); (repeat' (first | (with_reducible assumption) | (with_reducible refine Below.alloc ?_ ?_ _) | (with_reducible refine Below.drew ?_) | (with_reducible refine Below.setCell ?_ ?_ _) | (with_reducible exact Below.refl _ _) | (with_reducible exact Nat.le_refl _) | omega | (simp only [World.size_alloc, World.size_setCell, World.size_drew] <;> omega))); done) hy_y2))
      obtain ⟨v2, rfl⟩ : ∃ V : World, V = y2 := ⟨_, rfl⟩
      have s_v2 := hW_y2.size
      replace k0 := blk_below hW_y2 k0 (by omega)
      replace k1 := blk_below hW_y2 k1 (by omega)
      replace kp := blk_below hW_y2 kp (by omega)
      replace kx := blk_below hW_y2 kx (by omega)
      replace kg := blk_below hW_y2 kg (by omega)
      replace HOP := hide (HOP.out.below hW_y2 (by omega))
      replace HOX := hide (HOX.out.below hW_y2 (by omega))
      replace HOG := hide (HOG.out.below hW_y2 (by omega))
      replace HB := hide (bthen HB.out hW_y2 (by omega)); clear hW_y2 hy_y2 HIX HAV
      have e_X0 := cell_blk kx 0
      have e_X1 := cell_blk kx 1
      have e_X2 := cell_blk kx 2
      go_wp2_with fail
      refine (laws_markArray c1.heap.size w2.heap.size X 1 A.tot _ (by omega) HTXL.out HTX.out (by omega) HOX.out).mono ?_
      rintro ex v3 ⟨rfl, oX3, hsv⟩
      clear e_X0 e_X1 e_X2
      have s_v3 := hsv.size
      replace k0 := blk_save hsv k0 (.inl (by omega))
      replace k1 := blk_save hsv k1 (.inl (by omega))
      replace kp := blk_save hsv kp (.inl (by omega))
      replace kx := blk_save hsv kx (.inr (by omega))
      replace kg := blk_save hsv kg (.inr (by omega))
      replace HOP := hide (HOP.out.save hsv (.inl (by omega))); replace HOG := hide (HOG.out.save hsv (.inr (by omega))); replace HB := hide (bthen HB.out (Save.belowB (B := w.heap.size) hsv (by omega) (by omega)) (Nat.le_refl _)); clear hsv oX3 HOX
      have e_G0 := cell_blk kg 0
      have e_G1 := cell_blk kg 1
      have e_G2 := cell_blk kg 2
      have e_P0 := cell_blk kp 0
      have e_P1 := cell_blk kp 1
      have e_P2 := cell_blk kp 2
      go_wp2_with fail
      refine (laws_eqArray G Pp _ HOG.out.is HOP.out.is (HCG.out.trans HCP.out.symm)).mono ?_
      rintro ex v4 ⟨rfl, hv⟩
      have s_v4 := hv.size
      clear e_G0 e_G1 e_G2 e_P0 e_P1 e_P2
      replace k0 := blk_below hv k0 (by omega)
      replace k1 := blk_below hv k1 (by omega)
      replace kp := blk_below hv kp (by omega)
      replace kx := blk_below hv kx (by omega)
      replace kg := blk_below hv kg (by omega)
      replace HOP := hide (HOP.out.below hv (by omega))
      replace HOG := hide (HOG.out.below hv (by omega))
      replace HB := hide (bthen HB.out hv (by omega)); clear hv
      have e_G0 := cell_blk kg 0
      have e_G1 := cell_blk kg 1
      have e_G2 := cell_blk kg 2
      go_wp2_with fail
      refine (laws_markArray log hig G 1 A.tot _ (by omega) (by rw [HTG.out]; exact HT.out) HTG.out (by omega) HOG.out).mono ?_
      rintro ex v5 ⟨rfl, oG5, hsv⟩
      clear e_G0 e_G1 e_G2
      have s_v5 := hsv.size
      replace k0 := blk_save hsv k0 (.inl (by omega))
      replace k1 := blk_save hsv k1 (.inl (by omega))
      replace kp := blk_save hsv kp (.inl (by omega))
      replace kx := blk_save hsv kx (.inl (by omega))
      replace kg := blk_save hsv kg lg5
      replace HOP := hide (HOP.out.save hsv (.inl (by omega))); replace HB := hide (bthen HB.out (Save.belowB (B := w.heap.size) hsv (by omega) (by omega)) (Nat.le_refl _)); have HOM := hide oG5; clear hsv oG5 HOG
      have e_G0 := cell_blk kg 0
      have e_G1 := cell_blk kg 1
      have e_G2 := cell_blk kg 2
      go_wp2_with fail
      refine (laws_heldArray G 1 A.tot _ (by omega) (by rw [HTG.out]; exact HT.out) HTG.out HOM.out.is).mono ?_
      rintro ex v6 ⟨rfl, hv⟩
      have s_v6 := hv.size
      clear e_G0 e_G1 e_G2
      replace k0 := blk_below hv k0 (by omega)
      replace k1 := blk_below hv k1 (by omega)
      replace kp := blk_below hv kp (by omega)
      replace kx := blk_below hv kx (by omega)
      replace kg := blk_below hv kg (by omega)
      replace HOP := hide (HOP.out.below hv (by omega))
      replace HOM := hide (HOM.out.below hv (by omega))
      replace HB := hide (bthen HB.out hv (by omega)); clear hv
      have HAV := hide (HA.out.below HB.out (Nat.le_refl _))
      go_upto_region 24 with fail
      go_cut [16, 17, 18] (fun s0 s1 s2 wx => ∃ (b lo hi : Nat) (Q : Ar), s0 = .pointer (some ⟨b, 0, none⟩) ∧ s1 = .int .i64 v ∧ s2 = .int .i64 code ∧ Kept v6 wx Q b lo hi C')
      case first =>
        go_region_held3 (fun v => v.cell? ⟨w.heap.size, 0, none⟩ = some (.int .i64 g.gr) ∧ v.cell? ⟨w.heap.size, 1, none⟩ = some (.int .i64 g.bk) ∧ v.cell? ⟨w.heap.size, 2, none⟩ = some (.int .i64 g.rw) ∧ v.cell? ⟨w.heap.size, 3, none⟩ = some (.int .i64 g.cl) ∧ v.cell? ⟨w.heap.size + 1, 0, none⟩ = some (.slice A.a A.n A.c) ∧ v.cell? ⟨w.heap.size + 1, 1, none⟩ = some (.slice A.ag.1.a A.ag.1.n A.ag.1.c) ∧ v.cell? ⟨w.heap.size + 1, 2, none⟩ = some (.slice A.ht.1.a A.ht.1.n A.ht.1.c) ∧ Below v6.heap.size v6 v) (first | (refine keep_gA k0 k1 ?_; (try go_split_ands); (repeat' (first | (with_reducible assumption) | (with_reducible refine Below.alloc ?_ ?_ _) | (with_reducible refine Below.drew ?_) | (with_reducible refine Below.setCell ?_ ?_ _) | (with_reducible exact Below.refl _ _) | (with_reducible exact Nat.le_refl _) | omega | (simp only [World.size_alloc, World.size_setCell, World.size_drew] <;> omega))); done)) (first | (go_at_call 12; refine (laws_toGeometry g _).mono ?_; rintro ex y1 ⟨rfl, hy_y1⟩; have hW_y1 : Below v6.heap.size v6 y1 := bthenS (by (try go_split_ands); (repeat' (first | (with_reducible assumption) | (with_reducible refine Below.alloc ?_ ?_ _) | (with_reducible refine Below.drew ?_) | (with_reducible refine Below.setCell ?_ ?_ _) | (with_reducible exact Below.refl _ _) | (with_reducible exact Nat.le_refl _) | omega | (simp only [World.size_alloc, World.size_setCell, World.size_drew] <;> omega))); done) hy_y1; have l_y1 := hW_y1.size; (first | (have hb_p_y1 := lt_blk hb_al; replace hb_al := blk_below hy_y1 hb_al (lt_blk hb_al)) | (have hb_al := blk_below hy_y1 (alloc_at _ (.cells #[.slice none 0 0, .slice none 0 0, .slice none 0 0] 34) _ rfl) (by simp)) | skip); (try simp only [World.size_drew] at hb_al); (try simp only [World.size_drew] at hb_p_y1)) | (go_at_call 13; refine (laws_toArray A _ (HAV.out.below (B := v6.heap.size) (by (try go_split_ands); (repeat' (first | (with_reducible assumption) | (with_reducible refine Below.alloc ?_ ?_ _) | (with_reducible refine Below.drew ?_) | (with_reducible refine Below.setCell ?_ ?_ _) | (with_reducible exact Below.refl _ _) | (with_reducible exact Nat.le_refl _) | omega | (simp only [World.size_alloc, World.size_setCell, World.size_drew] <;> omega))); done) (Nat.le_refl _)) HT.out).mono ?_; rintro ex y2 ⟨Z, rfl, oZ, hcZ, hy_y2⟩; have hW_y2 : Below v6.heap.size v6 y2 := bthenS (by (try go_split_ands); (repeat' (first | (with_reducible assumption) | (with_reducible refine Below.alloc ?_ ?_ _) | (with_reducible refine Below.drew ?_) | (with_reducible refine Below.setCell ?_ ?_ _) | (with_reducible exact Below.refl _ _) | (with_reducible exact Nat.le_refl _) | omega | (simp only [World.size_alloc, World.size_setCell, World.size_drew] <;> omega))); done) hy_y2; have l_y2 := hW_y2.size; have HZ := hide oZ.is; have HCZ := hide hcZ; have HTZ := hide (show Z.tot ≤ 1048576 by rw [tot_con oZ.is, hcZ, ← tot_con HAV.out]; exact HT.out); clear oZ hcZ; (first | (have hb_p_y2 := lt_blk hb_al; replace hb_al := blk_below hy_y2 hb_al (lt_blk hb_al)) | (have hb_al := blk_below hy_y2 (alloc_at _ (.cells #[.slice none 0 0, .slice none 0 0, .slice none 0 0] 34) _ rfl) (by simp)) | skip); (try simp only [World.size_drew] at hb_al); (try simp only [World.size_drew] at hb_p_y2)) | (go_at_call 29; refine (impl_ScrubAll g Z C' v code _ (by rw [HCZ.out]; exact HG.out) (HZ.out.below (B := y2.heap.size) (by (try go_split_ands); (repeat' (first | (with_reducible assumption) | (with_reducible refine Below.alloc ?_ ?_ _) | (with_reducible refine Below.drew ?_) | (with_reducible refine Below.setCell ?_ ?_ _) | (with_reducible exact Below.refl _ _) | (with_reducible exact Nat.le_refl _) | omega | (simp only [World.size_alloc, World.size_setCell, World.size_drew] <;> omega))); done) (Nat.le_refl _)) HTZ.out).mono ?_; rintro ex y3 ⟨Q, rfl, oQ, hcQ, hy_y3⟩; have hW_y3 : Below v6.heap.size v6 y3 := bthenS (by (try go_split_ands); (repeat' (first | (with_reducible assumption) | (with_reducible refine Below.alloc ?_ ?_ _) | (with_reducible refine Below.drew ?_) | (with_reducible refine Below.setCell ?_ ?_ _) | (with_reducible exact Below.refl _ _) | (with_reducible exact Nat.le_refl _) | omega | (simp only [World.size_alloc, World.size_setCell, World.size_drew] <;> omega))); done) hy_y3; have l_y3 := hW_y3.size; have HO := hide oQ; have HCQ := hide hcQ; clear oQ hcQ; (first | (have hb_p_y3 := lt_blk hb_al; replace hb_al := blk_below hy_y3 hb_al (lt_blk hb_al)) | (have hb_al := blk_below hy_y3 (alloc_at _ (.cells #[.slice none 0 0, .slice none 0 0, .slice none 0 0] 34) _ rfl) (by simp)) | skip); (try simp only [World.size_drew] at hb_al); (try simp only [World.size_drew] at hb_p_y3); (try (obtain ⟨hc0, hc1, hc2, hf0, hf1, hf2⟩ := cells3 hb_al; have hb_lt := lt_blk hb_al))))
        all_goals
          go_wp2_with fail
          go_meet
          first | (refine ⟨_, _, _, Q, rfl, rfl, rfl, Kept.late hW_y3 ?_ HO.out HCQ.out rfl⟩ <;> (first | omega | (simp only [World.size_alloc, World.size_drew] <;> omega))) | (refine ⟨_, _, _, Q, rfl, rfl, rfl, Kept.early hW_y3 ?_ HO.out HCQ.out hb_al ?_ ?_⟩ <;> (first | omega | (simp only [World.size_alloc, World.size_drew] <;> omega)))
      case rest =>
      obtain ⟨qh, loh, hih, H, rfl, rfl, rfl, hkh⟩ := hcut
      obtain ⟨c3, rfl⟩ : ∃ V : World, V = wc := ⟨_, rfl⟩
      have hv := hkh.below; have s9 := hv.size; have kh := hkh.blk; have lh := lt_blk kh; have HOH := hide hkh.own; have HCH := hide hkh.con; have lh4 := hkh.hh
      replace k0 := blk_below hv k0 (by omega)
      replace k1 := blk_below hv k1 (by omega)
      replace kp := blk_below hv kp (by omega)
      replace kx := blk_below hv kx (by omega)
      replace kg := blk_below hv kg (by omega)
      replace HOP := hide (HOP.out.below hv (by omega))
      replace HOM := hide (HOM.out.below hv (by omega))
      replace HB := hide (bthen HB.out hv (by omega)); clear hv hkh HAV
      have e_H0 := cell_blk kh 0
      have e_H1 := cell_blk kh 1
      have e_H2 := cell_blk kh 2
      have e_P0 := cell_blk kp 0
      have e_P1 := cell_blk kp 1
      have e_P2 := cell_blk kp 2
      go_wp2_with fail
      refine (laws_eqArray H Pp _ HOH.out.is HOP.out.is (HCH.out.trans HCP.out.symm)).mono ?_
      rintro ex v7 ⟨rfl, hv⟩
      have s_v7 := hv.size
      clear e_H0 e_H1 e_H2 e_P0 e_P1 e_P2
      replace k0 := blk_below hv k0 (by omega)
      replace k1 := blk_below hv k1 (by omega)
      replace kp := blk_below hv kp (by omega)
      replace kx := blk_below hv kx (by omega)
      replace kg := blk_below hv kg (by omega)
      replace kh := blk_below hv kh (by omega)
      replace HOP := hide (HOP.out.below hv (by omega))
      replace HOM := hide (HOM.out.below hv (by omega))
      replace HOH := hide (HOH.out.below hv (by omega))
      replace HB := hide (bthen HB.out hv (by omega)); clear hv
      have e_G0 := cell_blk kg 0
      have e_G1 := cell_blk kg 1
      have e_G2 := cell_blk kg 2
      go_wp2_with fail
      refine (laws_heldArray G 1 A.tot _ (by omega) (by rw [HTG.out]; exact HT.out) HTG.out HOM.out.is).mono ?_
      rintro ex v8 ⟨rfl, hv⟩
      have s_v8 := hv.size
      clear e_G0 e_G1 e_G2
      replace k0 := blk_below hv k0 (by omega)
      replace k1 := blk_below hv k1 (by omega)
      replace kp := blk_below hv kp (by omega)
      replace kx := blk_below hv kx (by omega)
      replace kg := blk_below hv kg (by omega)
      replace kh := blk_below hv kh (by omega)
      replace HOP := hide (HOP.out.below hv (by omega))
      replace HOM := hide (HOM.out.below hv (by omega))
      replace HOH := hide (HOH.out.below hv (by omega))
      replace HB := hide (bthen HB.out hv (by omega)); clear hv
      go_wp2_with fail
      go_ret
      exact ⟨rfl, HB.out⟩
    · have HA := hide hA
      have hsz := szI_no (l := 1048576) (m := A.tot) (by omega)
      clear hA
      go_enter Try.func7, Try.ntmps7
      go_wp2_with fail
      refine (laws_szArray A _ _ _ (HA.out.below (B := w.heap.size) (by go_grown) (Nat.le_refl _)) (by omega) (by omega) hsz).mono ?_
      rintro e w1 ⟨rfl, h1⟩
      have s1 := h1.size
      try simp only [World.size_alloc, World.size_setCell, World.size_drew, World.heap_drewN] at s1
      have B1_1 := h1
      have z1_0 : w.heap.size < w1.heap.size := by omega
      have q1_0 := fun o => (bcell B1_1).1 (w.heap.size) o (by go_size)
      have f1_0 := fun o => (bcell B1_1).2 (w.heap.size) o (by go_size)
      have z1_1 : w.heap.size + 1 < w1.heap.size := by omega
      have q1_1 := fun o => (bcell B1_1).1 (w.heap.size + 1) o (by go_size)
      have f1_1 := fun o => (bcell B1_1).2 (w.heap.size + 1) o (by go_size)
      have H1 : Below w.heap.size w w1 := bthen (by repeat' (first | (with_reducible exact Below.refl _ _) | (with_reducible assumption) | (with_reducible refine bdrawn ?_ _) | (with_reducible refine Below.alloc ?_ ?_ _) | (with_reducible refine Below.drew ?_) | (with_reducible refine Below.setCell ?_ ?_ _) | go_size)) h1 (by go_size)
      have C1 := (bcell H1).1; have F1 := (bcell H1).2
      go_wp2_with fail
      go_ret
      exact ⟨rfl, H1⟩
  subst hAe hge
  exact goal
set_option maxRecDepth 100000 in
theorem FnExactScrubAll_lifted (os : Os) (started : os.Started) (H : Type) (enc : TypeId × Value → H) :
    ReturnsInHanded {} Try.checked os 7 .any (Rows.fnExactScrubAllSpec.pre6 enc Try.prog Try.f7 Rows.fnExactScrubAllRow.domain false) (Rows.fnExactScrubAllSpec.post enc Try.prog Try.f7 false true false false) := by
  refine returnsInHanded_of_change (C := Try.checked) try_own started (by kernel_rfl) Try.func7
    (ChangeSpec.witness6 (enc := enc) (C := Try.checked) false ⟨#[], #[.agg #[.int .i64 0, .int .i64 0, .int .i64 0, .int .i64 0], .agg #[.slice none 0 0, .slice none 0 0, .slice none 0 0]], []⟩ 8 (by kernel_rfl) (by kernel_rfl) (by kernel_rfl) (by kernel_rfl)) ?_
  intro W base args ds gs before hval0 hW _ _
  have hval : ∀ (j : Nat) t v, Try.f7.params[j]? = some t → args[j]? = some v → Value.okWide Try.prog W .any base t v := hval0
  have hW' := hW
  obtain ⟨p, q, hA0, hV, rfl, hfz, hnd⟩ := hW
  have hA : DataW.TrodAll enc Try.prog W 0 (fun _ => true) true Try.f7.params.toList args.toList ds p := hA0
  rw [Try.params7] at hA hval
  obtain ⟨v0, vs0, d0, ds0, p0, q0, hargs, rfl, rfl, h0, r0⟩ := trodAll_cons hA
  obtain ⟨v1, vs1, d1, ds1, p1, q1, rfl, rfl, rfl, h1, r1⟩ := trodAll_cons r0
  obtain ⟨rfl, rfl, rfl⟩ := trodAll_nil r1
  obtain rfl : args = #[v0, v1] := by cases args; simp_all
  obtain ⟨rfl, rfl⟩ := trodVars_none hV
  have k0 := h0
  have lt0 : ∀ x ∈ p0, x.block < W.heap.size := by obtain ⟨m, hm⟩ := k0; exact DataW.trod_lt m _ _ _ hm
  have k1 := h1
  have lt1 : ∀ x ∈ p1, x.block < W.heap.size := by obtain ⟨m, hm⟩ := k1; exact DataW.trod_lt m _ _ _ hm
  obtain ⟨v0_0, v0_1, v0_2, v0_3, y0_0, y0_1, y0_2, y0_3, m0, rfl, rfl, _, hy0_0, hy0_1, hy0_2, hy0_3⟩ := open_agg4 Try.underlying23 (by kernel_rfl) (by kernel_rfl) (hval 0 23 v0 rfl rfl) h0
  obtain ⟨x0_0, e_x0_0, rfl, w_x0_0⟩ := DataW.trod_int Try.underlying3 hy0_0
  obtain ⟨x0_1, e_x0_1, rfl, w_x0_1⟩ := DataW.trod_int Try.underlying3 hy0_1
  obtain ⟨x0_2, e_x0_2, rfl, w_x0_2⟩ := DataW.trod_int Try.underlying3 hy0_2
  obtain ⟨x0_3, e_x0_3, rfl, w_x0_3⟩ := DataW.trod_int Try.underlying3 hy0_3
  obtain ⟨v1_0, v1_1, v1_2, y1_0, y1_1, y1_2, m1, rfl, rfl, _, hy1_0, hy1_1, hy1_2⟩ := open_agg3 Try.underlying27 (by kernel_rfl) (by kernel_rfl) (hval 1 27 v1 rfl rfl) h1
  obtain ⟨a_x1_0, n_x1_0, c_x1_0, x1_0, e_x1_0, w_x1_0⟩ := isCells_of hy1_0
  obtain ⟨a_x1_1, n_x1_1, c_x1_1, x1_1, e_x1_1, w_x1_1⟩ := isInts_of Try.underlying25 Try.underlying3 (by kernel_rfl) hy1_1
  obtain ⟨a_x1_2, n_x1_2, c_x1_2, x1_2, e_x1_2, w_x1_2⟩ := isInts_of Try.underlying25 Try.underlying3 (by kernel_rfl) hy1_2
  simp only [List.cons.injEq, and_true] at e_x0_0; subst e_x0_0
  simp only [List.cons.injEq, and_true] at e_x0_1; subst e_x0_1
  simp only [List.cons.injEq, and_true] at e_x0_2; subst e_x0_2
  simp only [List.cons.injEq, and_true] at e_x0_3; subst e_x0_3
  simp only [List.cons.injEq, and_true] at e_x1_0; subst e_x1_0
  simp only [List.cons.injEq, and_true] at e_x1_1; subst e_x1_1
  simp only [List.cons.injEq, and_true] at e_x1_2; subst e_x1_2
  clear hA0 hval0
  refine (FnExactScrubAll_walk x0_0 x0_1 x0_2 x0_3 a_x1_0 n_x1_0 c_x1_0 x1_0 a_x1_1 n_x1_1 c_x1_1 x1_1 a_x1_2 n_x1_2 c_x1_2 x1_2 W w_x1_0 w_x1_1 w_x1_2).mono fun e W' ⟨he, bel⟩ => ?_
  subst he
  exact ⟨_, rfl, _, _, _, [], _, [], hW', trodAll_mk1 (shut_bool Try.underlying4 _), (trodAll_cons_mk (Below.trod try_laidOut (by kernel_rfl) (of_decide_eq_true (by kernel_rfl)) k0 bel lt0) (trodAll_cons_mk (Below.trod try_laidOut (by kernel_rfl) (of_decide_eq_true (by kernel_rfl)) k1 bel lt1) trodAll_mk0)), rfl, bel.frame _, fun h => by cases h⟩

theorem FnExactScrubAll_holds : Rows.FnExactScrubAllSaid :=
  OpenClaim.holds_of_wide 7 Try.f7 rfl rfl rfl rfl rfl rfl rfl ⟨rfl, rfl, rfl, rfl, rfl⟩ rfl rfl rfl rfl rfl (by kernel_rfl) Try.func7 (by kernel_rfl)
    (of_decide_eq_true (by kernel_rfl)) (by unfold Func.isWrapper; rw [if_neg (of_decide_eq_false (by kernel_rfl))]; exact ⟨rfl, rfl⟩)
    (fun os started H enc _ => FnExactScrubAll_lifted os started H enc)
#print axioms FnExactScrubAll_holds
end Go.Proofs.Ytkhcepmileiejaa
