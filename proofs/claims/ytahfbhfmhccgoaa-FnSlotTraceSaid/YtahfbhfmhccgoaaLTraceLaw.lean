/- The commands of a fixed schedule satisfy all timing rules: for every drawn input FnSlotTrace answers true. No condition. -/
import Derived.Test.YtahfbhfmhccgoaaTraB
import Derived.Test.YtahfbhfmhccgoaaTraD
import Derived.Test.YtahfbhfmhccgoaaFlt10
import Derived.Test.YtahfbhfmhccgoaaTraceP
set_option linter.unusedSimpArgs false
set_option linter.unusedVariables false
namespace Go.Proofs.Ytahfbhfmhccgoaa
open Go.RowKit Go.ChangeShapes Go.WideShapes Go.ChangeAt Go.Joins Go.Deep
open Go.ChangeMaps (open_string shut_string)
theorem impl_SlotNeed_z (t : Tm) (v : Int) (h : slotNeed t = v) (w : World) : Calls Try.prog 49 #[.agg (tmC t).toArray] w fun e w' => e = .returned (.int .i64 v) ∧ Below w.heap.size w w' := by subst h; exact impl_SlotNeed t w
theorem tmWR_cells (W R : Int) : (((tmC fast).toArray.setIfInBounds 9 (.int .i64 W)).setIfInBounds 12 (.int .i64 R)) = (tmC (tmWR W R)).toArray := rfl
set_option maxRecDepth 100000 in
set_option maxHeartbeats 8000000 in
theorem FnSlotTrace_walk (a : Option Addr) (n c : Nat) (zs0 : List Int) (w : World) (ha : IsInts .u8 w a n c zs0) :
    Calls Try.prog 10 #[.slice a n c] w fun e w' => e = .returned (.bool true) ∧ Below w.heap.size w w' := by
  have hm : c ≤ 9223372036854775807 := ha.2.2.1
  have hc := ha.2.1
  by_cases hs : n ≤ 1048576
  · have HA := hide ha
    clear ha
    go_enter Try.func10, Try.ntmps10
    go_wp2_with fail
    refine (laws_big a n c _ hs).mono ?_
    rintro e w' ⟨rfl, rfl⟩
    go_wp2_with fail
    refine (spec_DrawBatch a n c zs0 w HA.out hs).mono ?_
    rintro e w1 ⟨g, mo, mh, a1, m1, c1, zs, l, a2, m2, c2, es, hg, hrw, hcl, mo0, mo1, n1a, n1b, l0, l1, n2b, rfl, hz, hzb, he, hbk, h1⟩
    have HG := hide hg; have HZ1 := hide hz; have HZB := hide hzb; have HE1 := hide he; have HBK := hide hbk; have H1 := hide h1
    have hc1 := hz.2.1; have hcm1 : c1 ≤ 9223372036854775807 := hz.2.2.1
    have hc2 := he.2.1; have hcm2 : c2 ≤ 9223372036854775807 := he.2.2.1
    have s1 := h1.size
    clear hg hz hzb he hbk h1 hrw hcl
    go_wp2_with fail
    refine (spec_FastTiming _).mono ?_
    rintro e w2 ⟨rfl, h2⟩
    have KG2 := hide (show w2.heap[w1.heap.size]? = some (.cells #[.int .i64 g.gr, .int .i64 g.bk, .int .i64 g.rw, .int .i64 g.cl] 43 (0, 0)) from (h2.block _ (by simp only [World.size_alloc]; omega)).trans ((alloc_lt _ _ _ (by simp only [World.size_alloc]; omega)).trans ((alloc_lt _ _ _ (by simp only [World.size_alloc]; omega)).trans (alloc_at _ _ _ rfl))))
    have KM2 := hide (show w2.heap[w1.heap.size + 1]? = some (.cells #[.int .i64 mo, .bool mh] 45 (0, 0)) from (h2.block _ (by simp only [World.size_alloc]; omega)).trans ((alloc_lt _ _ _ (by simp only [World.size_alloc]; omega)).trans (alloc_at _ _ _ (by simp only [World.size_alloc]))))
    have KS2 := hide (show w2.heap[w1.heap.size + 1 + 1]? = some (.cells #[.slice a1 m1 c1, .int .i64 l] 48 (0, 0)) from (h2.block _ (by simp only [World.size_alloc]; omega)).trans (alloc_at _ _ _ (by simp only [World.size_alloc])))
    have hB2 : Below w1.heap.size w1 w2 := bthen (show Below w1.heap.size w1 (((w1.alloc (.cells #[.int .i64 g.gr, .int .i64 g.bk, .int .i64 g.rw, .int .i64 g.cl] 43)).alloc (.cells #[.int .i64 mo, .bool mh] 45)).alloc (.cells #[.slice a1 m1 c1, .int .i64 l] 48)) by go_grown) h2 (by simp only [World.size_alloc]; omega)
    have HB2 := hide hB2
    have s2 : w1.heap.size + 3 ≤ w2.heap.size := by have := h2.size; simp only [World.size_alloc] at this; omega
    clear h2 hB2
    have hst := store_tmF fast w2 (#[.int .i64 0, .int .i64 0, .int .i64 0, .int .i64 0, .int .i64 0, .int .i64 0, .int .i64 0, .int .i64 0, .int .i64 0, .int .i64 0, .int .i64 0, .int .i64 0, .int .i64 0, .int .i64 0, .int .i64 0, .int .i64 0, .int .i64 0]) rfl
    go_wp2_with fail
    have hA2 : Below w1.heap.size w1 (w2.alloc (.cells (tmC fast).toArray 73)) := HB2.out.alloc (by omega) _
    refine (spec_DrawPlaces a n c zs0 _ (HA.out.below (B := w.heap.size) (bthen H1.out hA2 s1) (Nat.le_refl _)) hs).mono ?_
    rintro e w3 ⟨a3, c3, ps, rfl, hown, hpl, hpb, h3⟩
    have s3 := h3.size
    simp only [World.size_alloc] at s3
    obtain ⟨P, rfl, hg0, hg1, hcell⟩ := own_some hown (by omega)
    have hget : ∀ j, j < 12 → ∃ z : Int, w3.cell? ⟨P, j, none⟩ = some (.int .i64 z) ∧ 0 ≤ z ∧ z ≤ 9999 := fun j hj => by
      have hp0 := hcell j hj
      obtain ⟨z, hz⟩ : ∃ z, ps[j]? = some z := ⟨_, List.getElem?_eq_getElem (by omega)⟩
      rw [List.getElem?_map, hz] at hp0
      exact ⟨z, hp0, hpb z (List.mem_of_getElem? hz)⟩
    obtain ⟨P0, e_p0, p00, p01⟩ := hget 0 (by omega)
    obtain ⟨P1, e_p1, p10, p11⟩ := hget 1 (by omega)
    obtain ⟨P2, e_p2, p20, p21⟩ := hget 2 (by omega)
    have KT3 := hide (show w3.heap[w2.heap.size]? = some (.cells (tmC fast).toArray 73 (0, 0)) from (h3.block _ (by simp)).trans (alloc_at _ _ _ rfl))
    have KG3 := hide ((h3.block _ (by simp; omega)).trans ((alloc_lt _ _ _ (by omega)).trans KG2.out))
    have KM3 := hide ((h3.block _ (by simp; omega)).trans ((alloc_lt _ _ _ (by omega)).trans KM2.out))
    have KS3 := hide ((h3.block _ (by simp; omega)).trans ((alloc_lt _ _ _ (by omega)).trans KS2.out))
    have HB3 := hide (bthen hA2 h3 (by simp; omega))
    have hPn : w2.heap.size < P := by simp only [World.size_alloc] at hg0; omega
    have hPs : P < w3.heap.size := by omega
    clear hown hpl hpb h3 hcell hget hg0 hg1 KG2 KM2 KS2 HB2 hst hA2
    obtain ⟨pg, hpg⟩ : ∃ x, w1.heap.size = x := ⟨_, rfl⟩
    obtain ⟨pm, hpm⟩ : ∃ x, w1.heap.size + 1 = x := ⟨_, rfl⟩
    obtain ⟨psl, hpsl⟩ : ∃ x, w1.heap.size + 1 + 1 = x := ⟨_, rfl⟩
    have q1 : w1.heap.size ≤ pg := by omega
    have q2 : pg < pm := by omega
    have q3 : pm < psl := by omega
    have q4 : psl < w2.heap.size := by omega
    rw [hpg] at KG3
    rw [hpm] at KM3
    rw [hpsl] at KS3
    rw [hpsl, hpm, hpg]
    clear hpg hpm hpsl
    obtain ⟨pt, hpt⟩ : ∃ x, w2.heap.size = x := ⟨_, rfl⟩
    rw [hpt] at KT3 hPn q4 ⊢
    have q5 : w1.heap.size < pt := by omega
    have s3b : pt < w3.heap.size := by omega
    clear hpt s2 s3
    obtain ⟨M0, hM0⟩ : ∃ M, P0.tmod 10 = M := ⟨_, rfl⟩
    have M0b : 0 ≤ M0 ∧ M0 ≤ 9 := by have h1 : P0.tmod 10 = P0 % 10 := Int.tmod_eq_emod_of_nonneg p00; omega
    obtain ⟨M1, hM1⟩ : ∃ M, P1.tmod 12 = M := ⟨_, rfl⟩
    have M1b : 0 ≤ M1 ∧ M1 ≤ 11 := by have h1 : P1.tmod 12 = P1 % 12 := Int.tmod_eq_emod_of_nonneg p10; omega
    obtain ⟨M2, hM2⟩ : ∃ M, P2.tmod 4 = M := ⟨_, rfl⟩
    have M2b : 0 ≤ M2 ∧ M2 ≤ 3 := by have h1 : P2.tmod 4 = P2 % 4 := Int.tmod_eq_emod_of_nonneg p20; omega
    obtain ⟨Wr, hWr⟩ : ∃ x, 1 + M0 = x := ⟨_, rfl⟩
    obtain ⟨Rt, hRt⟩ : ∃ x, 1 + M1 = x := ⟨_, rfl⟩
    have wW : IntKind.i64.wrap (1 + M0) = Wr := (IntWalk.i64_in _ (by omega)).trans hWr
    have wR : IntKind.i64.wrap (1 + M1) = Rt := (IntWalk.i64_in _ (by omega)).trans hRt
    have HW := hide (show 1 ≤ Wr ∧ Wr ≤ 10 by omega)
    have HR := hide (show 1 ≤ Rt ∧ Rt ≤ 12 by omega)
    have HM2 := hide hM2
    clear hM2 M0b M1b hWr hRt
    have t9 := cell_blk KT3.out 9; have t12 := cell_blk KT3.out 12; have tf := fun o => free_blk KT3.out o
    go_upto_region 8 with fail
    have KT4 := hide (show ((w3.setCell ⟨pt, 9, none⟩ (.int .i64 Wr)).setCell ⟨pt, 12, none⟩ (.int .i64 Rt)).heap[pt]? = some (.cells (tmC (tmWR Wr Rt)).toArray 73 (0, 0)) from set_lit (set_lit KT3.out rfl) (tmWR_cells Wr Rt))
    have KG4 := hide ((heap_set_other (w3.setCell ⟨pt, 9, none⟩ (.int .i64 Wr)) pt 12 _ (.int .i64 Rt) (show ¬ pg = pt by omega)).trans ((heap_set_other _ _ _ _ _ (show ¬ pg = pt by omega)).trans KG3.out))
    have KM4 := hide ((heap_set_other (w3.setCell ⟨pt, 9, none⟩ (.int .i64 Wr)) pt 12 _ (.int .i64 Rt) (show ¬ pm = pt by omega)).trans ((heap_set_other _ _ _ _ _ (show ¬ pm = pt by omega)).trans KM3.out))
    have KS4 := hide ((heap_set_other (w3.setCell ⟨pt, 9, none⟩ (.int .i64 Wr)) pt 12 _ (.int .i64 Rt) (show ¬ psl = pt by omega)).trans ((heap_set_other _ _ _ _ _ (show ¬ psl = pt by omega)).trans KS3.out))
    have HB4 := hide ((HB3.out.setCell (p := ⟨pt, 9, none⟩) (by simp; omega) (.int .i64 Wr)).setCell (p := ⟨pt, 12, none⟩) (by simp; omega) (.int .i64 Rt))
    have E4 := hide (show ((w3.setCell ⟨pt, 9, none⟩ (.int .i64 Wr)).setCell ⟨pt, 12, none⟩ (.int .i64 Rt)).cell? ⟨P, 2, none⟩ = some (.int .i64 P2) by
      have h1 := only_cell (only_set (b := pt) (o := 12) (only_set (b := pt) (o := 9) (only_refl w3 (some pt)) (.int .i64 Wr)) (.int .i64 Rt)) hPs (show P ≠ pt by omega) (o := 2)
      exact h1.trans e_p2)
    have s4 : w3.heap.size ≤ ((w3.setCell ⟨pt, 9, none⟩ (.int .i64 Wr)).setCell ⟨pt, 12, none⟩ (.int .i64 Rt)).heap.size := by simp
    generalize ((w3.setCell ⟨pt, 9, none⟩ (.int .i64 Wr)).setCell ⟨pt, 12, none⟩ (.int .i64 Rt)) = X at *
    obtain ⟨T, hT⟩ : ∃ T, tmWR Wr Rt = T := ⟨_, rfl⟩
    have HT := hide hT
    rw [hT] at KT4
    obtain ⟨N, hN⟩ : ∃ N, slotNeed T = N := ⟨_, rfl⟩
    have hNb := tmWR_need HW.out HR.out
    rw [hT, hN] at hNb
    have N0 := hNb.1; have N1 := hNb.2
    obtain ⟨L, hL⟩ : ∃ L, N + M2 = L := ⟨_, rfl⟩
    have wL : IntKind.i64.wrap (N + M2) = L := (IntWalk.i64_in _ (by omega)).trans hL
    have L0 : N ≤ L := by omega
    have L1 : L ≤ 19 := by omega
    have HN := hide hN
    have hM2 := HM2.out
    clear hT hNb hN t9 t12 tf KT3 KG3 KM3 KS3 HB3 hL e_p0 e_p1 e_p2 wW wR M2b
    have e2 := E4.out
    have KEEP := hide (show ∀ v, X.grownBy v (some psl) → v.heap[pt]? = some (.cells (tmC T).toArray 73 (0, 0)) ∧ v.cell? ⟨P, 2, none⟩ = some (.int .i64 P2) ∧ X.grownBy v (some psl) from fun v hb =>
      ⟨(hb.block _ (lt_blk KT4.out) (by simp; omega)).trans KT4.out, (only_cell hb (by omega) (by omega)).trans E4.out, hb⟩)
    clear e2
    refine wp_region_held_drew (S := fun v => v.heap[pt]? = some (.cells (tmC T).toArray 73 (0, 0)) ∧ v.cell? ⟨P, 2, none⟩ = some (.int .i64 P2) ∧ X.grownBy v (some psl)) (by kernel_rfl) (KEEP.out _ (only_drew (only_refl _ _))) (fun hSx => ?_)
    refine wpAnyH_take (i := 0) rfl (by kernel_rfl) (by kernel_rfl) (by kernel_rfl) (fun _ _ _ h => h) (yieldsIf_load_row (by rfl) 73 _ rfl pt rfl 73 ((tmC T).toArray) (0, 0) _ (fun _ h => h.1) Try.underlying73 (tmC_info T)) (by assumption) ?_
    try simp only [Act.put, List.getElem_toArray, List.getElem_cons_zero, List.getElem_cons_succ, List.setIfInBounds_toArray, List.set_cons_zero, List.set_cons_succ]
    refine wpAnyH_take (i := 2) (v := ?_) rfl (by kernel_rfl) (by kernel_rfl) (by kernel_rfl) (fun _ _ _ h => h) (Or.inl ⟨by rfl, ?_⟩) (by assumption) ?_
    rotate_left
    · intro w hSw; (try dsimp only at hSw); go_simp; try with_reducible rfl
    try simp only [Act.put, List.getElem_toArray, List.getElem_cons_zero, List.getElem_cons_succ, List.setIfInBounds_toArray, List.set_cons_zero, List.set_cons_succ]
    refine wpAnyH_take (i := 3) (v := ?_) rfl (by kernel_rfl) (by kernel_rfl) (by kernel_rfl) (fun _ _ _ h => h) (Or.inl ⟨by rfl, ?_⟩) (by assumption) ?_
    rotate_left
    · intro w hSw; (try dsimp only at hSw); go_simp; try with_reducible rfl
    try simp only [Act.put, List.getElem_toArray, List.getElem_cons_zero, List.getElem_cons_succ, List.setIfInBounds_toArray, List.set_cons_zero, List.set_cons_succ]
    refine wpAnyH_take (i := 4) (v := ?_) rfl (by kernel_rfl) (by kernel_rfl) (by kernel_rfl) (fun _ _ _ h => h) (Or.inl ⟨by rfl, ?_⟩) (by assumption) ?_
    rotate_left
    · intro w hSw; (try dsimp only at hSw); go_simp; try with_reducible rfl
    try simp only [Act.put, List.getElem_toArray, List.getElem_cons_zero, List.getElem_cons_succ, List.setIfInBounds_toArray, List.set_cons_zero, List.set_cons_succ]
    refine wpAnyH_take (i := 5) (v := ?_) rfl (by kernel_rfl) (by kernel_rfl) (by kernel_rfl) (fun _ _ _ h => h) (Or.inl ⟨by rfl, ?_⟩) (by assumption) ?_
    rotate_left
    · intro w hSw; (try dsimp only at hSw); go_simp; try with_reducible rfl
    try simp only [Act.put, List.getElem_toArray, List.getElem_cons_zero, List.getElem_cons_succ, List.setIfInBounds_toArray, List.set_cons_zero, List.set_cons_succ]
    refine wpAnyH_ready (rs := [1]) (by kernel_rfl) (by simp) ?_
    refine AllReadyH.cons rfl (fun K hK => ?_) AllReadyH.nil
    go_simp
    refine (impl_SlotNeed_z T N HN.out _).mono ?_
    rintro e y1 ⟨rfl, hy1⟩
    have ks1 := (hy1.block _ (lt_blk KS4.out)).trans KS4.out; have zs1 := cell_blk ks1 1; have zf1 := free_blk ks1 1; have hgr := only_next (only_drew (only_refl X (some psl))) (only_of_below hy1 (some psl))
    refine hK.out _ _ (KEEP.out _ hgr) (fun hSy => ?_)
    clear hSx hK K
    have hSx := hSy; clear hSy
    try simp only [Act.put, List.getElem_toArray, List.getElem_cons_zero, List.getElem_cons_succ, List.setIfInBounds_toArray, List.set_cons_zero, List.set_cons_succ]
    refine wpAnyH_take (i := 6) (v := ?_) rfl (by kernel_rfl) (by kernel_rfl) (by kernel_rfl) (fun _ _ _ h => h) (Or.inl ⟨by rfl, ?_⟩) (by assumption) ?_
    rotate_left
    · intro w hSw; (try dsimp only at hSw); go_simp; try with_reducible rfl
    try simp only [Act.put, List.getElem_toArray, List.getElem_cons_zero, List.getElem_cons_succ, List.setIfInBounds_toArray, List.set_cons_zero, List.set_cons_succ]
    refine wpAnyH_take (i := 7) (v := ?_) rfl (by kernel_rfl) (by kernel_rfl) (by kernel_rfl) (fun _ _ _ h => h) (Or.inl ⟨by rfl, ?_⟩) (by assumption) ?_
    rotate_left
    · intro w hSw; (try dsimp only at hSw); go_simp; try with_reducible rfl
    try simp only [Act.put, List.getElem_toArray, List.getElem_cons_zero, List.getElem_cons_succ, List.setIfInBounds_toArray, List.set_cons_zero, List.set_cons_succ]
    refine wpAnyH_ready (rs := [8]) (by kernel_rfl) (by simp) ?_
    refine AllReadyH.cons rfl (fun K hK => ?_) AllReadyH.nil
    go_simp
    refine hK.out _ _ (KEEP.out _ (only_set (o := 1) hgr (.int .i64 L))) (fun hSy => ?_); clear hSx hK K; have hSx := hSy; clear hSy; try simp only [Act.put, List.getElem_toArray, List.getElem_cons_zero, List.getElem_cons_succ, List.setIfInBounds_toArray, List.set_cons_zero, List.set_cons_succ]
    refine wpAnyH_done (by kernel_rfl) ?_ _
    have hgy := hSx.2.2
    have KT5 := hide hSx.1
    have KG5 := hide ((hgy.block _ (lt_blk KG4.out) (by simp; omega)).trans KG4.out)
    have KM5 := hide ((hgy.block _ (lt_blk KM4.out) (by simp; omega)).trans KM4.out)
    have KS5 := hide (set_lit (v := .int .i64 L) (o := 1) ks1 rfl)
    have HB5 := hide ((bthen HB4.out (show Below X.heap.size X y1 from bthenS2 (Below.refl _ _).drew hy1) HB4.out.size).setCell (p := ⟨psl, 1, none⟩) (by simp; omega) (.int .i64 L))
    have s5 : X.heap.size ≤ (y1.setCell ⟨psl, 1, none⟩ (.int .i64 L)).heap.size := by have := hy1.size; simpa using this
    clear hSx hgy hgr zs1 zf1 ks1 hy1 KEEP E4 KG4 KM4 KS4 KT4 HB4
    generalize (y1.setCell ⟨psl, 1, none⟩ (.int .i64 L)) = V at *
    obtain ⟨nb, hnb⟩ : ∃ nb : Nat, bankCnt g = (nb : Int) := ⟨(bankCnt g).toNat, by have := bankCnt_bd g; omega⟩
    obtain ⟨K, hK⟩ : ∃ K, (servedAll es zs L 500).length = K := ⟨_, rfl⟩
    have HNB := hide hnb; have HKS := hide hK
    have hpl := trace_plain (mh := mh) (W := Wr) (R := Rt) (L := L) HG.out hnb ⟨mo0, mo1⟩ HW.out HR.out HZ1.out.1 ⟨n1a, n1b⟩ HZB.out ⟨by rw [HT.out, HN.out]; exact L0, L1⟩ HE1.out.1 n2b HBK.out hK
    rw [HT.out] at hpl
    have HPL := hide hpl
    have hK60 := hpl.few
    have HOK := hide (show tmOk T = true by rw [← HT.out]; exact tmWR_ok HW.out HR.out)
    have HID := hide (batch_wf HBK.out (by rw [HE1.out.1]; exact n2b))
    have HSH := hide (show traceOk ⟨g, T, mo, mh, zs, N - 1, 500⟩ m2 = false by rw [← HT.out]; exact trace_short (by rw [HT.out]; exact HN.out))
    obtain ⟨NK, hNK⟩ : ∃ k, (trL ⟨g, T, mo, mh, zs, L, 500⟩ es).length = k := ⟨_, rfl⟩
    have HNK := hide hNK
    have hNK3 : NK = 3 * K := by rw [← hNK]; exact hpl.len
    have NK1 : NK ≤ 180 := by omega
    have HN3 := hide hNK3
    clear hnb hK hpl hNK hNK3
    have g0 := cell_blk KG5.out 0; have g1 := cell_blk KG5.out 1; have g2 := cell_blk KG5.out 2; have g3 := cell_blk KG5.out 3
    have z0 := cell_blk KM5.out 0; have z1 := cell_blk KM5.out 1
    have y0 := cell_blk KS5.out 0; have y1' := cell_blk KS5.out 1
    go_wp2_with (refine wpList_load_row rfl 73 _ rfl pt rfl 73 (tmC T).toArray (0, 0) _ KT5.out Try.underlying73 rfl (tmC_info T) ?_)
    refine (impl_SlotTrace_yes g T mo mh a1 m1 c1 zs L 500 a2 m2 c2 es _ (HZ1.out.below HB5.out (Nat.le_refl _)) (by omega) (HE1.out.below HB5.out (Nat.le_refl _)) NK HID.out (by have h := HPL.out.ok; unfold trOk at h; simp only [Bool.and_eq_true] at h; rw [← HE1.out.1]; exact h.1) HNK.out).mono ?_
    rintro e w6 ⟨ao, co, rfl, oo, h6⟩
    rw [HPL.out.ok]
    have s6 := h6.size
    have KT6 := hide ((h6.block _ (lt_blk KT5.out)).trans KT5.out)
    have KG6 := hide ((h6.block _ (lt_blk KG5.out)).trans KG5.out)
    have KM6 := hide ((h6.block _ (lt_blk KM5.out)).trans KM5.out)
    have KS6 := hide ((h6.block _ (lt_blk KS5.out)).trans KS5.out)
    have HB6 := hide (bthen HB5.out h6 HB5.out.size)
    have hco := own_caps oo
    have hco1 := hco.1; have hco2 : co ≤ 9223372036854775807 := hco.2
    have HO6 := hide (isStructs_own evF_len (by omega) oo)
    clear oo h6 hco KT5 KG5 KM5 KS5 HB5 g0 g1 g2 g3 z0 z1 y0 y1'
    have y0 := cell_blk KS6.out 0; have y1' := cell_blk KS6.out 1
    go_wp2_with fail
    refine (impl_ServeSlots a1 m1 c1 zs L 500 a2 m2 c2 es K _ (HZ1.out.below HB6.out (Nat.le_refl _)) (by omega) (HE1.out.below HB6.out (Nat.le_refl _)) HKS.out).mono ?_
    rintro e w7 ⟨av, cv, rfl, ov, h7⟩
    have s7 := h7.size
    have KT7 := hide ((h7.block _ (lt_blk KT6.out)).trans KT6.out)
    have KG7 := hide ((h7.block _ (lt_blk KG6.out)).trans KG6.out)
    have KM7 := hide ((h7.block _ (lt_blk KM6.out)).trans KM6.out)
    have KS7 := hide ((h7.block _ (lt_blk KS6.out)).trans KS6.out)
    have HB7 := hide (bthen HB6.out h7 HB6.out.size)
    have hcv := own_caps ov
    have hcv1 := hcv.1; have hcv2 : cv ≤ 9223372036854775807 := hcv.2
    have HO7 := hide (HO6.out.below h7 (Nat.le_refl _))
    clear ov h7 hcv KT6 KG6 KM6 KS6 HB6 HO6 y0 y1'
    have g0 := cell_blk KG7.out 0; have g1 := cell_blk KG7.out 1; have g2 := cell_blk KG7.out 2; have g3 := cell_blk KG7.out 3
    go_wp2_with (refine wpList_load_row rfl 73 _ rfl pt rfl 73 (tmC T).toArray (0, 0) _ KT7.out Try.underlying73 rfl (tmC_info T) ?_)
    refine (impl_TraceFault g T ao NK co nb (trL ⟨g, T, mo, mh, zs, L, 500⟩ es) _ HO7.out HG.out HNB.out HOK.out (by omega) HPL.out.clean).mono ?_
    rintro e w8 ⟨rfl, h8⟩
    have s8 := h8.size
    have KT8 := hide ((h8.block _ (lt_blk KT7.out)).trans KT7.out)
    have KG8 := hide ((h8.block _ (lt_blk KG7.out)).trans KG7.out)
    have KM8 := hide ((h8.block _ (lt_blk KM7.out)).trans KM7.out)
    have KS8 := hide ((h8.block _ (lt_blk KS7.out)).trans KS7.out)
    have HB8 := hide (bthen HB7.out h8 HB7.out.size)
    clear h8 KT7 KG7 KM7 KS7 HB7 HO7 g0 g1 g2 g3
    have wN : IntKind.i64.wrap (N - 1) = N - 1 := IntWalk.i64_in _ (by omega)
    go_wp2_with fail
    have T1 := hide (show (tmC T)[1]? = some (.int .i64 3) ∧ (tmC T)[2]? = some (.int .i64 7) by rw [← HT.out]; exact ⟨rfl, rfl⟩)
    have KEEP := hide (show ∀ v, Below w8.heap.size w8 v → v.heap[pt]? = some (.cells (tmC T).toArray 73 (0, 0)) ∧ v.cell? ⟨pg, 0, none⟩ = some (.int .i64 g.gr) ∧ v.cell? ⟨pg, 1, none⟩ = some (.int .i64 g.bk) ∧ v.cell? ⟨pg, 2, none⟩ = some (.int .i64 g.rw) ∧ v.cell? ⟨pg, 3, none⟩ = some (.int .i64 g.cl) ∧ v.cell? ⟨pm, 0, none⟩ = some (.int .i64 mo) ∧ v.cell? ⟨pm, 1, none⟩ = some (.bool mh) ∧ v.cell? ⟨psl, 0, none⟩ = some (.slice a1 m1 c1) ∧ v.cell? ⟨pt, 1, none⟩ = some (.int .i64 3) ∧ v.cell? ⟨pt, 2, none⟩ = some (.int .i64 7) ∧ Below w8.heap.size w8 v from fun v hb =>
      have h1 := (hb.block _ (lt_blk KT8.out)).trans KT8.out
      have h2 := (hb.block _ (lt_blk KG8.out)).trans KG8.out
      have h3 := (hb.block _ (lt_blk KM8.out)).trans KM8.out
      have h4 := (hb.block _ (lt_blk KS8.out)).trans KS8.out
      ⟨h1, cell_blk h2 0, cell_blk h2 1, cell_blk h2 2, cell_blk h2 3, cell_blk h3 0, cell_blk h3 1, cell_blk h4 0, (cell_blk h1 1).trans (by simp [T1.out.1]), (cell_blk h1 2).trans (by simp [T1.out.2]), hb⟩)
    refine wp_region_held_drew (S := fun v => v.heap[pt]? = some (.cells (tmC T).toArray 73 (0, 0)) ∧ v.cell? ⟨pg, 0, none⟩ = some (.int .i64 g.gr) ∧ v.cell? ⟨pg, 1, none⟩ = some (.int .i64 g.bk) ∧ v.cell? ⟨pg, 2, none⟩ = some (.int .i64 g.rw) ∧ v.cell? ⟨pg, 3, none⟩ = some (.int .i64 g.cl) ∧ v.cell? ⟨pm, 0, none⟩ = some (.int .i64 mo) ∧ v.cell? ⟨pm, 1, none⟩ = some (.bool mh) ∧ v.cell? ⟨psl, 0, none⟩ = some (.slice a1 m1 c1) ∧ v.cell? ⟨pt, 1, none⟩ = some (.int .i64 3) ∧ v.cell? ⟨pt, 2, none⟩ = some (.int .i64 7) ∧ Below w8.heap.size w8 v) (by kernel_rfl) (KEEP.out _ (Below.refl _ _).drew) (fun hSx => ?_)
    refine wpAnyH_take (i := 0) (v := ?_) rfl (by kernel_rfl) (by kernel_rfl) (by kernel_rfl) (fun _ _ _ h => h) (Or.inl ⟨by rfl, ?_⟩) (by assumption) ?_
    rotate_left
    · intro w hSw; (try dsimp only at hSw); go_simp; try with_reducible rfl
    try simp only [Act.put, List.getElem_toArray, List.getElem_cons_zero, List.getElem_cons_succ, List.setIfInBounds_toArray, List.set_cons_zero, List.set_cons_succ]
    refine wpAnyH_take (i := 1) rfl (by kernel_rfl) (by kernel_rfl) (by kernel_rfl) (fun _ _ _ h => h) (yieldsIf_load_row (by rfl) 73 _ rfl pt rfl 73 ((tmC T).toArray) (0, 0) _ (fun _ h => h.1) Try.underlying73 (tmC_info T)) (by assumption) ?_
    try simp only [Act.put, List.getElem_toArray, List.getElem_cons_zero, List.getElem_cons_succ, List.setIfInBounds_toArray, List.set_cons_zero, List.set_cons_succ]
    refine wpAnyH_take (i := 2) (v := ?_) rfl (by kernel_rfl) (by kernel_rfl) (by kernel_rfl) (fun _ _ _ h => h) (Or.inl ⟨by rfl, ?_⟩) (by assumption) ?_
    rotate_left
    · intro w hSw; (try dsimp only at hSw); go_simp; try with_reducible rfl
    try simp only [Act.put, List.getElem_toArray, List.getElem_cons_zero, List.getElem_cons_succ, List.setIfInBounds_toArray, List.set_cons_zero, List.set_cons_succ]
    refine wpAnyH_take (i := 3) (v := ?_) rfl (by kernel_rfl) (by kernel_rfl) (by kernel_rfl) (fun _ _ _ h => h) (Or.inl ⟨by rfl, ?_⟩) (by assumption) ?_
    rotate_left
    · intro w hSw; (try dsimp only at hSw); go_simp; try with_reducible rfl
    try simp only [Act.put, List.getElem_toArray, List.getElem_cons_zero, List.getElem_cons_succ, List.setIfInBounds_toArray, List.set_cons_zero, List.set_cons_succ]
    refine wpAnyH_take (i := 4) (v := ?_) rfl (by kernel_rfl) (by kernel_rfl) (by kernel_rfl) (fun _ _ _ h => h) (Or.inl ⟨by rfl, ?_⟩) (by assumption) ?_
    rotate_left
    · intro w hSw; (try dsimp only at hSw); go_simp; try with_reducible rfl
    try simp only [Act.put, List.getElem_toArray, List.getElem_cons_zero, List.getElem_cons_succ, List.setIfInBounds_toArray, List.set_cons_zero, List.set_cons_succ]
    refine wpAnyH_take (i := 5) rfl (by kernel_rfl) (by kernel_rfl) (by kernel_rfl) (fun _ _ _ h => h) (yieldsIf_load_row (by rfl) 73 _ rfl pt rfl 73 ((tmC T).toArray) (0, 0) _ (fun _ h => h.1) Try.underlying73 (tmC_info T)) (by assumption) ?_
    try simp only [Act.put, List.getElem_toArray, List.getElem_cons_zero, List.getElem_cons_succ, List.setIfInBounds_toArray, List.set_cons_zero, List.set_cons_succ]
    refine wpAnyH_take (i := 9) (v := ?_) rfl (by kernel_rfl) (by kernel_rfl) (by kernel_rfl) (fun _ _ _ h => h) (Or.inl ⟨by rfl, ?_⟩) (by assumption) ?_
    rotate_left
    · intro w hSw; (try dsimp only at hSw); go_simp; try with_reducible rfl
    try simp only [Act.put, List.getElem_toArray, List.getElem_cons_zero, List.getElem_cons_succ, List.setIfInBounds_toArray, List.set_cons_zero, List.set_cons_succ]
    refine wpAnyH_ready (rs := [6]) (by kernel_rfl) (by simp) ?_
    refine AllReadyH.cons rfl (fun K hK => ?_) AllReadyH.nil
    go_simp
    refine (impl_SlotNeed_z T N HN.out _).mono ?_
    rintro e y1 ⟨rfl, hy1⟩
    refine hK.out _ _ (KEEP.out _ (bthenS2 hSx.2.2.2.2.2.2.2.2.2.2 hy1)) (fun hSy => ?_)
    clear hSx hK K
    have hSx := hSy; clear hSy
    try simp only [Act.put, List.getElem_toArray, List.getElem_cons_zero, List.getElem_cons_succ, List.setIfInBounds_toArray, List.set_cons_zero, List.set_cons_succ]
    refine wpAnyH_take (i := 7) (v := ?_) rfl (by kernel_rfl) (by kernel_rfl) (by kernel_rfl) (fun _ _ _ h => h) (Or.inl ⟨by rfl, ?_⟩) (by assumption) ?_
    rotate_left
    · intro w hSw; (try dsimp only at hSw); go_simp; try with_reducible rfl
    try simp only [Act.put, List.getElem_toArray, List.getElem_cons_zero, List.getElem_cons_succ, List.setIfInBounds_toArray, List.set_cons_zero, List.set_cons_succ]
    refine wpAnyH_take (i := 8) (v := ?_) rfl (by kernel_rfl) (by kernel_rfl) (by kernel_rfl) (fun _ _ _ h => h) (Or.inl ⟨by rfl, ?_⟩) (by assumption) ?_
    rotate_left
    · intro w hSw; (try dsimp only at hSw); go_simp; try with_reducible rfl
    try simp only [Act.put, List.getElem_toArray, List.getElem_cons_zero, List.getElem_cons_succ, List.setIfInBounds_toArray, List.set_cons_zero, List.set_cons_succ]
    refine wpAnyH_ready (rs := [10]) (by kernel_rfl) (by simp) ?_
    refine AllReadyH.cons rfl (fun K hK => ?_) AllReadyH.nil
    go_simp
    refine (impl_SlotTrace_no g T mo mh a1 m1 c1 zs (N - 1) 500 a2 m2 c2 es _ (HZ1.out.below (bthen HB8.out hSx.2.2.2.2.2.2.2.2.2.2 HB8.out.size) (Nat.le_refl _)) (by omega) (HE1.out.below (bthen HB8.out hSx.2.2.2.2.2.2.2.2.2.2 HB8.out.size) (Nat.le_refl _)) HSH.out).mono ?_
    rintro e y2 ⟨asx, cs, rfl, osn, hy2⟩
    refine hK.out _ _ (KEEP.out _ (bthenS2 hSx.2.2.2.2.2.2.2.2.2.2 hy2)) (fun hSy => ?_)
    clear hSx hK K
    have hSx := hSy; clear hSy
    try simp only [Act.put, List.getElem_toArray, List.getElem_cons_zero, List.getElem_cons_succ, List.setIfInBounds_toArray, List.set_cons_zero, List.set_cons_succ]
    refine wpAnyH_take (i := 11) (v := ?_) rfl (by kernel_rfl) (by kernel_rfl) (by kernel_rfl) (fun _ _ _ h => h) (Or.inl ⟨by rfl, ?_⟩) (by assumption) ?_
    rotate_left
    · intro w hSw; (try dsimp only at hSw); go_simp; try with_reducible rfl
    try simp only [Act.put, List.getElem_toArray, List.getElem_cons_zero, List.getElem_cons_succ, List.setIfInBounds_toArray, List.set_cons_zero, List.set_cons_succ]
    refine wpAnyH_take (i := 12) (v := ?_) rfl (by kernel_rfl) (by kernel_rfl) (by kernel_rfl) (fun _ _ _ h => h) (Or.inl ⟨by rfl, ?_⟩) (by assumption) ?_
    rotate_left
    · intro w hSw; (try dsimp only at hSw); go_simp; try with_reducible rfl
    try simp only [Act.put, List.getElem_toArray, List.getElem_cons_zero, List.getElem_cons_succ, List.setIfInBounds_toArray, List.set_cons_zero, List.set_cons_succ]
    refine wpAnyH_take (i := 13) (v := ?_) rfl (by kernel_rfl) (by kernel_rfl) (by kernel_rfl) (fun _ _ _ h => h) (Or.inl ⟨by rfl, ?_⟩) (by assumption) ?_
    rotate_left
    · intro w hSw; (try dsimp only at hSw); go_simp; try with_reducible rfl
    try simp only [Act.put, List.getElem_toArray, List.getElem_cons_zero, List.getElem_cons_succ, List.setIfInBounds_toArray, List.set_cons_zero, List.set_cons_succ]
    refine wpAnyH_take (i := 14) (v := ?_) rfl (by kernel_rfl) (by kernel_rfl) (by kernel_rfl) (fun _ _ _ h => h) (Or.inl ⟨by rfl, ?_⟩) (by assumption) ?_
    rotate_left
    · intro w hSw; (try dsimp only at hSw); go_simp; try with_reducible rfl
    try simp only [Act.put, List.getElem_toArray, List.getElem_cons_zero, List.getElem_cons_succ, List.setIfInBounds_toArray, List.set_cons_zero, List.set_cons_succ]
    refine wpAnyH_take (i := 15) (v := ?_) rfl (by kernel_rfl) (by kernel_rfl) (by kernel_rfl) (fun _ _ _ h => h) (Or.inl ⟨by rfl, ?_⟩) (by assumption) ?_
    rotate_left
    · intro w hSw; (try dsimp only at hSw); go_simp; try with_reducible rfl
    try simp only [Act.put, List.getElem_toArray, List.getElem_cons_zero, List.getElem_cons_succ, List.setIfInBounds_toArray, List.set_cons_zero, List.set_cons_succ]
    refine wpAnyH_done (by kernel_rfl) ?_ _
    have HY := hide hSx.2.2.2.2.2.2.2.2.2.2
    clear hSx osn hy1 hy2
    obtain ⟨Y, rfl⟩ : ∃ U : World, U = y2 := ⟨_, rfl⟩
    have k0 : (0 : Int) ≤ (K : Int) := by omega
    have w3K : IntKind.i64.wrap (3 * (K : Int)) = 3 * (K : Int) := IntWalk.i64_in _ (by omega)
    have hq3 : ((NK : Int) == 3 * (K : Int)) = true := by have := HN3.out; simp; omega
    have hq4 : decide ((NK : Int) = 3 * (K : Int)) = true := by have := HN3.out; simp; omega
    have hge : decide ((10 : Int) ≤ N) = true := by simp; omega
    have hge2 : (10 : Int) ≤ N := N0
    have w10 : IntKind.i64.wrap 10 = 10 := IntWalk.i64_in _ (by omega)
    have hge3 : decide (IntKind.i64.wrap 10 ≤ N) = true := by rw [w10]; exact hge
    go_wp2_with fail
    refine wp_region_held_drew (S := fun v => v.heap[pt]? = some (.cells (tmC T).toArray 73 (0, 0)) ∧ v.cell? ⟨pg, 0, none⟩ = some (.int .i64 g.gr) ∧ v.cell? ⟨pg, 1, none⟩ = some (.int .i64 g.bk) ∧ v.cell? ⟨pg, 2, none⟩ = some (.int .i64 g.rw) ∧ v.cell? ⟨pg, 3, none⟩ = some (.int .i64 g.cl) ∧ v.cell? ⟨pm, 0, none⟩ = some (.int .i64 mo) ∧ v.cell? ⟨pm, 1, none⟩ = some (.bool mh) ∧ v.cell? ⟨psl, 0, none⟩ = some (.slice a1 m1 c1) ∧ v.cell? ⟨pt, 1, none⟩ = some (.int .i64 3) ∧ v.cell? ⟨pt, 2, none⟩ = some (.int .i64 7) ∧ Below w8.heap.size w8 v) (by kernel_rfl) (KEEP.out _ HY.out.drew) (fun hSx => ?_)
    refine wpAnyH_take (i := 0) (v := ?_) rfl (by kernel_rfl) (by kernel_rfl) (by kernel_rfl) (fun _ _ _ h => h) (Or.inl ⟨by rfl, ?_⟩) (by assumption) ?_
    rotate_left
    · intro w hSw; (try dsimp only at hSw); go_simp; try with_reducible rfl
    try simp only [Act.put, List.getElem_toArray, List.getElem_cons_zero, List.getElem_cons_succ, List.setIfInBounds_toArray, List.set_cons_zero, List.set_cons_succ]
    refine wpAnyH_take (i := 1) (v := ?_) rfl (by kernel_rfl) (by kernel_rfl) (by kernel_rfl) (fun _ _ _ h => h) (Or.inl ⟨by rfl, ?_⟩) (by assumption) ?_
    rotate_left
    · intro w hSw; (try dsimp only at hSw); go_simp; try with_reducible rfl
    try simp only [Act.put, List.getElem_toArray, List.getElem_cons_zero, List.getElem_cons_succ, List.setIfInBounds_toArray, List.set_cons_zero, List.set_cons_succ]
    refine wpAnyH_take (i := 2) (v := ?_) rfl (by kernel_rfl) (by kernel_rfl) (by kernel_rfl) (fun _ _ _ h => h) (Or.inl ⟨by rfl, ?_⟩) (by assumption) ?_
    rotate_left
    · intro w hSw; (try dsimp only at hSw); go_simp; try with_reducible rfl
    try simp only [Act.put, List.getElem_toArray, List.getElem_cons_zero, List.getElem_cons_succ, List.setIfInBounds_toArray, List.set_cons_zero, List.set_cons_succ]
    refine wpAnyH_take (i := 3) (v := ?_) rfl (by kernel_rfl) (by kernel_rfl) (by kernel_rfl) (fun _ _ _ h => h) (Or.inl ⟨by rfl, ?_⟩) (by assumption) ?_
    rotate_left
    · intro w hSw; (try dsimp only at hSw); go_simp; try with_reducible rfl
    try simp only [Act.put, List.getElem_toArray, List.getElem_cons_zero, List.getElem_cons_succ, List.setIfInBounds_toArray, List.set_cons_zero, List.set_cons_succ]
    refine wpAnyH_take (i := 4) (v := ?_) rfl (by kernel_rfl) (by kernel_rfl) (by kernel_rfl) (fun _ _ _ h => h) (Or.inl ⟨by rfl, ?_⟩) (by assumption) ?_
    rotate_left
    · intro w hSw; (try dsimp only at hSw); go_simp; try with_reducible rfl
    try simp only [Act.put, List.getElem_toArray, List.getElem_cons_zero, List.getElem_cons_succ, List.setIfInBounds_toArray, List.set_cons_zero, List.set_cons_succ]
    refine wpAnyH_take (i := 5) (v := ?_) rfl (by kernel_rfl) (by kernel_rfl) (by kernel_rfl) (fun _ _ _ h => h) (Or.inl ⟨by rfl, ?_⟩) (by assumption) ?_
    rotate_left
    · intro w hSw; (try dsimp only at hSw); go_simp; try with_reducible rfl
    try simp only [Act.put, List.getElem_toArray, List.getElem_cons_zero, List.getElem_cons_succ, List.setIfInBounds_toArray, List.set_cons_zero, List.set_cons_succ]
    refine wpAnyH_take (i := 6) (v := ?_) rfl (by kernel_rfl) (by kernel_rfl) (by kernel_rfl) (fun _ _ _ h => h) (Or.inl ⟨by rfl, ?_⟩) (by assumption) ?_
    rotate_left
    · intro w hSw; (try dsimp only at hSw); go_simp; try with_reducible rfl
    try simp only [Act.put, List.getElem_toArray, List.getElem_cons_zero, List.getElem_cons_succ, List.setIfInBounds_toArray, List.set_cons_zero, List.set_cons_succ]
    refine wpAnyH_take (i := 7) (v := ?_) rfl (by kernel_rfl) (by kernel_rfl) (by kernel_rfl) (fun _ _ _ h => h) (Or.inl ⟨by rfl, ?_⟩) (by assumption) ?_
    rotate_left
    · intro w hSw; (try dsimp only at hSw); go_simp; try with_reducible rfl
    try simp only [Act.put, List.getElem_toArray, List.getElem_cons_zero, List.getElem_cons_succ, List.setIfInBounds_toArray, List.set_cons_zero, List.set_cons_succ]
    refine wpAnyH_take (i := 8) (v := ?_) rfl (by kernel_rfl) (by kernel_rfl) (by kernel_rfl) (fun _ _ _ h => h) (Or.inl ⟨by rfl, ?_⟩) (by assumption) ?_
    rotate_left
    · intro w hSw; (try dsimp only at hSw); go_simp; try with_reducible rfl
    try simp only [Act.put, List.getElem_toArray, List.getElem_cons_zero, List.getElem_cons_succ, List.setIfInBounds_toArray, List.set_cons_zero, List.set_cons_succ]
    refine wpAnyH_take (i := 9) (v := ?_) rfl (by kernel_rfl) (by kernel_rfl) (by kernel_rfl) (fun _ _ _ h => h) (Or.inl ⟨by rfl, ?_⟩) (by assumption) ?_
    rotate_left
    · intro w hSw; (try dsimp only at hSw); go_simp; try with_reducible rfl
    try simp only [Act.put, List.getElem_toArray, List.getElem_cons_zero, List.getElem_cons_succ, List.setIfInBounds_toArray, List.set_cons_zero, List.set_cons_succ]
    refine wpAnyH_take (i := 10) (v := ?_) rfl (by kernel_rfl) (by kernel_rfl) (by kernel_rfl) (fun _ _ _ h => h) (Or.inl ⟨by rfl, ?_⟩) (by assumption) ?_
    rotate_left
    · intro w hSw; (try dsimp only at hSw); go_simp; try with_reducible rfl
    try simp only [Act.put, List.getElem_toArray, List.getElem_cons_zero, List.getElem_cons_succ, List.setIfInBounds_toArray, List.set_cons_zero, List.set_cons_succ]
    refine wpAnyH_take (i := 11) (v := ?_) rfl (by kernel_rfl) (by kernel_rfl) (by kernel_rfl) (fun _ _ _ h => h) (Or.inl ⟨by rfl, ?_⟩) (by assumption) ?_
    rotate_left
    · intro w hSw; (try dsimp only at hSw); go_simp; try with_reducible rfl
    try simp only [Act.put, List.getElem_toArray, List.getElem_cons_zero, List.getElem_cons_succ, List.setIfInBounds_toArray, List.set_cons_zero, List.set_cons_succ]
    refine wpAnyH_take (i := 12) (v := ?_) rfl (by kernel_rfl) (by kernel_rfl) (by kernel_rfl) (fun _ _ _ h => h) (Or.inl ⟨by rfl, ?_⟩) (by assumption) ?_
    rotate_left
    · intro w hSw; (try dsimp only at hSw); go_simp; try with_reducible rfl
    try simp only [Act.put, List.getElem_toArray, List.getElem_cons_zero, List.getElem_cons_succ, List.setIfInBounds_toArray, List.set_cons_zero, List.set_cons_succ]
    refine wpAnyH_take (i := 13) (v := ?_) rfl (by kernel_rfl) (by kernel_rfl) (by kernel_rfl) (fun _ _ _ h => h) (Or.inl ⟨by rfl, ?_⟩) (by assumption) ?_
    rotate_left
    · intro w hSw; (try dsimp only at hSw); go_simp; try with_reducible rfl
    try simp only [Act.put, List.getElem_toArray, List.getElem_cons_zero, List.getElem_cons_succ, List.setIfInBounds_toArray, List.set_cons_zero, List.set_cons_succ]
    refine wpAnyH_take (i := 14) (v := ?_) rfl (by kernel_rfl) (by kernel_rfl) (by kernel_rfl) (fun _ _ _ h => h) (Or.inl ⟨by rfl, ?_⟩) (by assumption) ?_
    rotate_left
    · intro w hSw; (try dsimp only at hSw); go_simp; try with_reducible rfl
    try simp only [Act.put, List.getElem_toArray, List.getElem_cons_zero, List.getElem_cons_succ, List.setIfInBounds_toArray, List.set_cons_zero, List.set_cons_succ]
    refine wpAnyH_take (i := 15) (v := ?_) rfl (by kernel_rfl) (by kernel_rfl) (by kernel_rfl) (fun _ _ _ h => h) (Or.inl ⟨by rfl, ?_⟩) (by assumption) ?_
    rotate_left
    · intro w hSw; (try dsimp only at hSw); go_simp; try with_reducible rfl
    try simp only [Act.put, List.getElem_toArray, List.getElem_cons_zero, List.getElem_cons_succ, List.setIfInBounds_toArray, List.set_cons_zero, List.set_cons_succ]
    refine wpAnyH_take (i := 16) (v := ?_) rfl (by kernel_rfl) (by kernel_rfl) (by kernel_rfl) (fun _ _ _ h => h) (Or.inl ⟨by rfl, ?_⟩) (by assumption) ?_
    rotate_left
    · intro w hSw; (try dsimp only at hSw); go_simp; try with_reducible rfl
    try simp only [Act.put, List.getElem_toArray, List.getElem_cons_zero, List.getElem_cons_succ, List.setIfInBounds_toArray, List.set_cons_zero, List.set_cons_succ]
    refine wpAnyH_take (i := 17) (v := ?_) rfl (by kernel_rfl) (by kernel_rfl) (by kernel_rfl) (fun _ _ _ h => h) (Or.inl ⟨by rfl, ?_⟩) (by assumption) ?_
    rotate_left
    · intro w hSw; (try dsimp only at hSw); go_simp; try with_reducible rfl
    try simp only [Act.put, List.getElem_toArray, List.getElem_cons_zero, List.getElem_cons_succ, List.setIfInBounds_toArray, List.set_cons_zero, List.set_cons_succ]
    refine wpAnyH_take (i := 18) rfl (by kernel_rfl) (by kernel_rfl) (by kernel_rfl) (fun _ _ _ h => h) (yieldsIf_load_row (by rfl) 73 _ rfl pt rfl 73 ((tmC T).toArray) (0, 0) _ (fun _ h => h.1) Try.underlying73 (tmC_info T)) (by assumption) ?_
    try simp only [Act.put, List.getElem_toArray, List.getElem_cons_zero, List.getElem_cons_succ, List.setIfInBounds_toArray, List.set_cons_zero, List.set_cons_succ]
    refine wpAnyH_take (i := 20) (v := ?_) rfl (by kernel_rfl) (by kernel_rfl) (by kernel_rfl) (fun _ _ _ h => h) (Or.inl ⟨by rfl, ?_⟩) (by assumption) ?_
    rotate_left
    · intro w hSw; (try dsimp only at hSw); go_simp; try with_reducible rfl
    try simp only [Act.put, List.getElem_toArray, List.getElem_cons_zero, List.getElem_cons_succ, List.setIfInBounds_toArray, List.set_cons_zero, List.set_cons_succ]
    refine wpAnyH_take (i := 21) (v := ?_) rfl (by kernel_rfl) (by kernel_rfl) (by kernel_rfl) (fun _ _ _ h => h) (Or.inl ⟨by rfl, ?_⟩) (by assumption) ?_
    rotate_left
    · intro w hSw; (try dsimp only at hSw); go_simp; try with_reducible rfl
    try simp only [Act.put, List.getElem_toArray, List.getElem_cons_zero, List.getElem_cons_succ, List.setIfInBounds_toArray, List.set_cons_zero, List.set_cons_succ]
    refine wpAnyH_take (i := 22) (v := ?_) rfl (by kernel_rfl) (by kernel_rfl) (by kernel_rfl) (fun _ _ _ h => h) (Or.inl ⟨by rfl, ?_⟩) (by assumption) ?_
    rotate_left
    · intro w hSw; (try dsimp only at hSw); go_simp; try with_reducible rfl
    try simp only [Act.put, List.getElem_toArray, List.getElem_cons_zero, List.getElem_cons_succ, List.setIfInBounds_toArray, List.set_cons_zero, List.set_cons_succ]
    refine wpAnyH_take (i := 23) (v := ?_) rfl (by kernel_rfl) (by kernel_rfl) (by kernel_rfl) (fun _ _ _ h => h) (Or.inl ⟨by rfl, ?_⟩) (by assumption) ?_
    rotate_left
    · intro w hSw; (try dsimp only at hSw); go_simp; try with_reducible rfl
    try simp only [Act.put, List.getElem_toArray, List.getElem_cons_zero, List.getElem_cons_succ, List.setIfInBounds_toArray, List.set_cons_zero, List.set_cons_succ]
    refine wpAnyH_take (i := 24) (v := ?_) rfl (by kernel_rfl) (by kernel_rfl) (by kernel_rfl) (fun _ _ _ h => h) (Or.inl ⟨by rfl, ?_⟩) (by assumption) ?_
    rotate_left
    · intro w hSw; (try dsimp only at hSw); go_simp; try with_reducible rfl
    try simp only [Act.put, List.getElem_toArray, List.getElem_cons_zero, List.getElem_cons_succ, List.setIfInBounds_toArray, List.set_cons_zero, List.set_cons_succ]
    refine wpAnyH_ready (rs := [19]) (by kernel_rfl) (by simp) ?_
    refine AllReadyH.cons rfl (fun K hK => ?_) AllReadyH.nil
    go_simp
    refine (impl_SlotNeed_z T N HN.out _).mono ?_
    rintro e y1 ⟨rfl, hy1⟩
    refine hK.out _ _ (KEEP.out _ (bthenS2 hSx.2.2.2.2.2.2.2.2.2.2 hy1)) (fun hSy => ?_)
    clear hSx hK K
    have hSx := hSy; clear hSy
    try simp only [Act.put, List.getElem_toArray, List.getElem_cons_zero, List.getElem_cons_succ, List.setIfInBounds_toArray, List.set_cons_zero, List.set_cons_succ]
    refine wpAnyH_take (i := 25) (v := ?_) rfl (by kernel_rfl) (by kernel_rfl) (by kernel_rfl) (fun _ _ _ h => h) (Or.inl ⟨by rfl, ?_⟩) (by assumption) ?_
    rotate_left
    · intro w hSw; (try dsimp only at hSw); go_simp; try with_reducible rfl
    try simp only [Act.put, List.getElem_toArray, List.getElem_cons_zero, List.getElem_cons_succ, List.setIfInBounds_toArray, List.set_cons_zero, List.set_cons_succ]
    refine wpAnyH_take (i := 26) (v := ?_) rfl (by kernel_rfl) (by kernel_rfl) (by kernel_rfl) (fun _ _ _ h => h) (Or.inl ⟨by rfl, ?_⟩) (by assumption) ?_
    rotate_left
    · intro w hSw; (try dsimp only at hSw); go_simp; try with_reducible rfl
    try simp only [Act.put, List.getElem_toArray, List.getElem_cons_zero, List.getElem_cons_succ, List.setIfInBounds_toArray, List.set_cons_zero, List.set_cons_succ]
    refine wpAnyH_take (i := 27) (v := ?_) rfl (by kernel_rfl) (by kernel_rfl) (by kernel_rfl) (fun _ _ _ h => h) (Or.inl ⟨by rfl, ?_⟩) (by assumption) ?_
    rotate_left
    · intro w hSw; (try dsimp only at hSw); go_simp; try with_reducible rfl
    try simp only [Act.put, List.getElem_toArray, List.getElem_cons_zero, List.getElem_cons_succ, List.setIfInBounds_toArray, List.set_cons_zero, List.set_cons_succ]
    refine wpAnyH_done (by kernel_rfl) ?_ _
    have HZ := hide hSx.2.2.2.2.2.2.2.2.2.2
    clear hSx
    go_wp2_with fail
    go_ret
    exact ⟨by first | rfl | exact ret_bool (a := decide (IntKind.i64.wrap 10 ≤ N)) (b := true) hge3, bthen H1.out (bthen HB8.out HZ.out HB8.out.size) s1⟩
  · clear ha
    go_enter Try.func10, Try.ntmps10
    go_wp2_with fail
    refine (laws_big_yes a n c _ hm hc hs).mono ?_
    rintro e w' ⟨rfl, rfl⟩
    go_wp2_with fail
    go_ret
    exact ⟨rfl, by go_grown⟩

set_option maxRecDepth 100000 in
theorem FnSlotTrace_lifted (os : Os) (started : os.Started) (H : Type) (enc : TypeId × Value → H) :
    ReturnsInHanded {} Try.checked os 10 .any (Rows.fnSlotTraceSpec.pre6 enc Try.prog Try.f10 Rows.fnSlotTraceRow.domain false) (Rows.fnSlotTraceSpec.post enc Try.prog Try.f10 false true false false) := by
  refine returnsInHanded_of_change (C := Try.checked) try_own started (by kernel_rfl) Try.func10
    (ChangeSpec.witness6 (enc := enc) (C := Try.checked) false ⟨#[], #[.slice none 0 0], []⟩ 8 (by kernel_rfl) (by kernel_rfl) (by kernel_rfl) (by kernel_rfl)) ?_
  intro W base args ds gs before hval0 hW _ _
  have hval : ∀ (j : Nat) t v, Try.f10.params[j]? = some t → args[j]? = some v → Value.okWide Try.prog W .any base t v := hval0
  have hW' := hW
  obtain ⟨p, q, hA0, hV, rfl, hfz, hnd⟩ := hW
  have hA : DataW.TrodAll enc Try.prog W 0 (fun _ => true) true Try.f10.params.toList args.toList ds p := hA0
  rw [Try.params10] at hA hval
  obtain ⟨v0, vs0, d0, ds0, p0, q0, hargs, rfl, rfl, h0, r0⟩ := trodAll_cons hA
  obtain ⟨rfl, rfl, rfl⟩ := trodAll_nil r0
  obtain rfl : args = #[v0] := by cases args; simp_all
  obtain ⟨rfl, rfl⟩ := trodVars_none hV
  have k0 := h0
  have lt0 : ∀ x ∈ p0, x.block < W.heap.size := by obtain ⟨m, hm⟩ := k0; exact DataW.trod_lt m _ _ _ hm
  obtain ⟨b_x0, m_x0, l_x0, rfl⟩ := okWide_slice Try.underlying22 (hval 0 22 v0 rfl rfl)
  obtain ⟨fu0, h0⟩ := h0
  obtain ⟨a_x0, n_x0, c_x0, x0, e_x0, w_x0⟩ := isBytes_of Try.underlying22 Try.underlying5 (by kernel_rfl) h0
  simp only [Value.cells, List.cons.injEq, and_true] at e_x0
  obtain ⟨q1, q2, q3⟩ : b_x0 = a_x0 ∧ m_x0 = n_x0 ∧ l_x0 = c_x0 := by simpa using e_x0
  replace q1 := q1.symm; replace q2 := q2.symm; replace q3 := q3.symm; subst q1 q2 q3
  clear hA0 hval0
  refine (FnSlotTrace_walk a_x0 n_x0 c_x0 x0 W w_x0).mono fun e W' ⟨he, bel⟩ => ?_
  subst he
  exact ⟨_, rfl, _, _, _, [], _, [], hW', trodAll_mk1 (shut_bool Try.underlying4 _), (trodAll_cons_mk (Below.trod try_laidOut (by kernel_rfl) (of_decide_eq_true (by kernel_rfl)) k0 bel lt0) trodAll_mk0), rfl, bel.frame _, fun h => by cases h⟩

theorem FnSlotTrace_holds : Rows.FnSlotTraceSaid :=
  OpenClaim.holds_of_wide 10 Try.f10 rfl rfl rfl rfl rfl rfl rfl ⟨rfl, rfl, rfl, rfl, rfl⟩ rfl rfl rfl rfl rfl (by kernel_rfl) Try.func10 (by kernel_rfl)
    (of_decide_eq_true (by kernel_rfl)) (by unfold Func.isWrapper; rw [if_neg (of_decide_eq_false (by kernel_rfl))]; exact ⟨rfl, rfl⟩)
    (fun os started H enc _ => FnSlotTrace_lifted os started H enc)
#print axioms FnSlotTrace_holds
end Go.Proofs.Ytahfbhfmhccgoaa
