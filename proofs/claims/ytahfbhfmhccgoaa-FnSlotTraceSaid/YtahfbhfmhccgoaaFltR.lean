/- The program's ranks. -/
import Derived.Test.YtahfbhfmhccgoaaFlt1
import Derived.Test.YtahfbhfmhccgoaaPlaces
set_option linter.unusedSimpArgs false
set_option linter.unusedVariables false
namespace Go.Proofs.Ytahfbhfmhccgoaa
open Go.RowKit Go.ChangeShapes Go.WideShapes Go.ChangeAt Go.Joins Go.Deep
open Go.ChangeMaps (open_string shut_string)
set_option maxRecDepth 100000 in
set_option maxHeartbeats 800000 in
theorem impl_RankNew (g : Ge) (n : Nat) (w : World) (hg : geoOk g = true) (hn : bankCnt g = (n : Int)) :
    Calls Try.prog 98 #[.agg #[.int .i64 g.gr, .int .i64 g.bk, .int .i64 g.rw, .int .i64 g.cl]] w fun e w' => ∃ a c, e = .returned (.agg #[.slice a n c, .int .i64 0]) ∧ Shut w' w.heap.size a n c ∧ Below w.heap.size w w' := by
  obtain ⟨i0_Bk, hi_Bk, hz0_Bk, hz1_Bk, hz2_Bk⟩ := info_parts info_Bk
  have hb := bankCnt_bd g
  have n0 : (0 : Int) ≤ (n : Int) := by omega
  have n8 : (n : Int) ≤ 8 := by omega
  clear hb
  go_enter Try.func98, Try.ntmps98
  go_wp2_with fail
  have kg0 : ((w.alloc (.cells #[.int .i64 g.gr, .int .i64 g.bk, .int .i64 g.rw, .int .i64 g.cl] 43)).alloc (.cells #[.slice none 0 0, .int .i64 0] 143)).heap[w.heap.size]? = some (.cells #[.int .i64 g.gr, .int .i64 g.bk, .int .i64 g.rw, .int .i64 g.cl] 43 (0, 0)) := by rw [alloc_lt _ _ _ (by simp), alloc_at _ _ _ rfl]
  have kr0 : ((w.alloc (.cells #[.int .i64 g.gr, .int .i64 g.bk, .int .i64 g.rw, .int .i64 g.cl] 43)).alloc (.cells #[.slice none 0 0, .int .i64 0] 143)).heap[w.heap.size + 1]? = some (.cells #[.slice none 0 0, .int .i64 0] 143 (0, 0)) := alloc_at _ _ _ (by simp)
  refine (impl_GeometryOk_is g true hg _).mono ?_
  rintro e w0 ⟨rfl, h0⟩
  have hB0 : Below w.heap.size w w0 := bthen (by go_grown) h0 (by simp only [World.size_alloc]; omega)
  have k0 := (h0.block _ (by simp only [World.size_alloc]; omega)).trans kg0
  have K0 := hide ((h0.block _ (by simp only [World.size_alloc]; omega)).trans kr0)
  have s0 := h0.size
  simp only [World.size_alloc] at s0
  have e0 := cell_blk k0 0; have e1 := cell_blk k0 1; have e2 := cell_blk k0 2; have e3 := cell_blk k0 3
  have HB0 := hide hB0
  clear h0 hB0 kg0 kr0 k0
  go_wp2_with fail
  refine (impl_BankCount_is g (n : Int) hn _).mono ?_
  rintro e w1 ⟨rfl, h1⟩
  have k1 : w1.heap[w.heap.size + 1]? = some (.cells #[.slice none 0 0, .int .i64 0] 143 (0, 0)) := (h1.block _ (by omega)).trans K0.out
  have hB1 : Below w.heap.size w w1 := bthen HB0.out h1 HB0.out.size
  have K1 := hide k1; have HB1 := hide hB1
  have s1 := hB1.size; have s1b := lt_blk k1
  clear h1 k1 hB1 e0 e1 e2 e3
  go_wp2_with (at_make; go_loud (refine wpList_make_full _ rfl _ _ 141 rfl w1.heap.size 165 i0_Bk _ 2 Try.underlying141 hi_Bk hz0_Bk hz1_Bk _ _ _ _ n rfl rfl rfl rfl (by rw [hz2_Bk]; omega) (by unfold maxLen; omega) (Nat.le_refl _) ?_; intro w5 hown5 hg5; have K5 := hide ((hg5.block _ s1b (by simp)).trans K1.out); have e50 := cell_blk K5.out 0; have e51 := cell_blk K5.out 1; have HB5 := hide (show Below w.heap.size w w5 from HB1.out.grown hg5 s1 (fun k h => by cases h)); have HO5 := hide hown5; clear hown5 hg5; have l5 := lt_blk K5.out; have f50 : w5.frozen? ⟨w.heap.size + 1, 0, none⟩ = false := (by simp [World.frozen?, K5.out]); have f51 : w5.frozen? ⟨w.heap.size + 1, 1, none⟩ = false := (by simp [World.frozen?, K5.out])))
  have h2 := HO5.out
  rw [made_row (sz := 2) _ rfl, show (Value.agg #[.bool false, .int .i64 0]).cells.toList = [.bool false, .int .i64 0] from rfl, shut_flat] at h2
  have hne := own_ne h2 (b := w.heap.size + 1) (by omega)
  have hSh := hide (own_base ((h2.kept (only_set (o := 0) (only_refl _ _) (.slice (some ⟨w1.heap.size, 0, none⟩) n n)) hne).kept (only_set (o := 1) (only_refl _ _) (.int .i64 0)) hne) s1)
  have hBel := hide ((HB5.out.setCell (p := ⟨w.heap.size + 1, 0, none⟩) (by simp) (.slice (some ⟨w1.heap.size, 0, none⟩) n n)).setCell (p := ⟨w.heap.size + 1, 1, none⟩) (by simp) (.int .i64 0))
  have K6 : ((w5.setCell ⟨w.heap.size + 1, 0, none⟩ (.slice (some ⟨w1.heap.size, 0, none⟩) n n)).setCell ⟨w.heap.size + 1, 1, none⟩ (.int .i64 0)).heap[w.heap.size + 1]? = some (.cells #[.slice (some ⟨w1.heap.size, 0, none⟩) n n, .int .i64 0] 143 (0, 0)) := set_lit (set_lit K5.out rfl) rfl
  clear h2 hne
  generalize ((w5.setCell ⟨w.heap.size + 1, 0, none⟩ (.slice (some ⟨w1.heap.size, 0, none⟩) n n)).setCell ⟨w.heap.size + 1, 1, none⟩ (.int .i64 0)) = W6 at *
  have e60 : W6.cell? ⟨w.heap.size + 1, 0, none⟩ = some (.slice (some ⟨w1.heap.size, 0, none⟩) n n) := cell_blk K6 0
  have e61 : W6.cell? ⟨w.heap.size + 1, 1, none⟩ = some (.int .i64 0) := cell_blk K6 1
  clear K6
  refine bodyPost_ret (by simp [results, Try.results98, go_sem, *]; try rfl) rfl ?_
  exact ⟨_, _, rfl, hSh.out, hBel.out⟩
theorem bk_ones (xs : List Bk) : ∀ u ∈ xs.flatMap bkF, u.oneCell' = true := flat_ones (fun x => rfl) xs
set_option maxRecDepth 100000 in
set_option maxHeartbeats 800000 in
theorem impl_copyRank (a : Option Addr) (n c : Nat) (bs : List Bk) (w : World) (ha : IsStructs bkF 2 w a n c bs) (hn : n ≤ 8) :
    Calls Try.prog 130 #[.agg #[.slice a n c, .int .i64 0]] w fun e w' => ∃ a' c', e = .returned (.agg #[.slice a' n c', .int .i64 0]) ∧ w'.ownsRow w.heap.size 165 2 (.slice a' n c') n (bs.flatMap bkF) ∧ Below w.heap.size w w' := by
  obtain ⟨i0_Bk, hi_Bk, hz0_Bk, hz1_Bk, hz2_Bk⟩ := info_parts info_Bk
  have HA := hide ha
  have HL := hide ha.1
  clear ha
  obtain ⟨W2, hW2⟩ : ∃ W2 : World, W2 = ((w.alloc (.cells #[.slice a n c, .int .i64 0] 143)).alloc (.cells #[.slice none 0 0, .int .i64 0] 143)).alloc (.cells #[] 165) := ⟨_, rfl⟩
  have hB2 : Below w.heap.size w W2 := by rw [hW2]; go_grown
  have k0 : W2.heap[w.heap.size]? = some (.cells #[.slice a n c, .int .i64 0] 143 (0, 0)) := by rw [hW2, alloc_lt _ _ _ (by simp only [World.size_alloc]; omega), alloc_lt _ _ _ (by simp only [World.size_alloc]; omega), alloc_at _ _ _ rfl]
  have k1 : W2.heap[w.heap.size + 1]? = some (.cells #[.slice none 0 0, .int .i64 0] 143 (0, 0)) := by rw [hW2, alloc_lt _ _ _ (by simp only [World.size_alloc]; omega), alloc_at _ _ _ (by simp only [World.size_alloc])]
  have hO : W2.ownsRow (w.heap.size + 1 + 1) 165 2 (.slice (some ⟨w.heap.size + 1 + 1, 0, none⟩) 0 0) 0 [] := by rw [hW2]; exact own_made_at (by simp only [World.size_alloc]) (by simp only [World.size_alloc]; omega)
  have hR : RowIn W2 a (bs.flatMap bkF) := HA.out.2.2.2.below hB2 (Nat.le_refl _)
  have hs2 : w.heap.size + 1 + 1 ≤ W2.heap.size := by rw [hW2]; simp only [World.size_alloc]; omega
  have HB2 := hide hB2; have K0 := hide k0; have K1 := hide k1; have HO := hide hO; have HR := hide hR
  clear hB2 k0 k1 hO hR
  subst hW2
  go_enter Try.func130, Try.ntmps130
  go_wp2_with (at_builtin; refine wpList_append_any rfl _ _ 141 rfl (w.heap.size + 1 + 1) 165 i0_Bk (.agg #[.bool false, .int .i64 0]) 2 16 Try.underlying141 hi_Bk hz0_Bk hz1_Bk hz2_Bk rfl (by decide) _ _ _ rfl HO.out _ _ _ _ rfl (by rw [flat_len bkF_len, HL.out]) HR.out (bk_ones _) ?c3p ?c4p ?c5p ?_)
  (try case c3p => unfold maxLen; omega)
  (try case c4p => omega)
  (try case c5p => exact hs2)
  intro v' w3 hown3 hg3
  obtain ⟨a', c', rfl⟩ := own_shape hown3
  have K03 := hide ((hg3.block _ (lt_blk K0.out) (by simp [Value.ownBlock]; omega)).trans K0.out)
  have K13 := hide ((hg3.block _ (lt_blk K1.out) (by simp [Value.ownBlock])).trans K1.out)
  have HB3 := hide (below_grown HB2.out HO.out (by omega) (by simp only [World.size_alloc]; omega) hg3)
  have HO3 := hide hown3
  clear hown3 hg3
  have e00 := cell_blk K03.out 0; have e01 := cell_blk K03.out 1; have f0 := fun o => free_blk K03.out o
  have e10 := cell_blk K13.out 0; have e11 := cell_blk K13.out 1; have f1 := fun o => free_blk K13.out o
  have l3 := lt_blk K13.out
  go_wp2_with fail
  have hne0 := own_ne HO3.out (b := w.heap.size) (by omega)
  have hne1 := own_ne HO3.out (b := w.heap.size + 1) (by omega)
  have HO6 := hide (own_base (base' := w.heap.size) (((HO3.out.kept (only_set (b := w.heap.size) (o := 0) (only_refl _ _) (.slice a' n c')) hne0).kept (only_set (b := w.heap.size + 1) (o := 0) (only_refl _ _) (.slice a' n c')) hne1).kept (only_set (b := w.heap.size + 1) (o := 1) (only_refl _ _) (.int .i64 0)) hne1) (by omega))
  have HB6 := hide (((HB3.out.setCell (p := ⟨w.heap.size, 0, none⟩) (Nat.le_refl _) (.slice a' n c')).setCell (p := ⟨w.heap.size + 1, 0, none⟩) (by simp) (.slice a' n c')).setCell (p := ⟨w.heap.size + 1, 1, none⟩) (by simp) (.int .i64 0))
  have K6 : (((w3.setCell ⟨w.heap.size, 0, none⟩ (.slice a' n c')).setCell ⟨w.heap.size + 1, 0, none⟩ (.slice a' n c')).setCell ⟨w.heap.size + 1, 1, none⟩ (.int .i64 0)).heap[w.heap.size + 1]? = some (.cells #[.slice a' n c', .int .i64 0] 143 (0, 0)) := set_lit (set_lit ((heap_set_other _ _ _ _ _ (by omega)).trans K13.out) rfl) rfl
  clear hne0 hne1
  generalize (((w3.setCell ⟨w.heap.size, 0, none⟩ (.slice a' n c')).setCell ⟨w.heap.size + 1, 0, none⟩ (.slice a' n c')).setCell ⟨w.heap.size + 1, 1, none⟩ (.int .i64 0)) = W6 at *
  have e60 : W6.cell? ⟨w.heap.size + 1, 0, none⟩ = some (.slice a' n c') := cell_blk K6 0
  have e61 : W6.cell? ⟨w.heap.size + 1, 1, none⟩ = some (.int .i64 0) := cell_blk K6 1
  clear K6
  refine bodyPost_ret (by simp [results, Try.results130, go_sem, *]; try rfl) rfl ?_
  exact ⟨_, _, rfl, HO6.out, HB6.out⟩
set_option maxRecDepth 100000 in
set_option maxHeartbeats 4000000 in
theorem impl_RankOk (g : Ge) (a : Option Addr) (n c : Nat) (bs : List Bk) (w : World) (ha : IsStructs bkF 2 w a n c bs) (hg : geoOk g = true) (hnb : bankCnt g = (n : Int)) (hbk : ∀ b ∈ bs, BkOk g.rw b) :
    Calls Try.prog 149 #[.agg #[.int .i64 g.gr, .int .i64 g.bk, .int .i64 g.rw, .int .i64 g.cl], .agg #[.slice a n c, .int .i64 0]] w fun e w' => e = .returned (.bool true) ∧ Below w.heap.size w w' := by
  have HA := hide ha; have HBK := hide hbk
  have hb := bankCnt_bd g
  have n0 : (0 : Int) ≤ (n : Int) := by omega
  have n8 : n ≤ 8 := by omega
  have hgb := geoOk_bd hg
  have r1 : 2 ≤ g.rw := hgb.2.2.2.2.1
  have r2 : g.rw ≤ 16 := hgb.2.2.2.2.2.1
  have HN := hide hnb
  clear ha hbk hb hgb hnb
  go_enter Try.func149, Try.ntmps149
  go_wp2_with fail
  have kg : ((w.alloc (.cells #[.int .i64 g.gr, .int .i64 g.bk, .int .i64 g.rw, .int .i64 g.cl] 43)).alloc (.cells #[.slice a n c, .int .i64 0] 143)).heap[w.heap.size]? = some (.cells #[.int .i64 g.gr, .int .i64 g.bk, .int .i64 g.rw, .int .i64 g.cl] 43 (0, 0)) := by rw [alloc_lt _ _ _ (by simp), alloc_at _ _ _ rfl]
  have kr : ((w.alloc (.cells #[.int .i64 g.gr, .int .i64 g.bk, .int .i64 g.rw, .int .i64 g.cl] 43)).alloc (.cells #[.slice a n c, .int .i64 0] 143)).heap[w.heap.size + 1]? = some (.cells #[.slice a n c, .int .i64 0] 143 (0, 0)) := alloc_at _ _ _ (by simp)
  have hB : Below w.heap.size w ((w.alloc (.cells #[.int .i64 g.gr, .int .i64 g.bk, .int .i64 g.rw, .int .i64 g.cl] 43)).alloc (.cells #[.slice a n c, .int .i64 0] 143)) := by go_grown
  generalize ((w.alloc (.cells #[.int .i64 g.gr, .int .i64 g.bk, .int .i64 g.rw, .int .i64 g.cl] 43)).alloc (.cells #[.slice a n c, .int .i64 0] 143)) = W at *
  have HB := hide hB; have HK := hide (And.intro kg kr)
  have lkr := lt_blk kr
  have KEEP := hide (show ∀ v, Below W.heap.size W v → v.cell? ⟨w.heap.size, 0, none⟩ = some (.int .i64 g.gr) ∧ v.cell? ⟨w.heap.size, 1, none⟩ = some (.int .i64 g.bk) ∧ v.cell? ⟨w.heap.size, 2, none⟩ = some (.int .i64 g.rw) ∧ v.cell? ⟨w.heap.size, 3, none⟩ = some (.int .i64 g.cl) ∧ v.cell? ⟨w.heap.size + 1, 0, none⟩ = some (.slice a n c) ∧ v.cell? ⟨w.heap.size + 1, 1, none⟩ = some (.int .i64 0) ∧ Below W.heap.size W v from fun v hb =>
    have h1 := (hb.block _ (lt_blk kg)).trans kg
    have h2 := (hb.block _ (lt_blk kr)).trans kr
    ⟨cell_blk h1 0, cell_blk h1 1, cell_blk h1 2, cell_blk h1 3, cell_blk h2 0, cell_blk h2 1, hb⟩)
  clear hB kg kr
  refine wp_region_held_drew (S := fun v => v.cell? ⟨w.heap.size, 0, none⟩ = some (.int .i64 g.gr) ∧ v.cell? ⟨w.heap.size, 1, none⟩ = some (.int .i64 g.bk) ∧ v.cell? ⟨w.heap.size, 2, none⟩ = some (.int .i64 g.rw) ∧ v.cell? ⟨w.heap.size, 3, none⟩ = some (.int .i64 g.cl) ∧ v.cell? ⟨w.heap.size + 1, 0, none⟩ = some (.slice a n c) ∧ v.cell? ⟨w.heap.size + 1, 1, none⟩ = some (.int .i64 0) ∧ Below W.heap.size W v) (by kernel_rfl) (KEEP.out _ (Below.refl _ _).drew) (fun hSx => ?_)
  refine wpAnyH_take (i := 0) (v := ?_) rfl (by kernel_rfl) (by kernel_rfl) (by kernel_rfl) (fun _ _ _ h => h) (Or.inl ⟨by rfl, ?_⟩) (by assumption) ?_
  rotate_left
  · intro w hSw; (try dsimp only at hSw); go_simp; try with_reducible rfl
  try simp only [Act.put, List.getElem_toArray, List.getElem_cons_zero, List.getElem_cons_succ, List.setIfInBounds_toArray, List.set_cons_zero, List.set_cons_succ]
  refine wpAnyH_ready (rs := [1]) (by kernel_rfl) (by simp) ?_
  refine AllReadyH.cons rfl (fun K hK => ?_) AllReadyH.nil
  go_simp
  refine (impl_GeometryOk_is g true hg _).mono ?_
  rintro e y1 ⟨rfl, hy1⟩
  refine hK.out _ _ (KEEP.out _ (bthenS2 hSx.2.2.2.2.2.2 hy1)) (fun hSy => ?_)
  clear hSx hK K
  have hSx := hSy; clear hSy
  try simp only [Act.put, List.getElem_toArray, List.getElem_cons_zero, List.getElem_cons_succ, List.setIfInBounds_toArray, List.set_cons_zero, List.set_cons_succ]
  refine wpAnyH_take (i := 2) (v := ?_) rfl (by kernel_rfl) (by kernel_rfl) (by kernel_rfl) (fun _ _ _ h => h) (Or.inl ⟨by rfl, ?_⟩) (by assumption) ?_
  rotate_left
  · intro w hSw; (try dsimp only at hSw); go_simp; try with_reducible rfl
  try simp only [Act.put, List.getElem_toArray, List.getElem_cons_zero, List.getElem_cons_succ, List.setIfInBounds_toArray, List.set_cons_zero, List.set_cons_succ]
  refine wpAnyH_take (i := 3) (v := ?_) rfl (by kernel_rfl) (by kernel_rfl) (by kernel_rfl) (fun _ _ _ h => h) (Or.inl ⟨by rfl, ?_⟩) (by assumption) ?_
  rotate_left
  · intro w hSw; (try dsimp only at hSw); go_simp; try with_reducible rfl
  try simp only [Act.put, List.getElem_toArray, List.getElem_cons_zero, List.getElem_cons_succ, List.setIfInBounds_toArray, List.set_cons_zero, List.set_cons_succ]
  refine wpAnyH_take (i := 4) (v := ?_) rfl (by kernel_rfl) (by kernel_rfl) (by kernel_rfl) (fun _ _ _ h => h) (Or.inl ⟨by rfl, ?_⟩) (by assumption) ?_
  rotate_left
  · intro w hSw; (try dsimp only at hSw); go_simp; try with_reducible rfl
  try simp only [Act.put, List.getElem_toArray, List.getElem_cons_zero, List.getElem_cons_succ, List.setIfInBounds_toArray, List.set_cons_zero, List.set_cons_succ]
  refine wpAnyH_take (i := 5) (v := ?_) rfl (by kernel_rfl) (by kernel_rfl) (by kernel_rfl) (fun _ _ _ h => h) (Or.inl ⟨by rfl, ?_⟩) (by assumption) ?_
  rotate_left
  · intro w hSw; (try dsimp only at hSw); go_simp; try with_reducible rfl
  try simp only [Act.put, List.getElem_toArray, List.getElem_cons_zero, List.getElem_cons_succ, List.setIfInBounds_toArray, List.set_cons_zero, List.set_cons_succ]
  refine wpAnyH_take (i := 6) (v := ?_) rfl (by kernel_rfl) (by kernel_rfl) (by kernel_rfl) (fun _ _ _ h => h) (Or.inl ⟨by rfl, ?_⟩) (by assumption) ?_
  rotate_left
  · intro w hSw; (try dsimp only at hSw); go_simp; try with_reducible rfl
  try simp only [Act.put, List.getElem_toArray, List.getElem_cons_zero, List.getElem_cons_succ, List.setIfInBounds_toArray, List.set_cons_zero, List.set_cons_succ]
  refine wpAnyH_take (i := 7) (v := ?_) rfl (by kernel_rfl) (by kernel_rfl) (by kernel_rfl) (fun _ _ _ h => h) (Or.inl ⟨by rfl, ?_⟩) (by assumption) ?_
  rotate_left
  · intro w hSw; (try dsimp only at hSw); go_simp; try with_reducible rfl
  try simp only [Act.put, List.getElem_toArray, List.getElem_cons_zero, List.getElem_cons_succ, List.setIfInBounds_toArray, List.set_cons_zero, List.set_cons_succ]
  refine wpAnyH_ready (rs := [8]) (by kernel_rfl) (by simp) ?_
  refine AllReadyH.cons rfl (fun K hK => ?_) AllReadyH.nil
  go_simp
  refine (impl_BankCount_is g (n : Int) HN.out _).mono ?_
  rintro e y2 ⟨rfl, hy2⟩
  refine hK.out _ _ (KEEP.out _ (bthenS2 hSx.2.2.2.2.2.2 hy2)) (fun hSy => ?_)
  clear hSx hK K
  have hSx := hSy; clear hSy
  try simp only [Act.put, List.getElem_toArray, List.getElem_cons_zero, List.getElem_cons_succ, List.setIfInBounds_toArray, List.set_cons_zero, List.set_cons_succ]
  refine wpAnyH_take (i := 9) (v := ?_) rfl (by kernel_rfl) (by kernel_rfl) (by kernel_rfl) (fun _ _ _ h => h) (Or.inl ⟨by rfl, ?_⟩) (by assumption) ?_
  rotate_left
  · intro w hSw; (try dsimp only at hSw); go_simp; try with_reducible rfl
  try simp only [Act.put, List.getElem_toArray, List.getElem_cons_zero, List.getElem_cons_succ, List.setIfInBounds_toArray, List.set_cons_zero, List.set_cons_succ]
  refine wpAnyH_take (i := 10) (v := ?_) rfl (by kernel_rfl) (by kernel_rfl) (by kernel_rfl) (fun _ _ _ h => h) (Or.inl ⟨by rfl, ?_⟩) (by assumption) ?_
  rotate_left
  · intro w hSw; (try dsimp only at hSw); go_simp; try with_reducible rfl
  try simp only [Act.put, List.getElem_toArray, List.getElem_cons_zero, List.getElem_cons_succ, List.setIfInBounds_toArray, List.set_cons_zero, List.set_cons_succ]
  refine wpAnyH_take (i := 11) (v := ?_) rfl (by kernel_rfl) (by kernel_rfl) (by kernel_rfl) (fun _ _ _ h => h) (Or.inl ⟨by rfl, ?_⟩) (by assumption) ?_
  rotate_left
  · intro w hSw; (try dsimp only at hSw); go_simp; try with_reducible rfl
  try simp only [Act.put, List.getElem_toArray, List.getElem_cons_zero, List.getElem_cons_succ, List.setIfInBounds_toArray, List.set_cons_zero, List.set_cons_succ]
  refine wpAnyH_take (i := 12) (v := ?_) rfl (by kernel_rfl) (by kernel_rfl) (by kernel_rfl) (fun _ _ _ h => h) (Or.inl ⟨by rfl, ?_⟩) (by assumption) ?_
  rotate_left
  · intro w hSw; (try dsimp only at hSw); go_simp; try with_reducible rfl
  try simp only [Act.put, List.getElem_toArray, List.getElem_cons_zero, List.getElem_cons_succ, List.setIfInBounds_toArray, List.set_cons_zero, List.set_cons_succ]
  refine wpAnyH_take (i := 13) (v := ?_) rfl (by kernel_rfl) (by kernel_rfl) (by kernel_rfl) (fun _ _ _ h => h) (Or.inl ⟨by rfl, ?_⟩) (by assumption) ?_
  rotate_left
  · intro w hSw; (try dsimp only at hSw); go_simp; try with_reducible rfl
  try simp only [Act.put, List.getElem_toArray, List.getElem_cons_zero, List.getElem_cons_succ, List.setIfInBounds_toArray, List.set_cons_zero, List.set_cons_succ]
  refine wpAnyH_ready (rs := [14]) (by kernel_rfl) (by simp) ?_
  refine AllReadyH.cons rfl (fun K hK => ?_) AllReadyH.nil
  go_simp
  refine (btw_is 77 0 0 2 true _ rfl (impl_between _ _ _ _)).mono ?_
  rintro e y3 ⟨rfl, hy3⟩
  refine hK.out _ _ (KEEP.out _ (bthenS2 hSx.2.2.2.2.2.2 hy3)) (fun hSy => ?_)
  clear hSx hK K
  have hSx := hSy; clear hSy
  try simp only [Act.put, List.getElem_toArray, List.getElem_cons_zero, List.getElem_cons_succ, List.setIfInBounds_toArray, List.set_cons_zero, List.set_cons_succ]
  refine wpAnyH_take (i := 15) (v := ?_) rfl (by kernel_rfl) (by kernel_rfl) (by kernel_rfl) (fun _ _ _ h => h) (Or.inl ⟨by rfl, ?_⟩) (by assumption) ?_
  rotate_left
  · intro w hSw; (try dsimp only at hSw); go_simp; try with_reducible rfl
  try simp only [Act.put, List.getElem_toArray, List.getElem_cons_zero, List.getElem_cons_succ, List.setIfInBounds_toArray, List.set_cons_zero, List.set_cons_succ]
  refine wpAnyH_take (i := 16) (v := ?_) rfl (by kernel_rfl) (by kernel_rfl) (by kernel_rfl) (fun _ _ _ h => h) (Or.inl ⟨by rfl, ?_⟩) (by assumption) ?_
  rotate_left
  · intro w hSw; (try dsimp only at hSw); go_simp; try with_reducible rfl
  try simp only [Act.put, List.getElem_toArray, List.getElem_cons_zero, List.getElem_cons_succ, List.setIfInBounds_toArray, List.set_cons_zero, List.set_cons_succ]
  refine wpAnyH_done (by kernel_rfl) ?_ _
  have HY := hide hSx.2.2.2.2.2.2
  clear hSx KEEP
  obtain ⟨Y, rfl⟩ : ∃ V : World, V = y3 := ⟨_, rfl⟩
  have h2 := (HY.out.block _ (lt_blk HK.out.2)).trans HK.out.2
  have e0 := cell_blk h2 0
  have HKY := hide (And.intro ((HY.out.block _ (lt_blk HK.out.1)).trans HK.out.1) h2)
  have HBY := hide (bthen HB.out HY.out HB.out.size)
  clear h2
  go_wp2_with fail
  go_loopw [27] (fun vi wr => ∃ k : Nat, k ≤ n ∧ vi = .int .i64 k ∧ wr.heap[w.heap.size]? = some (.cells #[.int .i64 g.gr, .int .i64 g.bk, .int .i64 g.rw, .int .i64 g.cl] 43 (0, 0)) ∧ wr.heap[w.heap.size + 1]? = some (.cells #[.slice a n c, .int .i64 0] 143 (0, 0)) ∧ Below w.heap.size w wr) (fun vi _ => n - (intOf vi).toNat)
  case atStart => exact ⟨0, by omega, rfl, HKY.out.1, HKY.out.2, HBY.out⟩
  case round =>
    obtain ⟨k, hk, rfl, kg, kr, hB⟩ := hrel
    have lr := lt_blk kr
    have HK2 := hide (And.intro kg kr)
    have HB2 := hide hB
    by_cases hlt : k < n
    · obtain ⟨b, bb, o, hh_b, rfl, hlb, hcell⟩ := HA.out.get bkF_len (by omega) (show k < n by omega)
      have q0 : wr.cell? ⟨bb, o + k * 2, none⟩ = some (.bool b.opn) := (hB.cell (p := ⟨bb, o + (k * 2 + 0), none⟩) hlb).trans (hcell 0 _ rfl)
      have q1 : wr.cell? ⟨bb, o + k * 2 + 1, none⟩ = some (.int .i64 b.row) := (hB.cell (p := ⟨bb, o + (k * 2 + 1), none⟩) hlb).trans (hcell 1 _ rfl)
      have HE_b := hide hh_b
      have sz_b := hB.size
      have lt_bb : bb < wr.heap.size := (by have := hB.size; omega)
      have lw_bb := hlb
      have i0_b : (0 : Int) ≤ (k : Int) := by omega
      have i1_b : (k : Int) < (n : Int) := by omega
      clear hcell hlb hh_b
      obtain ⟨⟨b0, b1⟩, b2⟩ := HBK.out b (List.mem_of_getElem? HE_b.out)
      have g2 : wr.cell? ⟨w.heap.size, 2, none⟩ = some (.int .i64 g.rw) := cell_blk kg 2
      have hbt : btw b.row 0 (g.rw - 1) = true := btw_mk b0 (by omega)
      have HBT := hide hbt
      have wq : IntKind.i64.wrap (g.rw - 1) = g.rw - 1 := IntWalk.i64_in _ (by omega)
      have lg : w.heap.size < wr.heap.size := by omega
      clear kg kr hB hbt
      cases ho : b.opn
      · have hr0 := b2 ho
        rw [ho] at q0
        rw [hr0] at q1
        rw [hr0] at HBT
        clear b0 b1 b2 ho hr0
        go_wp2_with (go_at_call 77; refine (btw_eqv 77 _ _ _ true _ HBT.out (impl_between _ _ _ _)).mono ?_; rintro e w1 ⟨rfl, rfl⟩)
        go_roundw
        case rel => exact ⟨k + 1, by omega, by go_num, (alloc_lt _ _ _ (by omega)).trans HK2.out.1, (alloc_lt _ _ _ (by omega)).trans HK2.out.2, HB2.out.alloc HB2.out.size _⟩
        case measure => simp [intOf]; omega
      · rw [ho] at q0
        clear b0 b1 b2 ho
        go_wp2_with (go_at_call 77; refine (btw_eqv 77 _ _ _ true _ HBT.out (impl_between _ _ _ _)).mono ?_; rintro e w1 ⟨rfl, rfl⟩)
        go_roundw
        case rel => exact ⟨k + 1, by omega, by go_num, (alloc_lt _ _ _ (by omega)).trans HK2.out.1, (alloc_lt _ _ _ (by omega)).trans HK2.out.2, HB2.out.alloc HB2.out.size _⟩
        case measure => simp [intOf]; omega
    · obtain rfl : k = n := by omega
      have e1 := cell_blk kr 1
      clear kg kr hB
      go_wp2_with fail
      go_ret
      exact ⟨rfl, HB2.out⟩
set_option maxRecDepth 100000 in
set_option maxHeartbeats 4000000 in
theorem impl_Allowed (g : Ge) (a : Option Addr) (n c : Nat) (bs : List Bk) (k b r cl : Int) (bk : Bk) (w : World) (ha : IsStructs bkF 2 w a n c bs) (hg : geoOk g = true) (hnb : bankCnt g = (n : Int)) (hbk : ∀ b ∈ bs, BkOk g.rw b) (hf : CmdIs n g.rw g.cl k b r cl) (hb : bs[b.toNat]? = some bk) (ho : bk.opn = !(k == 1)) :
    Calls Try.prog 131 #[.agg #[.int .i64 g.gr, .int .i64 g.bk, .int .i64 g.rw, .int .i64 g.cl], .agg #[.slice a n c, .int .i64 0], .agg #[.int .i64 k, .int .i64 b, .int .i64 r, .int .i64 cl]] w fun e w' => e = .returned (.bool true) ∧ Below w.heap.size w w' := by
  have HA := hide ha; have HBK := hide hbk; have HF := hide hf; have HN := hide hnb; have HG := hide hg
  obtain ⟨bn, rfl⟩ := Int.eq_ofNat_of_zero_le hf.1.1
  have hbn : bn < n := by have := hf.1.2; omega
  rw [Int.toNat_natCast] at hb
  have hkk : k = 1 ∨ k = 2 ∨ k = 3 ∨ k = 4 := by
    rcases hf.2 with ⟨h, _⟩ | ⟨h, _⟩ | ⟨h, _⟩ | ⟨h, _⟩ <;> omega
  have hb8 := bankCnt_bd g
  have n8 : n ≤ 8 := by omega
  have HB := hide hb; have HO := hide ho
  clear ha hbk hf hnb hg hb8 hb ho
  go_enter Try.func131, Try.ntmps131
  go_wp2_with fail
  have kg : (((w.alloc (.cells #[.int .i64 g.gr, .int .i64 g.bk, .int .i64 g.rw, .int .i64 g.cl] 43)).alloc (.cells #[.slice a n c, .int .i64 0] 143)).alloc (.cells #[.int .i64 k, .int .i64 bn, .int .i64 r, .int .i64 cl] 91)).heap[w.heap.size]? = some (.cells #[.int .i64 g.gr, .int .i64 g.bk, .int .i64 g.rw, .int .i64 g.cl] 43 (0, 0)) := by rw [alloc_lt _ _ _ (by simp only [World.size_alloc]; omega), alloc_lt _ _ _ (by simp only [World.size_alloc]; omega), alloc_at _ _ _ rfl]
  have kr : (((w.alloc (.cells #[.int .i64 g.gr, .int .i64 g.bk, .int .i64 g.rw, .int .i64 g.cl] 43)).alloc (.cells #[.slice a n c, .int .i64 0] 143)).alloc (.cells #[.int .i64 k, .int .i64 bn, .int .i64 r, .int .i64 cl] 91)).heap[w.heap.size + 1]? = some (.cells #[.slice a n c, .int .i64 0] 143 (0, 0)) := by rw [alloc_lt _ _ _ (by simp only [World.size_alloc]; omega), alloc_at _ _ _ (by simp only [World.size_alloc])]
  have kc : (((w.alloc (.cells #[.int .i64 g.gr, .int .i64 g.bk, .int .i64 g.rw, .int .i64 g.cl] 43)).alloc (.cells #[.slice a n c, .int .i64 0] 143)).alloc (.cells #[.int .i64 k, .int .i64 bn, .int .i64 r, .int .i64 cl] 91)).heap[w.heap.size + 1 + 1]? = some (.cells #[.int .i64 k, .int .i64 bn, .int .i64 r, .int .i64 cl] 91 (0, 0)) := alloc_at _ _ _ (by simp only [World.size_alloc])
  have hB : Below w.heap.size w (((w.alloc (.cells #[.int .i64 g.gr, .int .i64 g.bk, .int .i64 g.rw, .int .i64 g.cl] 43)).alloc (.cells #[.slice a n c, .int .i64 0] 143)).alloc (.cells #[.int .i64 k, .int .i64 bn, .int .i64 r, .int .i64 cl] 91)) := by go_grown
  generalize (((w.alloc (.cells #[.int .i64 g.gr, .int .i64 g.bk, .int .i64 g.rw, .int .i64 g.cl] 43)).alloc (.cells #[.slice a n c, .int .i64 0] 143)).alloc (.cells #[.int .i64 k, .int .i64 bn, .int .i64 r, .int .i64 cl] 91)) = W at *
  have HB0 := hide hB
  refine (impl_RankOk g a n c bs _ (HA.out.below HB0.out (Nat.le_refl _)) HG.out HN.out HBK.out).mono ?_
  rintro e w1 ⟨rfl, h1⟩
  have kg1 := (h1.block _ (lt_blk kg)).trans kg
  have kr1 := (h1.block _ (lt_blk kr)).trans kr
  have kc1 := (h1.block _ (lt_blk kc)).trans kc
  have HB1 := hide (bthen HB0.out h1 HB0.out.size)
  have e0 := cell_blk kg1 0; have e1 := cell_blk kg1 1; have e2 := cell_blk kg1 2; have e3 := cell_blk kg1 3
  have d0 := cell_blk kc1 0; have d1 := cell_blk kc1 1; have d2 := cell_blk kc1 2; have d3 := cell_blk kc1 3
  have HK1 := hide (And.intro kr1 kc1)
  clear kg kr kc hB h1 kg1 kr1 kc1
  go_wp2_with fail
  refine (impl_CommandOk g n k bn r cl _ HG.out HN.out HF.out).mono ?_
  rintro e w2 ⟨rfl, h2⟩
  have kr2 := (h2.block _ (lt_blk HK1.out.1)).trans HK1.out.1
  have kc2 := (h2.block _ (lt_blk HK1.out.2)).trans HK1.out.2
  have HB2 := hide (bthen HB1.out h2 HB1.out.size)
  clear e0 e1 e2 e3 d0 d1 d2 d3 h2
  have r0 := cell_blk kr2 0; have r1 := cell_blk kr2 1
  have d0 := cell_blk kc2 0; have d1 := cell_blk kc2 1
  clear kr2 kc2
  obtain ⟨b', bb, o, hh, rfl, hlb, hcell⟩ := HA.out.get bkF_len (by omega) hbn
  obtain rfl : b' = bk := by rw [HB.out] at hh; injection hh with hh; exact hh.symm
  have q0 : w2.cell? ⟨bb, o + bn * 2, none⟩ = some (.bool b'.opn) := (HB2.out.cell (p := ⟨bb, o + (bn * 2 + 0), none⟩) hlb).trans (hcell 0 _ rfl)
  have i0 : (0 : Int) ≤ (bn : Int) := by omega
  have i1 : (bn : Int) < (n : Int) := by omega
  have ho := HO.out
  clear hcell hh
  rcases hkk with rfl | rfl | rfl | rfl
  · rw [show b'.opn = false from ho] at q0
    clear ho
    go_wp2_with fail
    go_ret
    exact ⟨rfl, HB2.out⟩
  all_goals
    rw [show b'.opn = true from ho] at q0
    clear ho
    go_wp2_with fail
    go_ret
    exact ⟨rfl, HB2.out⟩
theorem own_two {w : World} {lo hi n c g bn : Nat} {bs : List Bk} {b : Bk} (h : Owned lo hi w 165 2 (.some ⟨g, 0, none⟩) n c (bs.flatMap bkF)) (hb : bs[bn]? = some b) (o : Bool) (r : Int) :
    Owned lo hi ((w.setCell ⟨g, bn * 2, none⟩ (.bool o)).setCell ⟨g, bn * 2 + 1, none⟩ (.int .i64 r)) 165 2 (.some ⟨g, 0, none⟩) n c ((bs.set bn ⟨o, r⟩).flatMap bkF) := by
  have h1 := (h.store (bn * 2 + 0) (.bool o)).1
  rw [flat_set (sz := 2) bkF_len bs bn 0 b ⟨o, b.row⟩ (.bool o) hb rfl (by omega)] at h1
  have hlt : bn < bs.length := (List.getElem?_eq_some_iff.1 hb).1
  have h2 := (h1.store (bn * 2 + 1) (.int .i64 r)).1
  rw [flat_set (sz := 2) bkF_len (bs.set bn ⟨o, b.row⟩) bn 1 ⟨o, b.row⟩ ⟨o, r⟩ (.int .i64 r) (by simp [hlt]) rfl (by omega), List.set_set] at h2
  exact h2
set_option maxRecDepth 100000 in
set_option maxHeartbeats 4000000 in
theorem impl_RankAfter (g : Ge) (a : Option Addr) (n c : Nat) (bs : List Bk) (e : Ev) (bk : Bk) (w : World) (ha : IsStructs bkF 2 w a n c bs) (hg : geoOk g = true) (hnb : bankCnt g = (n : Int)) (hbk : ∀ b ∈ bs, BkOk g.rw b) (hf : CmdIs n g.rw g.cl e.kind e.bank e.row e.col) (hb : bs[e.bank.toNat]? = some bk) (ho : bk.opn = !(e.kind == 1)) :
    Calls Try.prog 100 #[.agg #[.int .i64 g.gr, .int .i64 g.bk, .int .i64 g.rw, .int .i64 g.cl], .agg #[.slice a n c, .int .i64 0], .agg #[.int .i64 e.kind, .int .i64 e.bank, .int .i64 e.row, .int .i64 e.col]] w fun r w' => ∃ a' c', r = .returned (.tuple #[.agg #[.slice a' n c', .int .i64 0], .bool true]) ∧ w'.ownsRow w.heap.size 165 2 (.slice a' n c') n ((bkTo bs e).flatMap bkF) ∧ Below w.heap.size w w' := by
  have HA := hide ha; have HBK := hide hbk; have HF := hide hf; have HN := hide hnb; have HG := hide hg; have HB := hide hb; have HO := hide ho
  obtain ⟨bn, hbn⟩ := Int.eq_ofNat_of_zero_le hf.1.1
  have hbn2 : bn < n := by have := hf.1.2; omega
  have hkk : e.kind = 1 ∨ e.kind = 2 ∨ e.kind = 3 ∨ e.kind = 4 := by
    rcases hf.2 with ⟨h, _⟩ | ⟨h, _⟩ | ⟨h, _⟩ | ⟨h, _⟩ <;> omega
  have hb8 := bankCnt_bd g
  have n8 : n ≤ 8 := by omega
  have HBN := hide hbn
  clear ha hbk hf hnb hg hb8 hb ho hbn
  go_enter Try.func100, Try.ntmps100
  go_wp2_with fail
  have kg : ((((w.alloc (.cells #[.int .i64 g.gr, .int .i64 g.bk, .int .i64 g.rw, .int .i64 g.cl] 43)).alloc (.cells #[.slice a n c, .int .i64 0] 143)).alloc (.cells #[.int .i64 e.kind, .int .i64 e.bank, .int .i64 e.row, .int .i64 e.col] 91)).alloc (.cells #[.slice none 0 0, .int .i64 0] 143)).heap[w.heap.size]? = some (.cells #[.int .i64 g.gr, .int .i64 g.bk, .int .i64 g.rw, .int .i64 g.cl] 43 (0, 0)) := by rw [alloc_lt _ _ _ (by simp only [World.size_alloc]; omega), alloc_lt _ _ _ (by simp only [World.size_alloc]; omega), alloc_lt _ _ _ (by simp only [World.size_alloc]; omega), alloc_at _ _ _ rfl]
  have kr : ((((w.alloc (.cells #[.int .i64 g.gr, .int .i64 g.bk, .int .i64 g.rw, .int .i64 g.cl] 43)).alloc (.cells #[.slice a n c, .int .i64 0] 143)).alloc (.cells #[.int .i64 e.kind, .int .i64 e.bank, .int .i64 e.row, .int .i64 e.col] 91)).alloc (.cells #[.slice none 0 0, .int .i64 0] 143)).heap[w.heap.size + 1]? = some (.cells #[.slice a n c, .int .i64 0] 143 (0, 0)) := by rw [alloc_lt _ _ _ (by simp only [World.size_alloc]; omega), alloc_lt _ _ _ (by simp only [World.size_alloc]; omega), alloc_at _ _ _ (by simp only [World.size_alloc])]
  have kc : ((((w.alloc (.cells #[.int .i64 g.gr, .int .i64 g.bk, .int .i64 g.rw, .int .i64 g.cl] 43)).alloc (.cells #[.slice a n c, .int .i64 0] 143)).alloc (.cells #[.int .i64 e.kind, .int .i64 e.bank, .int .i64 e.row, .int .i64 e.col] 91)).alloc (.cells #[.slice none 0 0, .int .i64 0] 143)).heap[w.heap.size + 1 + 1]? = some (.cells #[.int .i64 e.kind, .int .i64 e.bank, .int .i64 e.row, .int .i64 e.col] 91 (0, 0)) := by rw [alloc_lt _ _ _ (by simp only [World.size_alloc]; omega), alloc_at _ _ _ (by simp only [World.size_alloc])]
  have ko : ((((w.alloc (.cells #[.int .i64 g.gr, .int .i64 g.bk, .int .i64 g.rw, .int .i64 g.cl] 43)).alloc (.cells #[.slice a n c, .int .i64 0] 143)).alloc (.cells #[.int .i64 e.kind, .int .i64 e.bank, .int .i64 e.row, .int .i64 e.col] 91)).alloc (.cells #[.slice none 0 0, .int .i64 0] 143)).heap[w.heap.size + 1 + 1 + 1]? = some (.cells #[.slice none 0 0, .int .i64 0] 143 (0, 0)) := alloc_at _ _ _ (by simp only [World.size_alloc])
  have hB : Below w.heap.size w ((((w.alloc (.cells #[.int .i64 g.gr, .int .i64 g.bk, .int .i64 g.rw, .int .i64 g.cl] 43)).alloc (.cells #[.slice a n c, .int .i64 0] 143)).alloc (.cells #[.int .i64 e.kind, .int .i64 e.bank, .int .i64 e.row, .int .i64 e.col] 91)).alloc (.cells #[.slice none 0 0, .int .i64 0] 143)) := by go_grown
  generalize ((((w.alloc (.cells #[.int .i64 g.gr, .int .i64 g.bk, .int .i64 g.rw, .int .i64 g.cl] 43)).alloc (.cells #[.slice a n c, .int .i64 0] 143)).alloc (.cells #[.int .i64 e.kind, .int .i64 e.bank, .int .i64 e.row, .int .i64 e.col] 91)).alloc (.cells #[.slice none 0 0, .int .i64 0] 143)) = W at *
  have HB0 := hide hB
  have HK0 := hide (And.intro kg (And.intro kr (And.intro kc ko)))
  have lW := lt_blk ko
  clear kg kr kc ko hB
  refine (impl_copyRank a n c bs _ (HA.out.below HB0.out (Nat.le_refl _)) n8).mono ?_
  rintro x w1 ⟨a', c', rfl, ho1, h1⟩
  have s1 := h1.size
  have hA1 : Below W.heap.size W (w1.alloc (.cells #[.slice a' n c', .int .i64 0] 143)) := h1.alloc s1 _
  have sV : w1.heap.size + 1 ≤ (w1.alloc (.cells #[.slice a' n c', .int .i64 0] 143)).heap.size := by simp
  have kp : (w1.alloc (.cells #[.slice a' n c', .int .i64 0] 143)).heap[w1.heap.size]? = some (.cells #[.slice a' n c', .int .i64 0] 143 (0, 0)) := alloc_at _ _ _ rfl
  have HO1 := hide (Owned.of_own ho1)
  have HOV := hide (HO1.out.below (Below.alloc (Below.refl _ _) (Nat.le_refl _) (.cells #[.slice a' n c', .int .i64 0] 143)) (Nat.le_refl _))
  clear ho1 h1 HO1
  go_upto_region 2 with fail
  generalize (w1.alloc (.cells #[.slice a' n c', .int .i64 0] 143)) = V at *
  have KG := hide ((hA1.block _ (lt_blk HK0.out.1)).trans HK0.out.1)
  have KR := hide ((hA1.block _ (lt_blk HK0.out.2.1)).trans HK0.out.2.1)
  have KC := hide ((hA1.block _ (lt_blk HK0.out.2.2.1)).trans HK0.out.2.2.1)
  have KO := hide ((hA1.block _ (lt_blk HK0.out.2.2.2)).trans HK0.out.2.2.2)
  have KP := hide kp
  have HBV := hide (bthen HB0.out hA1 HB0.out.size)
  clear hA1 kp
  have e0 := cell_blk KG.out 0; have e1 := cell_blk KG.out 1; have e2 := cell_blk KG.out 2; have e3 := cell_blk KG.out 3
  have r0 := cell_blk KR.out 0; have r1 := cell_blk KR.out 1
  have d0 := cell_blk KC.out 0; have d1 := cell_blk KC.out 1; have d2 := cell_blk KC.out 2; have d3 := cell_blk KC.out 3
  have lV := lt_blk KP.out
  go_wp2_with fail
  refine (impl_Allowed g a n c bs e.kind e.bank e.row e.col bk _ (HA.out.below HBV.out (Nat.le_refl _)) HG.out HN.out HBK.out HF.out HB.out HO.out).mono ?_
  rintro x w2 ⟨rfl, h2⟩
  have s2 := h2.size
  have KC2 := hide ((h2.block _ (lt_blk KC.out)).trans KC.out)
  have KO2 := hide ((h2.block _ (lt_blk KO.out)).trans KO.out)
  have KP2 := hide ((h2.block _ lV).trans KP.out)
  have HO2 := hide (HOV.out.below h2 (by omega))
  have HB2 := hide (bthen HBV.out h2 HBV.out.size)
  clear e0 e1 e2 e3 r0 r1 d0 d1 d2 d3 h2 KG KR KC KO KP HOV HBV
  have d0 := cell_blk KC2.out 0; have d1 := cell_blk KC2.out 1; have d2 := cell_blk KC2.out 2
  have p0 := cell_blk KP2.out 0; have p1 := cell_blk KP2.out 1
  have o0 := cell_blk KO2.out 0; have o1 := cell_blk KO2.out 1; have fo := fun o => free_blk KO2.out o
  rw [HBN.out] at d1
  have HB' := hide (show bs[bn]? = some bk by have := HB.out; rw [HBN.out, Int.toNat_natCast] at this; exact this)
  obtain ⟨ga, rfl, hg1, hg2, hg3, hcell, hfr⟩ := HO2.out.some (by omega)
  have i0 : (0 : Int) ≤ (bn : Int) := by omega
  have i1 : (bn : Int) < (n : Int) := by omega
  obtain ⟨u0, c0⟩ : ∃ u, w2.cell? ⟨ga, bn * 2, none⟩ = some u := ⟨_, (hcell (bn * 2) (by omega)).trans (List.getElem?_eq_getElem (by rw [HO2.out.1.1]; omega))⟩
  obtain ⟨u1, c1⟩ : ∃ u, w2.cell? ⟨ga, bn * 2 + 1, none⟩ = some u := ⟨_, (hcell (bn * 2 + 1) (by omega)).trans (List.getElem?_eq_getElem (by rw [HO2.out.1.1]; omega))⟩
  clear hcell
  rcases hkk with hk | hk | hk | hk
  · rw [hk] at d0
    have HKD := hide hk
    clear hk
    go_wp2_with fail
    have hO3 := own_two HO2.out HB'.out true e.row
    have hB3 : Below w.heap.size w ((w2.setCell ⟨ga, bn * 2, none⟩ (.bool true)).setCell ⟨ga, bn * 2 + 1, none⟩ (.int .i64 e.row)) := (HB2.out.setCell (p := ⟨ga, bn * 2, none⟩) (by simp; omega) (.bool true)).setCell (p := ⟨ga, bn * 2 + 1, none⟩) (by simp; omega) (.int .i64 e.row)
    have k3 : ((w2.setCell ⟨ga, bn * 2, none⟩ (.bool true)).setCell ⟨ga, bn * 2 + 1, none⟩ (.int .i64 e.row)).heap[w.heap.size + 1 + 1 + 1]? = some (.cells #[.slice none 0 0, .int .i64 0] 143 (0, 0)) := (heap_set_other _ _ _ _ _ (by omega)).trans ((heap_set_other _ _ _ _ _ (by omega)).trans KO2.out)
    have hne := own_ne hO3.1 (b := w.heap.size + 1 + 1 + 1) (by omega)
    have hO4 := own_base (base' := w.heap.size) ((hO3.1.kept (only_set (b := w.heap.size + 1 + 1 + 1) (o := 0) (only_refl _ _) (.slice (some ⟨ga, 0, none⟩) n c')) hne).kept (only_set (b := w.heap.size + 1 + 1 + 1) (o := 1) (only_refl _ _) (.int .i64 0)) hne) (by omega)
    have hB4 := (hB3.setCell (p := ⟨w.heap.size + 1 + 1 + 1, 0, none⟩) (by simp; omega) (.slice (some ⟨ga, 0, none⟩) n c')).setCell (p := ⟨w.heap.size + 1 + 1 + 1, 1, none⟩) (by simp; omega) (.int .i64 0)
    have k4 := set_lit (v := .int .i64 0) (o := 1) (set_lit (v := (.slice (some ⟨ga, 0, none⟩) n c')) (o := 0) k3 rfl) rfl
    have HO4 := hide hO4; have HB4 := hide hB4; have K4 := hide k4
    clear hO3 hB3 k3 hne hO4 hB4 k4 hfr fo
    generalize ((((w2.setCell ⟨ga, bn * 2, none⟩ (.bool true)).setCell ⟨ga, bn * 2 + 1, none⟩ (.int .i64 e.row)).setCell ⟨w.heap.size + 1 + 1 + 1, 0, none⟩ (.slice (some ⟨ga, 0, none⟩) n c')).setCell ⟨w.heap.size + 1 + 1 + 1, 1, none⟩ (.int .i64 0)) = F at *
    have z0 := cell_blk K4.out 0; have z1 := cell_blk K4.out 1
    refine bodyPost_ret (by simp [results, Try.results100, go_sem, *]; try rfl) rfl ?_
    refine ⟨_, _, rfl, ?_, HB4.out⟩
    rw [show (bkTo bs e = bs.set bn ⟨true, e.row⟩) by rw [bkTo, if_pos HKD.out, HBN.out, Int.toNat_natCast]]
    exact HO4.out
  · rw [hk] at d0
    have HKD := hide hk
    clear hk
    go_wp2_with fail
    have hO3 := HO2.out
    have hB3 := HB2.out
    have k3 := KO2.out
    have hne := own_ne hO3.1 (b := w.heap.size + 1 + 1 + 1) (by omega)
    have hO4 := own_base (base' := w.heap.size) ((hO3.1.kept (only_set (b := w.heap.size + 1 + 1 + 1) (o := 0) (only_refl _ _) (.slice (some ⟨ga, 0, none⟩) n c')) hne).kept (only_set (b := w.heap.size + 1 + 1 + 1) (o := 1) (only_refl _ _) (.int .i64 0)) hne) (by omega)
    have hB4 := (hB3.setCell (p := ⟨w.heap.size + 1 + 1 + 1, 0, none⟩) (by simp; omega) (.slice (some ⟨ga, 0, none⟩) n c')).setCell (p := ⟨w.heap.size + 1 + 1 + 1, 1, none⟩) (by simp; omega) (.int .i64 0)
    have k4 := set_lit (v := .int .i64 0) (o := 1) (set_lit (v := (.slice (some ⟨ga, 0, none⟩) n c')) (o := 0) k3 rfl) rfl
    have HO4 := hide hO4; have HB4 := hide hB4; have K4 := hide k4
    clear hO3 hB3 k3 hne hO4 hB4 k4 hfr fo
    generalize ((w2.setCell ⟨w.heap.size + 1 + 1 + 1, 0, none⟩ (.slice (some ⟨ga, 0, none⟩) n c')).setCell ⟨w.heap.size + 1 + 1 + 1, 1, none⟩ (.int .i64 0)) = F at *
    have z0 := cell_blk K4.out 0; have z1 := cell_blk K4.out 1
    refine bodyPost_ret (by simp [results, Try.results100, go_sem, *]; try rfl) rfl ?_
    refine ⟨_, _, rfl, ?_, HB4.out⟩
    rw [show (bkTo bs e = bs) by rw [bkTo, if_neg (by rw [HKD.out]; decide), if_neg (by rw [HKD.out]; decide)]]
    exact HO4.out
  · rw [hk] at d0
    have HKD := hide hk
    clear hk
    go_wp2_with fail
    have hO3 := HO2.out
    have hB3 := HB2.out
    have k3 := KO2.out
    have hne := own_ne hO3.1 (b := w.heap.size + 1 + 1 + 1) (by omega)
    have hO4 := own_base (base' := w.heap.size) ((hO3.1.kept (only_set (b := w.heap.size + 1 + 1 + 1) (o := 0) (only_refl _ _) (.slice (some ⟨ga, 0, none⟩) n c')) hne).kept (only_set (b := w.heap.size + 1 + 1 + 1) (o := 1) (only_refl _ _) (.int .i64 0)) hne) (by omega)
    have hB4 := (hB3.setCell (p := ⟨w.heap.size + 1 + 1 + 1, 0, none⟩) (by simp; omega) (.slice (some ⟨ga, 0, none⟩) n c')).setCell (p := ⟨w.heap.size + 1 + 1 + 1, 1, none⟩) (by simp; omega) (.int .i64 0)
    have k4 := set_lit (v := .int .i64 0) (o := 1) (set_lit (v := (.slice (some ⟨ga, 0, none⟩) n c')) (o := 0) k3 rfl) rfl
    have HO4 := hide hO4; have HB4 := hide hB4; have K4 := hide k4
    clear hO3 hB3 k3 hne hO4 hB4 k4 hfr fo
    generalize ((w2.setCell ⟨w.heap.size + 1 + 1 + 1, 0, none⟩ (.slice (some ⟨ga, 0, none⟩) n c')).setCell ⟨w.heap.size + 1 + 1 + 1, 1, none⟩ (.int .i64 0)) = F at *
    have z0 := cell_blk K4.out 0; have z1 := cell_blk K4.out 1
    refine bodyPost_ret (by simp [results, Try.results100, go_sem, *]; try rfl) rfl ?_
    refine ⟨_, _, rfl, ?_, HB4.out⟩
    rw [show (bkTo bs e = bs) by rw [bkTo, if_neg (by rw [HKD.out]; decide), if_neg (by rw [HKD.out]; decide)]]
    exact HO4.out
  · rw [hk] at d0
    have HKD := hide hk
    clear hk
    go_wp2_with fail
    have hO3 := own_two HO2.out HB'.out false 0
    have hB3 : Below w.heap.size w ((w2.setCell ⟨ga, bn * 2, none⟩ (.bool false)).setCell ⟨ga, bn * 2 + 1, none⟩ (.int .i64 0)) := (HB2.out.setCell (p := ⟨ga, bn * 2, none⟩) (by simp; omega) (.bool false)).setCell (p := ⟨ga, bn * 2 + 1, none⟩) (by simp; omega) (.int .i64 0)
    have k3 : ((w2.setCell ⟨ga, bn * 2, none⟩ (.bool false)).setCell ⟨ga, bn * 2 + 1, none⟩ (.int .i64 0)).heap[w.heap.size + 1 + 1 + 1]? = some (.cells #[.slice none 0 0, .int .i64 0] 143 (0, 0)) := (heap_set_other _ _ _ _ _ (by omega)).trans ((heap_set_other _ _ _ _ _ (by omega)).trans KO2.out)
    have hne := own_ne hO3.1 (b := w.heap.size + 1 + 1 + 1) (by omega)
    have hO4 := own_base (base' := w.heap.size) ((hO3.1.kept (only_set (b := w.heap.size + 1 + 1 + 1) (o := 0) (only_refl _ _) (.slice (some ⟨ga, 0, none⟩) n c')) hne).kept (only_set (b := w.heap.size + 1 + 1 + 1) (o := 1) (only_refl _ _) (.int .i64 0)) hne) (by omega)
    have hB4 := (hB3.setCell (p := ⟨w.heap.size + 1 + 1 + 1, 0, none⟩) (by simp; omega) (.slice (some ⟨ga, 0, none⟩) n c')).setCell (p := ⟨w.heap.size + 1 + 1 + 1, 1, none⟩) (by simp; omega) (.int .i64 0)
    have k4 := set_lit (v := .int .i64 0) (o := 1) (set_lit (v := (.slice (some ⟨ga, 0, none⟩) n c')) (o := 0) k3 rfl) rfl
    have HO4 := hide hO4; have HB4 := hide hB4; have K4 := hide k4
    clear hO3 hB3 k3 hne hO4 hB4 k4 hfr fo
    generalize ((((w2.setCell ⟨ga, bn * 2, none⟩ (.bool false)).setCell ⟨ga, bn * 2 + 1, none⟩ (.int .i64 0)).setCell ⟨w.heap.size + 1 + 1 + 1, 0, none⟩ (.slice (some ⟨ga, 0, none⟩) n c')).setCell ⟨w.heap.size + 1 + 1 + 1, 1, none⟩ (.int .i64 0)) = F at *
    have z0 := cell_blk K4.out 0; have z1 := cell_blk K4.out 1
    refine bodyPost_ret (by simp [results, Try.results100, go_sem, *]; try rfl) rfl ?_
    refine ⟨_, _, rfl, ?_, HB4.out⟩
    rw [show (bkTo bs e = bs.set bn ⟨false, 0⟩) by rw [bkTo, if_neg (by rw [HKD.out]; decide), if_pos HKD.out, HBN.out, Int.toNat_natCast]]
    exact HO4.out
end Go.Proofs.Ytahfbhfmhccgoaa
