/- The program's gap between two commands. -/
import Derived.Test.YtahfbhfmhccgoaaFlt1
set_option linter.unusedSimpArgs false
set_option linter.unusedVariables false
namespace Go.Proofs.Ytahfbhfmhccgoaa
open Go.RowKit Go.ChangeShapes Go.WideShapes Go.ChangeAt Go.Joins Go.Deep
open Go.ChangeMaps (open_string shut_string)
theorem rankGap_pick (p : Nat) (a b v : Int) (near : Bool) (w : World) (hc : w.cell? ⟨p, 0, none⟩ = some (.bool near)) (hv : (if near = true then a else b) = v) :
    Calls Try.prog 157 #[.int .i64 a, .int .i64 b, .pointer (some ⟨p, 0, none⟩)] w fun e w' => e = .returned (.int .i64 v) ∧ Below w.heap.size w w' := by
  cases near
  · simp at hv; subst hv
    go_enter Try.func157, Try.ntmps157
    go_wp2_with fail
    go_ret
    exact ⟨rfl, Below.refl _ _⟩
  · simp at hv; subst hv
    go_enter Try.func157, Try.ntmps157
    go_wp2_with fail
    go_ret
    exact ⟨rfl, Below.refl _ _⟩
set_option maxRecDepth 100000 in
set_option maxHeartbeats 4000000 in
theorem impl_rankGap (t : Tm) (a b v : Int) (near : Bool) (w : World) (ha : 1 ≤ a ∧ a ≤ 4) (hb : 1 ≤ b ∧ b ≤ 4) (hv : rankG t a b near = v) :
    Calls Try.prog 151 #[.agg (tmC t).toArray, .int .i64 a, .int .i64 b, .bool near] w fun e w' => e = .returned (.int .i64 v) ∧ Below w.heap.size w w' := by
  obtain ⟨tc0, tc1, tc2, tc3, tc4, tc5, tc6, tc7, tc8, tc9, tc10, tc11, tc12, tc13, tc14, tc15, tc16⟩ := tm_at t
  go_enter Try.func151, Try.ntmps151
  go_upto_region 2 with fail
  have kt : ((w.alloc (.cells (tmC t).toArray 73)).alloc (.cells #[.bool near] 4)).heap[w.heap.size]? = some (.cells (tmC t).toArray 73 (0, 0)) := by rw [alloc_lt _ _ _ (by simp), alloc_at _ _ _ rfl]
  have kn : ((w.alloc (.cells (tmC t).toArray 73)).alloc (.cells #[.bool near] 4)).heap[w.heap.size + 1]? = some (.cells #[.bool near] 4 (0, 0)) := alloc_at _ _ _ (by simp)
  have hB : Below w.heap.size w ((w.alloc (.cells (tmC t).toArray 73)).alloc (.cells #[.bool near] 4)) := by go_grown
  generalize ((w.alloc (.cells (tmC t).toArray 73)).alloc (.cells #[.bool near] 4)) = W at *
  have c3 : W.cell? ⟨w.heap.size, 3, none⟩ = some (.int .i64 t.rrds) := (cell_blk kt 3).trans (by simp [tc3])
  have c4 : W.cell? ⟨w.heap.size, 4, none⟩ = some (.int .i64 t.rrdl) := (cell_blk kt 4).trans (by simp [tc4])
  have c6 : W.cell? ⟨w.heap.size, 6, none⟩ = some (.int .i64 t.ccds) := (cell_blk kt 6).trans (by simp [tc6])
  have c7 : W.cell? ⟨w.heap.size, 7, none⟩ = some (.int .i64 t.ccdl) := (cell_blk kt 7).trans (by simp [tc7])
  have c10 : W.cell? ⟨w.heap.size, 10, none⟩ = some (.int .i64 t.wtrs) := (cell_blk kt 10).trans (by simp [tc10])
  have c11 : W.cell? ⟨w.heap.size, 11, none⟩ = some (.int .i64 t.wtrl) := (cell_blk kt 11).trans (by simp [tc11])
  have c12 : W.cell? ⟨w.heap.size, 12, none⟩ = some (.int .i64 t.rtw) := (cell_blk kt 12).trans (by simp [tc12])
  have HN := hide (show W.cell? ⟨w.heap.size + 1, 0, none⟩ = some (.bool near) from cell_blk kn 0)
  have HB := hide hB
  clear tc0 tc1 tc2 tc3 tc4 tc5 tc6 tc7 tc8 tc9 tc10 tc11 tc12 tc13 tc14 tc15 tc16 kt kn hB
  have ha4 : a = 1 ∨ a = 2 ∨ a = 3 ∨ a = 4 := by omega
  have hb4 : b = 1 ∨ b = 2 ∨ b = 3 ∨ b = 4 := by omega
  clear ha hb
  rcases ha4 with rfl | rfl | rfl | rfl <;> rcases hb4 with rfl | rfl | rfl | rfl
  all_goals
    simp only [rankG, Int.reduceEq, if_true, if_false] at hv
    have HV := hide hv
    first
      | (obtain rfl := hv
         go_wp2_with fail
         go_ret
         exact ⟨rfl, HB.out⟩)
      | (clear hv
         go_wp2_with fail
         refine (rankGap_pick _ _ _ v near _ HN.out HV.out).mono ?_
         rintro e w1 ⟨rfl, h1⟩
         go_wp2_with fail
         go_ret
         exact ⟨rfl, bthen HB.out h1 HB.out.size⟩)
set_option maxRecDepth 100000 in
set_option maxHeartbeats 4000000 in
theorem impl_bankGap (t : Tm) (a b v : Int) (w : World) (hok : tmOk t = true) (ha : 1 ≤ a ∧ a ≤ 4) (hb : 1 ≤ b ∧ b ≤ 4) (hv : bankG t a b = v) :
    Calls Try.prog 153 #[.agg (tmC t).toArray, .int .i64 a, .int .i64 b] w fun e w' => e = .returned (.int .i64 v) ∧ Below w.heap.size w w' := by
  obtain ⟨tc0, tc1, tc2, tc3, tc4, tc5, tc6, tc7, tc8, tc9, tc10, tc11, tc12, tc13, tc14, tc15, tc16⟩ := tm_at t
  obtain ⟨⟨x0, y0⟩, ⟨x1, y1⟩, ⟨x2, y2⟩, _, _, _, _, _, ⟨x8, y8⟩, ⟨x9, y9⟩, hrest⟩ := tmOk_bd hok
  have e1 : IntKind.i64.wrap (t.ras + t.rp) = t.ras + t.rp := IntWalk.i64_in _ (by omega)
  have e2 : IntKind.i64.wrap (t.rtp + t.rp) = t.rtp + t.rp := IntWalk.i64_in _ (by omega)
  have e3 : IntKind.i64.wrap (t.wr + t.rp) = t.wr + t.rp := IntWalk.i64_in _ (by omega)
  clear hrest x0 y0 x1 y1 x2 y2 x8 y8 x9 y9
  go_enter Try.func153, Try.ntmps153
  go_upto_region 1 with fail
  have kt : (w.alloc (.cells (tmC t).toArray 73)).heap[w.heap.size]? = some (.cells (tmC t).toArray 73 (0, 0)) := alloc_at _ _ _ rfl
  have hB : Below w.heap.size w (w.alloc (.cells (tmC t).toArray 73)) := by go_grown
  generalize (w.alloc (.cells (tmC t).toArray 73)) = W at *
  have c0 : W.cell? ⟨w.heap.size, 0, none⟩ = some (.int .i64 t.rcd) := (cell_blk kt 0).trans (by simp [tc0])
  have c1 : W.cell? ⟨w.heap.size, 1, none⟩ = some (.int .i64 t.rp) := (cell_blk kt 1).trans (by simp [tc1])
  have c2 : W.cell? ⟨w.heap.size, 2, none⟩ = some (.int .i64 t.ras) := (cell_blk kt 2).trans (by simp [tc2])
  have c8 : W.cell? ⟨w.heap.size, 8, none⟩ = some (.int .i64 t.rtp) := (cell_blk kt 8).trans (by simp [tc8])
  have c9 : W.cell? ⟨w.heap.size, 9, none⟩ = some (.int .i64 t.wr) := (cell_blk kt 9).trans (by simp [tc9])
  have HB := hide hB
  clear tc0 tc1 tc2 tc3 tc4 tc5 tc6 tc7 tc8 tc9 tc10 tc11 tc12 tc13 tc14 tc15 tc16 kt hB
  have ha4 : a = 1 ∨ a = 2 ∨ a = 3 ∨ a = 4 := by omega
  have hb4 : b = 1 ∨ b = 2 ∨ b = 3 ∨ b = 4 := by omega
  clear ha hb
  rcases ha4 with rfl | rfl | rfl | rfl <;> rcases hb4 with rfl | rfl | rfl | rfl
  all_goals
    simp only [bankG, Int.reduceEq, if_true, if_false] at hv
    obtain rfl := hv
    go_wp2_with fail
    go_ret
    exact ⟨rfl, HB.out⟩
theorem run_max2 (w : World) (x y m : Int) (h : max x y = m) : (Builtin.max_ #[3, 3] 3 #[.int .i64 x, .int .i64 y]).run Try.prog w = .ok (.int .i64 m) w := by
  subst h; exact fold_max .i64 w [y] x
theorem impl_bankGap_is (t : Tm) (a b v : Int) (w : World) (hok : tmOk t = true) (ha : 1 ≤ a ∧ a ≤ 4) (hb : 1 ≤ b ∧ b ≤ 4) (hv : bankG t a b = v) :
    Calls Try.prog 153 #[.agg (tmC t).toArray, .int .i64 a, .int .i64 b] w fun e w' => e = .returned (.int .i64 v) ∧ Below w.heap.size w w' := impl_bankGap t a b v w hok ha hb hv
set_option maxRecDepth 100000 in
set_option maxHeartbeats 4000000 in
theorem impl_gap (g : Ge) (t : Tm) (f e : Ev) (m : Int) (w : World) (hg : geoOk g = true) (hok : tmOk t = true) (hf : (1 ≤ f.kind ∧ f.kind ≤ 4) ∧ (0 ≤ f.bank ∧ f.bank < bankCnt g)) (he : (1 ≤ e.kind ∧ e.kind ≤ 4) ∧ (0 ≤ e.bank ∧ e.bank < bankCnt g)) (hm : gapG g t f e = m) :
    Calls Try.prog 132 #[.agg #[.int .i64 g.gr, .int .i64 g.bk, .int .i64 g.rw, .int .i64 g.cl], .agg (tmC t).toArray, .agg #[.int .i64 f.kind, .int .i64 f.bank, .int .i64 f.row, .int .i64 f.col], .agg #[.int .i64 e.kind, .int .i64 e.bank, .int .i64 e.row, .int .i64 e.col]] w fun r w' => r = .returned (.int .i64 m) ∧ Below w.heap.size w w' := by
  obtain ⟨x1, hx1⟩ : ∃ x, grpOf g f.bank = x := ⟨_, rfl⟩
  obtain ⟨x2, hx2⟩ : ∃ x, grpOf g e.bank = x := ⟨_, rfl⟩
  obtain ⟨near, hnear⟩ : ∃ b, (x1 == x2) = b := ⟨_, rfl⟩
  obtain ⟨v, hv⟩ : ∃ v, rankG t f.kind e.kind near = v := ⟨_, rfl⟩
  obtain ⟨u, hu⟩ : ∃ u, bankG t f.kind e.kind = u := ⟨_, rfl⟩
  obtain ⟨m1, hm1⟩ : ∃ z, max 1 v = z := ⟨_, rfl⟩
  have hm2 : (if f.bank = e.bank then max m1 u else m1) = m := by
    rw [← hm]; unfold gapG; rw [hx1, hx2, hnear, hv, hu, hm1]
  have hmx := fun w => run_max2 w 1 v m1 hm1
  have k1 : btw f.kind 1 5 = true := btw_mk (by omega) (by omega)
  have k2 : btw e.kind 1 5 = true := btw_mk (by omega) (by omega)
  have HF := hide hf; have HE := hide he; have HX1 := hide hx1; have HX2 := hide hx2; have HV := hide hv; have HU := hide hu; have HM2 := hide hm2
  clear hm hf he hx1 hx2 hv hu hm1 hm2
  go_enter Try.func132, Try.ntmps132
  go_upto_region 1 with fail
  have kg : ((((w.alloc (.cells #[.int .i64 g.gr, .int .i64 g.bk, .int .i64 g.rw, .int .i64 g.cl] 43)).alloc (.cells (tmC t).toArray 73)).alloc (.cells #[.int .i64 f.kind, .int .i64 f.bank, .int .i64 f.row, .int .i64 f.col] 91)).alloc (.cells #[.int .i64 e.kind, .int .i64 e.bank, .int .i64 e.row, .int .i64 e.col] 91)).heap[w.heap.size]? = some (.cells #[.int .i64 g.gr, .int .i64 g.bk, .int .i64 g.rw, .int .i64 g.cl] 43 (0, 0)) := by rw [alloc_lt _ _ _ (by simp only [World.size_alloc]; omega), alloc_lt _ _ _ (by simp only [World.size_alloc]; omega), alloc_lt _ _ _ (by simp only [World.size_alloc]; omega), alloc_at _ _ _ rfl]
  have kt : ((((w.alloc (.cells #[.int .i64 g.gr, .int .i64 g.bk, .int .i64 g.rw, .int .i64 g.cl] 43)).alloc (.cells (tmC t).toArray 73)).alloc (.cells #[.int .i64 f.kind, .int .i64 f.bank, .int .i64 f.row, .int .i64 f.col] 91)).alloc (.cells #[.int .i64 e.kind, .int .i64 e.bank, .int .i64 e.row, .int .i64 e.col] 91)).heap[w.heap.size + 1]? = some (.cells (tmC t).toArray 73 (0, 0)) := by rw [alloc_lt _ _ _ (by simp only [World.size_alloc]; omega), alloc_lt _ _ _ (by simp only [World.size_alloc]; omega), alloc_at _ _ _ (by simp only [World.size_alloc])]
  have kf : ((((w.alloc (.cells #[.int .i64 g.gr, .int .i64 g.bk, .int .i64 g.rw, .int .i64 g.cl] 43)).alloc (.cells (tmC t).toArray 73)).alloc (.cells #[.int .i64 f.kind, .int .i64 f.bank, .int .i64 f.row, .int .i64 f.col] 91)).alloc (.cells #[.int .i64 e.kind, .int .i64 e.bank, .int .i64 e.row, .int .i64 e.col] 91)).heap[w.heap.size + 1 + 1]? = some (.cells #[.int .i64 f.kind, .int .i64 f.bank, .int .i64 f.row, .int .i64 f.col] 91 (0, 0)) := by rw [alloc_lt _ _ _ (by simp only [World.size_alloc]; omega), alloc_at _ _ _ (by simp only [World.size_alloc])]
  have ke : ((((w.alloc (.cells #[.int .i64 g.gr, .int .i64 g.bk, .int .i64 g.rw, .int .i64 g.cl] 43)).alloc (.cells (tmC t).toArray 73)).alloc (.cells #[.int .i64 f.kind, .int .i64 f.bank, .int .i64 f.row, .int .i64 f.col] 91)).alloc (.cells #[.int .i64 e.kind, .int .i64 e.bank, .int .i64 e.row, .int .i64 e.col] 91)).heap[w.heap.size + 1 + 1 + 1]? = some (.cells #[.int .i64 e.kind, .int .i64 e.bank, .int .i64 e.row, .int .i64 e.col] 91 (0, 0)) := alloc_at _ _ _ (by simp only [World.size_alloc])
  have hB : Below w.heap.size w ((((w.alloc (.cells #[.int .i64 g.gr, .int .i64 g.bk, .int .i64 g.rw, .int .i64 g.cl] 43)).alloc (.cells (tmC t).toArray 73)).alloc (.cells #[.int .i64 f.kind, .int .i64 f.bank, .int .i64 f.row, .int .i64 f.col] 91)).alloc (.cells #[.int .i64 e.kind, .int .i64 e.bank, .int .i64 e.row, .int .i64 e.col] 91)) := by go_grown
  generalize ((((w.alloc (.cells #[.int .i64 g.gr, .int .i64 g.bk, .int .i64 g.rw, .int .i64 g.cl] 43)).alloc (.cells (tmC t).toArray 73)).alloc (.cells #[.int .i64 f.kind, .int .i64 f.bank, .int .i64 f.row, .int .i64 f.col] 91)).alloc (.cells #[.int .i64 e.kind, .int .i64 e.bank, .int .i64 e.row, .int .i64 e.col] 91)) = W at *
  have HB := hide hB
  have KEEP := hide (show ∀ v, Below W.heap.size W v → v.heap[w.heap.size + 1]? = some (.cells (tmC t).toArray 73 (0, 0)) ∧ v.cell? ⟨w.heap.size, 0, none⟩ = some (.int .i64 g.gr) ∧ v.cell? ⟨w.heap.size, 1, none⟩ = some (.int .i64 g.bk) ∧ v.cell? ⟨w.heap.size, 2, none⟩ = some (.int .i64 g.rw) ∧ v.cell? ⟨w.heap.size, 3, none⟩ = some (.int .i64 g.cl) ∧ v.cell? ⟨w.heap.size + 1 + 1, 0, none⟩ = some (.int .i64 f.kind) ∧ v.cell? ⟨w.heap.size + 1 + 1, 1, none⟩ = some (.int .i64 f.bank) ∧ v.cell? ⟨w.heap.size + 1 + 1 + 1, 0, none⟩ = some (.int .i64 e.kind) ∧ v.cell? ⟨w.heap.size + 1 + 1 + 1, 1, none⟩ = some (.int .i64 e.bank) ∧ Below W.heap.size W v from fun v hb =>
    have h1 := (hb.block _ (lt_blk kg)).trans kg
    have h2 := (hb.block _ (lt_blk kt)).trans kt
    have h3 := (hb.block _ (lt_blk kf)).trans kf
    have h4 := (hb.block _ (lt_blk ke)).trans ke
    ⟨h2, cell_blk h1 0, cell_blk h1 1, cell_blk h1 2, cell_blk h1 3, cell_blk h3 0, cell_blk h3 1, cell_blk h4 0, cell_blk h4 1, hb⟩)
  clear hB kg kt kf ke
  have h0 := KEEP.out W (Below.refl _ _)
  have c0 := h0.2.2.2.2.2.1
  clear h0
  go_wp2_with fail
  refine (impl_usesBank f.kind true k1 _).mono ?_
  rintro r w1 ⟨rfl, h1⟩
  have h0 := KEEP.out w1 h1
  have c1 := h0.2.2.2.2.2.2.2.1
  clear h0 c0
  go_wp2_with fail
  refine (impl_usesBank e.kind true k2 _).mono ?_
  rintro r w2 ⟨rfl, h2⟩
  have HB2 := hide (bthenS2 h1 h2)
  clear c1 h1 h2 k1 k2
  go_wp2_with fail
  refine wp_region_held_drew (S := fun v => v.heap[w.heap.size + 1]? = some (.cells (tmC t).toArray 73 (0, 0)) ∧ v.cell? ⟨w.heap.size, 0, none⟩ = some (.int .i64 g.gr) ∧ v.cell? ⟨w.heap.size, 1, none⟩ = some (.int .i64 g.bk) ∧ v.cell? ⟨w.heap.size, 2, none⟩ = some (.int .i64 g.rw) ∧ v.cell? ⟨w.heap.size, 3, none⟩ = some (.int .i64 g.cl) ∧ v.cell? ⟨w.heap.size + 1 + 1, 0, none⟩ = some (.int .i64 f.kind) ∧ v.cell? ⟨w.heap.size + 1 + 1, 1, none⟩ = some (.int .i64 f.bank) ∧ v.cell? ⟨w.heap.size + 1 + 1 + 1, 0, none⟩ = some (.int .i64 e.kind) ∧ v.cell? ⟨w.heap.size + 1 + 1 + 1, 1, none⟩ = some (.int .i64 e.bank) ∧ Below W.heap.size W v) (by kernel_rfl) (KEEP.out _ HB2.out.drew) (fun hSx => ?_)
  refine wpAnyH_take (i := 0) rfl (by kernel_rfl) (by kernel_rfl) (by kernel_rfl) (fun _ _ _ h => h) (yieldsIf_load_row (by rfl) 73 _ rfl (w.heap.size + 1) rfl 73 ((tmC t).toArray) (0, 0) _ (fun _ h => h.1) Try.underlying73 (tmC_info t)) (by assumption) ?_
  try simp only [Act.put, List.getElem_toArray, List.getElem_cons_zero, List.getElem_cons_succ, List.setIfInBounds_toArray, List.set_cons_zero, List.set_cons_succ]
  refine wpAnyH_take (i := 1) (v := ?_) rfl (by kernel_rfl) (by kernel_rfl) (by kernel_rfl) (fun _ _ _ h => h) (Or.inl ⟨by rfl, ?_⟩) (by assumption) ?_
  rotate_left
  · intro w hSw; (try dsimp only at hSw); go_simp; try with_reducible rfl
  try simp only [Act.put, List.getElem_toArray, List.getElem_cons_zero, List.getElem_cons_succ, List.setIfInBounds_toArray, List.set_cons_zero, List.set_cons_succ]
  refine wpAnyH_take (i := 2) (v := ?_) rfl (by kernel_rfl) (by kernel_rfl) (by kernel_rfl) (fun _ _ _ h => h) (Or.inl ⟨by rfl, ?_⟩) (by assumption) ?_
  rotate_left
  · intro w hSw; (try dsimp only at hSw); go_simp; try with_reducible rfl
  try simp only [Act.put, List.getElem_toArray, List.getElem_cons_zero, List.getElem_cons_succ, List.setIfInBounds_toArray, List.set_cons_zero, List.set_cons_succ]
  refine wpAnyH_take (i := 3) (v := ?_) rfl (by kernel_rfl) (by kernel_rfl) (by kernel_rfl) (fun _ _ _ h => h) (Or.inl ⟨by rfl, ?_⟩) (by assumption) ?_
  rotate_left
  · intro w hSw; (try dsimp only at hSw); go_simp; try with_reducible rfl
  try simp only [Act.put, List.getElem_toArray, List.getElem_cons_zero, List.getElem_cons_succ, List.setIfInBounds_toArray, List.set_cons_zero, List.set_cons_succ]
  refine wpAnyH_take (i := 4) (v := ?_) rfl (by kernel_rfl) (by kernel_rfl) (by kernel_rfl) (fun _ _ _ h => h) (Or.inl ⟨by rfl, ?_⟩) (by assumption) ?_
  rotate_left
  · intro w hSw; (try dsimp only at hSw); go_simp; try with_reducible rfl
  try simp only [Act.put, List.getElem_toArray, List.getElem_cons_zero, List.getElem_cons_succ, List.setIfInBounds_toArray, List.set_cons_zero, List.set_cons_succ]
  refine wpAnyH_take (i := 5) (v := ?_) rfl (by kernel_rfl) (by kernel_rfl) (by kernel_rfl) (fun _ _ _ h => h) (Or.inl ⟨by rfl, ?_⟩) (by assumption) ?_
  rotate_left
  · intro w hSw; (try dsimp only at hSw); go_simp; try with_reducible rfl
  try simp only [Act.put, List.getElem_toArray, List.getElem_cons_zero, List.getElem_cons_succ, List.setIfInBounds_toArray, List.set_cons_zero, List.set_cons_succ]
  refine wpAnyH_take (i := 6) (v := ?_) rfl (by kernel_rfl) (by kernel_rfl) (by kernel_rfl) (fun _ _ _ h => h) (Or.inl ⟨by rfl, ?_⟩) (by assumption) ?_
  rotate_left
  · intro w hSw; (try dsimp only at hSw); go_simp; try with_reducible rfl
  try simp only [Act.put, List.getElem_toArray, List.getElem_cons_zero, List.getElem_cons_succ, List.setIfInBounds_toArray, List.set_cons_zero, List.set_cons_succ]
  refine wpAnyH_take (i := 7) (v := ?_) rfl (by kernel_rfl) (by kernel_rfl) (by kernel_rfl) (fun _ _ _ h => h) (Or.inl ⟨by rfl, ?_⟩) (by assumption) ?_
  rotate_left
  · intro w hSw; (try dsimp only at hSw); go_simp; try with_reducible rfl
  try simp only [Act.put, List.getElem_toArray, List.getElem_cons_zero, List.getElem_cons_succ, List.setIfInBounds_toArray, List.set_cons_zero, List.set_cons_succ]
  refine wpAnyH_take (i := 8) (v := ?_) rfl (by kernel_rfl) (by kernel_rfl) (by kernel_rfl) (fun _ _ _ h => h) (Or.inl ⟨by rfl, ?_⟩) (by assumption) ?_
  rotate_left
  · intro w hSw; (try dsimp only at hSw); go_simp; try with_reducible rfl
  try simp only [Act.put, List.getElem_toArray, List.getElem_cons_zero, List.getElem_cons_succ, List.setIfInBounds_toArray, List.set_cons_zero, List.set_cons_succ]
  refine wpAnyH_take (i := 9) (v := ?_) rfl (by kernel_rfl) (by kernel_rfl) (by kernel_rfl) (fun _ _ _ h => h) (Or.inl ⟨by rfl, ?_⟩) (by assumption) ?_
  rotate_left
  · intro w hSw; (try dsimp only at hSw); go_simp; try with_reducible rfl
  try simp only [Act.put, List.getElem_toArray, List.getElem_cons_zero, List.getElem_cons_succ, List.setIfInBounds_toArray, List.set_cons_zero, List.set_cons_succ]
  refine wpAnyH_take (i := 11) (v := ?_) rfl (by kernel_rfl) (by kernel_rfl) (by kernel_rfl) (fun _ _ _ h => h) (Or.inl ⟨by rfl, ?_⟩) (by assumption) ?_
  rotate_left
  · intro w hSw; (try dsimp only at hSw); go_simp; try with_reducible rfl
  try simp only [Act.put, List.getElem_toArray, List.getElem_cons_zero, List.getElem_cons_succ, List.setIfInBounds_toArray, List.set_cons_zero, List.set_cons_succ]
  refine wpAnyH_take (i := 12) (v := ?_) rfl (by kernel_rfl) (by kernel_rfl) (by kernel_rfl) (fun _ _ _ h => h) (Or.inl ⟨by rfl, ?_⟩) (by assumption) ?_
  rotate_left
  · intro w hSw; (try dsimp only at hSw); go_simp; try with_reducible rfl
  try simp only [Act.put, List.getElem_toArray, List.getElem_cons_zero, List.getElem_cons_succ, List.setIfInBounds_toArray, List.set_cons_zero, List.set_cons_succ]
  refine wpAnyH_take (i := 13) (v := ?_) rfl (by kernel_rfl) (by kernel_rfl) (by kernel_rfl) (fun _ _ _ h => h) (Or.inl ⟨by rfl, ?_⟩) (by assumption) ?_
  rotate_left
  · intro w hSw; (try dsimp only at hSw); go_simp; try with_reducible rfl
  try simp only [Act.put, List.getElem_toArray, List.getElem_cons_zero, List.getElem_cons_succ, List.setIfInBounds_toArray, List.set_cons_zero, List.set_cons_succ]
  refine wpAnyH_ready (rs := [10]) (by kernel_rfl) (by simp) ?_
  refine AllReadyH.cons rfl (fun K hK => ?_) AllReadyH.nil
  go_simp
  refine (impl_GroupOf g f.bank x1 _ hg HF.out.2 HX1.out).mono ?_
  rintro e y1 ⟨rfl, hy1⟩
  refine hK.out _ _ (KEEP.out _ (bthenS2 hSx.2.2.2.2.2.2.2.2.2 hy1)) (fun hSy => ?_)
  clear hSx hK K
  have hSx := hSy; clear hSy
  try simp only [Act.put, List.getElem_toArray, List.getElem_cons_zero, List.getElem_cons_succ, List.setIfInBounds_toArray, List.set_cons_zero, List.set_cons_succ]
  refine wpAnyH_ready (rs := [14]) (by kernel_rfl) (by simp) ?_
  refine AllReadyH.cons rfl (fun K hK => ?_) AllReadyH.nil
  go_simp
  refine (impl_GroupOf g e.bank x2 _ hg HE.out.2 HX2.out).mono ?_
  rintro e y2 ⟨rfl, hy2⟩
  refine hK.out _ _ (KEEP.out _ (bthenS2 hSx.2.2.2.2.2.2.2.2.2 hy2)) (fun hSy => ?_)
  clear hSx hK K
  have hSx := hSy; clear hSy
  try simp only [Act.put, List.getElem_toArray, List.getElem_cons_zero, List.getElem_cons_succ, List.setIfInBounds_toArray, List.set_cons_zero, List.set_cons_succ]
  refine wpAnyH_take (i := 15) (v := ?_) rfl (by kernel_rfl) (by kernel_rfl) (by kernel_rfl) (fun _ _ _ h => h) (Or.inl ⟨by rfl, ?_⟩) (by assumption) ?_
  rotate_left
  · intro w hSw; (try dsimp only at hSw); go_simp; try with_reducible rfl
  try simp only [Act.put, List.getElem_toArray, List.getElem_cons_zero, List.getElem_cons_succ, List.setIfInBounds_toArray, List.set_cons_zero, List.set_cons_succ]
  refine wpAnyH_take (i := 16) (v := ?_) rfl (by kernel_rfl) (by kernel_rfl) (by kernel_rfl) (fun _ _ _ h => h) (Or.inl ⟨by rfl, ?_⟩) (by assumption) ?_
  rotate_left
  · intro w hSw; (try dsimp only at hSw); go_simp; try with_reducible rfl
  try simp only [Act.put, List.getElem_toArray, List.getElem_cons_zero, List.getElem_cons_succ, List.setIfInBounds_toArray, List.set_cons_zero, List.set_cons_succ]
  refine wpAnyH_ready (rs := [17]) (by kernel_rfl) (by simp) ?_
  refine AllReadyH.cons rfl (fun K hK => ?_) AllReadyH.nil
  go_simp
  refine (impl_rankGap t f.kind e.kind v near _ HF.out.1 HE.out.1 HV.out).mono ?_
  rintro e y3 ⟨rfl, hy3⟩
  refine hK.out _ _ (KEEP.out _ (bthenS2 hSx.2.2.2.2.2.2.2.2.2 hy3)) (fun hSy => ?_)
  clear hSx hK K
  have hSx := hSy; clear hSy
  try simp only [Act.put, List.getElem_toArray, List.getElem_cons_zero, List.getElem_cons_succ, List.setIfInBounds_toArray, List.set_cons_zero, List.set_cons_succ]
  refine wpAnyH_take (i := 18) (v := ?_) rfl (by kernel_rfl) (by kernel_rfl) (by kernel_rfl) (fun _ _ _ h => h) (Or.inl ⟨by rfl, ?_⟩) (by assumption) ?_
  rotate_left
  · intro w hSw; (try dsimp only at hSw); go_simp; try with_reducible rfl
  try simp only [Act.put, List.getElem_toArray, List.getElem_cons_zero, List.getElem_cons_succ, List.setIfInBounds_toArray, List.set_cons_zero, List.set_cons_succ]
  refine wpAnyH_take (i := 19) (v := ?_) rfl (by kernel_rfl) (by kernel_rfl) (by kernel_rfl) (fun _ _ _ h => h) (Or.inl ⟨by rfl, ?_⟩) (by assumption) ?_
  rotate_left
  · intro w hSw; (try dsimp only at hSw); go_simp; try with_reducible rfl
  try simp only [Act.put, List.getElem_toArray, List.getElem_cons_zero, List.getElem_cons_succ, List.setIfInBounds_toArray, List.set_cons_zero, List.set_cons_succ]
  refine wpAnyH_done (by kernel_rfl) ?_ _
  have HY := hide hSx.2.2.2.2.2.2.2.2.2
  have kt := hSx.1
  have c3 := hSx.2.2.2.2.2.2.1
  have c5 := hSx.2.2.2.2.2.2.2.2.1
  have d3 := hSx.2.2.2.2.2.1
  have d5 := hSx.2.2.2.2.2.2.2.1
  clear hSx hmx
  have HKT := hide kt
  clear kt
  by_cases hb : f.bank = e.bank
  · have hm3 := HM2.out
    rw [if_pos hb] at hm3
    have hmx := fun w => run_max2 w m1 u m hm3
    have hbq : (f.bank == e.bank) = true := by simp [hb]
    clear hb hm3
    go_wp2_with (refine wpList_load_row rfl 73 _ rfl (w.heap.size + 1) rfl 73 (tmC t).toArray (0, 0) _ HKT.out Try.underlying73 rfl (tmC_info t) ?_)
    refine (impl_bankGap_is t f.kind e.kind u _ hok HF.out.1 HE.out.1 HU.out).mono ?_
    rintro r w9 ⟨rfl, h9⟩
    go_wp2_with fail
    go_ret
    exact ⟨rfl, bthen HB.out (bthenS2 HY.out h9) HB.out.size⟩
  · have hm3 := HM2.out
    rw [if_neg hb] at hm3
    subst hm3
    have hbq : (f.bank == e.bank) = false := by simp [hb]
    go_wp2_with fail
    go_ret
    exact ⟨rfl, bthen HB.out HY.out HB.out.size⟩
end Go.Proofs.Ytahfbhfmhccgoaa
