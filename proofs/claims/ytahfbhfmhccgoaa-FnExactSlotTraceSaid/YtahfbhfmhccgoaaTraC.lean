/- SlotTrace of the reference. -/
import Derived.Test.YtahfbhfmhccgoaaSlotP
import Derived.Deep.DeepCutAuto
set_option linter.unusedSimpArgs false
set_option linter.unusedVariables false
namespace Go.Proofs.Ytahfbhfmhccgoaa
open Go.RowKit Go.ChangeShapes Go.WideShapes Go.ChangeAt Go.Joins Go.Deep
open Go.ChangeMaps (open_string shut_string)
theorem spec_MapLine_any (g : Ge) (mo n : Int) (mh ok : Bool) (h : mapOk g mo n = ok) (w : World) :
    Calls Try.prog 107 #[.agg #[.int .i64 g.gr, .int .i64 g.bk, .int .i64 g.rw, .int .i64 g.cl], .agg #[.int .i64 mo, .bool mh], .int .i64 n] w fun e w' => ∃ b r c : Int, e = .returned (.tuple #[.agg #[.int .i64 b, .int .i64 r, .int .i64 c], .bool ok]) ∧ Below w.heap.size w w' := by
  cases ok
  · exact (spec_MapLine_no g mo n mh h w).mono fun e w' h => ⟨0, 0, 0, h⟩
  · obtain ⟨x, hx⟩ : ∃ x, mapL g mo mh n = x := ⟨_, rfl⟩
    obtain ⟨b, r, c⟩ := x
    exact (spec_MapLine g mo n mh b r c w h hx).mono fun e w' h => ⟨b, r, c, h⟩
theorem spec_SlotNeed_y (t : Tm) (v : Int) (h : slotNeed t = v) (w : World) : Calls Try.prog 106 #[.agg (tmC t).toArray] w fun e w' => e = .returned (.int .i64 v) ∧ Below w.heap.size w w' := by subst h; exact spec_SlotNeed t w
theorem spec_l19At_is (a : Option Addr) (n c : Nat) (es : List Rq) (d v : Int) (w : World) (hv : idFrom es d n 0 = v) (ha : IsStructs rqF 6 w a n c es) (hs : n ≤ 1048576) :
    Calls Try.prog 108 #[.slice a n c, .int .i64 d] w fun e w' => e = .returned (.int .i64 v) ∧ Below w.heap.size w w' := by subst hv; exact spec_l19At a n c es d w ha hs
set_option maxRecDepth 100000 in
set_option maxHeartbeats 8000000 in
theorem spec_SlotTrace_yes (g : Ge) (t : Tm) (mo : Int) (mh : Bool) (a1 : Option Addr) (n1 c1 : Nat) (zs : List Int) (l u : Int) (a : Option Addr) (n c : Nat) (rs : List Rq) (w : World) (hz : IsInts .i64 w a1 n1 c1 zs) (hs1 : n1 ≤ 1048576) (ha : IsStructs rqF 6 w a n c rs) (NK : Nat) (hok : traceOk ⟨g, t, mo, mh, zs, l, u⟩ n = true) (hK : (trL ⟨g, t, mo, mh, zs, l, u⟩ rs).length = NK) :
    Calls Try.prog 52 #[.agg #[.int .i64 g.gr, .int .i64 g.bk, .int .i64 g.rw, .int .i64 g.cl], .agg (tmC t).toArray, .agg #[.int .i64 mo, .bool mh], .agg #[.slice a1 n1 c1, .int .i64 l], .int .i64 u, .slice a n c] w (GotTr w NK (trL ⟨g, t, mo, mh, zs, l, u⟩ rs) (trOk ⟨g, t, mo, mh, zs, l, u⟩ rs)) := by
  have HZ := hide hz; have HA := hide ha
  have hc := ha.2.1; have hcm : c ≤ 9223372036854775807 := ha.2.2.1
  have hcc : n ≤ c ∧ c ≤ 9223372036854775807 := ⟨hc, hcm⟩
  obtain ⟨nd, hnd⟩ : ∃ nd, slotNeed t = nd := ⟨_, rfl⟩
  clear hz ha
  obtain ⟨hg, ht, hm, hsv, hu, hl⟩ := traceOk_bd hok
  simp only at hg ht hm hsv hu hl
  rw [hnd] at hl
  obtain ⟨hsl, hu0, hu1, hn60, huq⟩ := servable_bd hsv
  have HU3 := hide (show decide ((900000 : Int) < u) = false from decide_eq_false (by omega))
  have HL3 := hide (show decide (l < nd) = false from decide_eq_false (by omega))
  obtain ⟨_, hb1, hb2, hb3, hb4⟩ := slotsOkB_bd hsl
  have HL := hide HA.out.1
  have hn6 : n ≤ 1048576 := by omega
  have HSV := hide hsv; have HG := hide hg; have HT := hide ht; have HM := hide hm; have HOK := hide hok
  clear hb1 hb2 huq hok
  go_enter Try.func52, Try.ntmps52
  go_wp2_with fail
  have kg0 : ((((w.alloc (.cells #[.int .i64 g.gr, .int .i64 g.bk, .int .i64 g.rw, .int .i64 g.cl] 43)).alloc (.cells (tmC t).toArray 73)).alloc (.cells #[.int .i64 mo, .bool mh] 45)).alloc (.cells #[.slice a1 n1 c1, .int .i64 l] 48)).heap[w.heap.size]? = some (.cells #[.int .i64 g.gr, .int .i64 g.bk, .int .i64 g.rw, .int .i64 g.cl] 43 (0, 0)) := by rw [alloc_lt _ _ _ (by simp only [World.size_alloc]; omega), alloc_lt _ _ _ (by simp only [World.size_alloc]; omega), alloc_lt _ _ _ (by simp only [World.size_alloc]; omega), alloc_at _ _ _ rfl]
  have kt0 : ((((w.alloc (.cells #[.int .i64 g.gr, .int .i64 g.bk, .int .i64 g.rw, .int .i64 g.cl] 43)).alloc (.cells (tmC t).toArray 73)).alloc (.cells #[.int .i64 mo, .bool mh] 45)).alloc (.cells #[.slice a1 n1 c1, .int .i64 l] 48)).heap[w.heap.size + 1]? = some (.cells (tmC t).toArray 73 (0, 0)) := by rw [alloc_lt _ _ _ (by simp only [World.size_alloc]; omega), alloc_lt _ _ _ (by simp only [World.size_alloc]; omega), alloc_at _ _ _ (by simp only [World.size_alloc])]
  have km0 : ((((w.alloc (.cells #[.int .i64 g.gr, .int .i64 g.bk, .int .i64 g.rw, .int .i64 g.cl] 43)).alloc (.cells (tmC t).toArray 73)).alloc (.cells #[.int .i64 mo, .bool mh] 45)).alloc (.cells #[.slice a1 n1 c1, .int .i64 l] 48)).heap[w.heap.size + 2]? = some (.cells #[.int .i64 mo, .bool mh] 45 (0, 0)) := by rw [alloc_lt _ _ _ (by simp only [World.size_alloc]; omega), alloc_at _ _ _ (by simp only [World.size_alloc])]
  have ks0 : ((((w.alloc (.cells #[.int .i64 g.gr, .int .i64 g.bk, .int .i64 g.rw, .int .i64 g.cl] 43)).alloc (.cells (tmC t).toArray 73)).alloc (.cells #[.int .i64 mo, .bool mh] 45)).alloc (.cells #[.slice a1 n1 c1, .int .i64 l] 48)).heap[w.heap.size + 3]? = some (.cells #[.slice a1 n1 c1, .int .i64 l] 48 (0, 0)) := alloc_at _ _ _ (by simp only [World.size_alloc])
  have hB0 : Below w.heap.size w ((((w.alloc (.cells #[.int .i64 g.gr, .int .i64 g.bk, .int .i64 g.rw, .int .i64 g.cl] 43)).alloc (.cells (tmC t).toArray 73)).alloc (.cells #[.int .i64 mo, .bool mh] 45)).alloc (.cells #[.slice a1 n1 c1, .int .i64 l] 48)) := (by repeat' (first | (with_reducible exact Below.refl _ _) | (with_reducible assumption) | (with_reducible refine bdrawn ?_ _) | (with_reducible refine Below.alloc ?_ ?_ _) | (with_reducible refine Below.drew ?_) | (with_reducible refine Below.setCell ?_ ?_ _) | go_size))
  simp only [show w.heap.size + 1 + 1 = w.heap.size + 2 from rfl, show w.heap.size + 1 + 1 + 1 = w.heap.size + 3 from rfl]
  generalize ((((w.alloc (.cells #[.int .i64 g.gr, .int .i64 g.bk, .int .i64 g.rw, .int .i64 g.cl] 43)).alloc (.cells (tmC t).toArray 73)).alloc (.cells #[.int .i64 mo, .bool mh] 45)).alloc (.cells #[.slice a1 n1 c1, .int .i64 l] 48)) = W0 at *
  have ls0 := lt_blk ks0
  have HB0 := hide hB0
  have HZ0 := hide (HZ.out.below hB0 (Nat.le_refl _))
  have HK0 := hide (And.intro kg0 (And.intro kt0 (And.intro km0 ks0)))
  have KEEP := hide (show ∀ v, Below W0.heap.size W0 v → v.cell? ⟨w.heap.size, 0, none⟩ = some (.int .i64 g.gr) ∧ v.cell? ⟨w.heap.size, 1, none⟩ = some (.int .i64 g.bk) ∧ v.cell? ⟨w.heap.size, 2, none⟩ = some (.int .i64 g.rw) ∧ v.cell? ⟨w.heap.size, 3, none⟩ = some (.int .i64 g.cl) ∧ v.heap[w.heap.size + 1]? = some (.cells (tmC t).toArray 73 (0, 0)) ∧ v.cell? ⟨w.heap.size + 2, 0, none⟩ = some (.int .i64 mo) ∧ v.cell? ⟨w.heap.size + 2, 1, none⟩ = some (.bool mh) ∧ v.cell? ⟨w.heap.size + 3, 0, none⟩ = some (.slice a1 n1 c1) ∧ v.cell? ⟨w.heap.size + 3, 1, none⟩ = some (.int .i64 l) ∧ Below W0.heap.size W0 v from fun v hb =>
    have h1 := (hb.block _ (lt_blk kg0)).trans kg0
    have h2 := (hb.block _ (lt_blk kt0)).trans kt0
    have h3 := (hb.block _ (lt_blk km0)).trans km0
    have h4 := (hb.block _ (lt_blk ks0)).trans ks0
    ⟨cell_blk h1 0, cell_blk h1 1, cell_blk h1 2, cell_blk h1 3, h2, cell_blk h3 0, cell_blk h3 1, cell_blk h4 0, cell_blk h4 1, hb⟩)
  clear hB0 kg0 kt0 km0 ks0
  have hu3 := HU3.out
  have hl3 := HL3.out
  refine wp_region_held_drew (S := fun v => v.cell? ⟨w.heap.size, 0, none⟩ = some (.int .i64 g.gr) ∧ v.cell? ⟨w.heap.size, 1, none⟩ = some (.int .i64 g.bk) ∧ v.cell? ⟨w.heap.size, 2, none⟩ = some (.int .i64 g.rw) ∧ v.cell? ⟨w.heap.size, 3, none⟩ = some (.int .i64 g.cl) ∧ v.heap[w.heap.size + 1]? = some (.cells (tmC t).toArray 73 (0, 0)) ∧ v.cell? ⟨w.heap.size + 2, 0, none⟩ = some (.int .i64 mo) ∧ v.cell? ⟨w.heap.size + 2, 1, none⟩ = some (.bool mh) ∧ v.cell? ⟨w.heap.size + 3, 0, none⟩ = some (.slice a1 n1 c1) ∧ v.cell? ⟨w.heap.size + 3, 1, none⟩ = some (.int .i64 l) ∧ Below W0.heap.size W0 v) (by kernel_rfl) (KEEP.out _ (Below.refl _ _).drew) (fun hSx => ?_)
  refine wpAnyH_take (i := 0) (v := ?_) rfl (by kernel_rfl) (by kernel_rfl) (by kernel_rfl) (fun _ _ _ h => h) (Or.inl ⟨by rfl, ?_⟩) (by assumption) ?_
  rotate_left
  · intro w hSw; (try dsimp only at hSw); go_simp; try with_reducible rfl
  try simp only [Act.put, List.getElem_toArray, List.getElem_cons_zero, List.getElem_cons_succ, List.setIfInBounds_toArray, List.set_cons_zero, List.set_cons_succ]
  refine wpAnyH_ready (rs := [1]) (by kernel_rfl) (by simp) ?_
  refine AllReadyH.cons rfl (fun K hK => ?_) AllReadyH.nil
  go_simp
  refine (spec_GeometryOk_is g true hg _).mono ?_
  rintro e y1 ⟨rfl, hy1⟩
  refine hK.out _ _ (KEEP.out _ (bthenS2 hSx.2.2.2.2.2.2.2.2.2 hy1)) (fun hSy => ?_)
  clear hSx hK K
  have hSx := hSy; clear hSy
  try simp only [Act.put, List.getElem_toArray, List.getElem_cons_zero, List.getElem_cons_succ, List.setIfInBounds_toArray, List.set_cons_zero, List.set_cons_succ]
  refine wpAnyH_take (i := 2) (v := ?_) rfl (by kernel_rfl) (by kernel_rfl) (by kernel_rfl) (fun _ _ _ h => h) (Or.inl ⟨by rfl, ?_⟩) (by assumption) ?_
  rotate_left
  · intro w hSw; (try dsimp only at hSw); go_simp; try with_reducible rfl
  try simp only [Act.put, List.getElem_toArray, List.getElem_cons_zero, List.getElem_cons_succ, List.setIfInBounds_toArray, List.set_cons_zero, List.set_cons_succ]
  refine wpAnyH_take (i := 3) (v := ?_) rfl (by kernel_rfl) (by kernel_rfl) (by kernel_rfl) (fun _ _ _ h => h) (Or.inl ⟨by rfl, ?_⟩) (by assumption) ?_
  rotate_left
  · intro w hSw; (try dsimp only at hSw); go_simp; try with_reducible rfl
  try simp only [Act.put, List.getElem_toArray, List.getElem_cons_zero, List.getElem_cons_succ, List.setIfInBounds_toArray, List.set_cons_zero, List.set_cons_succ]
  refine wpAnyH_take (i := 4) rfl (by kernel_rfl) (by kernel_rfl) (by kernel_rfl) (fun _ _ _ h => h) (yieldsIf_load_row (by rfl) 73 _ rfl (w.heap.size + 1) rfl 73 ((tmC t).toArray) (0, 0) _ (fun _ h => h.2.2.2.2.1) Try.underlying73 (tmC_info t)) (by assumption) ?_
  try simp only [Act.put, List.getElem_toArray, List.getElem_cons_zero, List.getElem_cons_succ, List.setIfInBounds_toArray, List.set_cons_zero, List.set_cons_succ]
  refine wpAnyH_ready (rs := [5]) (by kernel_rfl) (by simp) ?_
  refine AllReadyH.cons rfl (fun K hK => ?_) AllReadyH.nil
  go_simp
  refine (spec_TimingOk_is t true ht _).mono ?_
  rintro e y2 ⟨rfl, hy2⟩
  refine hK.out _ _ (KEEP.out _ (bthenS2 hSx.2.2.2.2.2.2.2.2.2 hy2)) (fun hSy => ?_)
  clear hSx hK K
  have hSx := hSy; clear hSy
  try simp only [Act.put, List.getElem_toArray, List.getElem_cons_zero, List.getElem_cons_succ, List.setIfInBounds_toArray, List.set_cons_zero, List.set_cons_succ]
  refine wpAnyH_take (i := 6) (v := ?_) rfl (by kernel_rfl) (by kernel_rfl) (by kernel_rfl) (fun _ _ _ h => h) (Or.inl ⟨by rfl, ?_⟩) (by assumption) ?_
  rotate_left
  · intro w hSw; (try dsimp only at hSw); go_simp; try with_reducible rfl
  try simp only [Act.put, List.getElem_toArray, List.getElem_cons_zero, List.getElem_cons_succ, List.setIfInBounds_toArray, List.set_cons_zero, List.set_cons_succ]
  refine wpAnyH_take (i := 7) (v := ?_) rfl (by kernel_rfl) (by kernel_rfl) (by kernel_rfl) (fun _ _ _ h => h) (Or.inl ⟨by rfl, ?_⟩) (by assumption) ?_
  rotate_left
  · intro w hSw; (try dsimp only at hSw); go_simp; try with_reducible rfl
  try simp only [Act.put, List.getElem_toArray, List.getElem_cons_zero, List.getElem_cons_succ, List.setIfInBounds_toArray, List.set_cons_zero, List.set_cons_succ]
  refine wpAnyH_take (i := 8) (v := ?_) rfl (by kernel_rfl) (by kernel_rfl) (by kernel_rfl) (fun _ _ _ h => h) (Or.inl ⟨by rfl, ?_⟩) (by assumption) ?_
  rotate_left
  · intro w hSw; (try dsimp only at hSw); go_simp; try with_reducible rfl
  try simp only [Act.put, List.getElem_toArray, List.getElem_cons_zero, List.getElem_cons_succ, List.setIfInBounds_toArray, List.set_cons_zero, List.set_cons_succ]
  refine wpAnyH_take (i := 9) (v := ?_) rfl (by kernel_rfl) (by kernel_rfl) (by kernel_rfl) (fun _ _ _ h => h) (Or.inl ⟨by rfl, ?_⟩) (by assumption) ?_
  rotate_left
  · intro w hSw; (try dsimp only at hSw); go_simp; try with_reducible rfl
  try simp only [Act.put, List.getElem_toArray, List.getElem_cons_zero, List.getElem_cons_succ, List.setIfInBounds_toArray, List.set_cons_zero, List.set_cons_succ]
  refine wpAnyH_ready (rs := [10]) (by kernel_rfl) (by simp) ?_
  refine AllReadyH.cons rfl (fun K hK => ?_) AllReadyH.nil
  go_simp
  refine (spec_MappingOk mo mh true hm _).mono ?_
  rintro e y3 ⟨rfl, hy3⟩
  refine hK.out _ _ (KEEP.out _ (bthenS2 hSx.2.2.2.2.2.2.2.2.2 hy3)) (fun hSy => ?_)
  clear hSx hK K
  have hSx := hSy; clear hSy
  try simp only [Act.put, List.getElem_toArray, List.getElem_cons_zero, List.getElem_cons_succ, List.setIfInBounds_toArray, List.set_cons_zero, List.set_cons_succ]
  refine wpAnyH_take (i := 11) (v := ?_) rfl (by kernel_rfl) (by kernel_rfl) (by kernel_rfl) (fun _ _ _ h => h) (Or.inl ⟨by rfl, ?_⟩) (by assumption) ?_
  rotate_left
  · intro w hSw; (try dsimp only at hSw); go_simp; try with_reducible rfl
  try simp only [Act.put, List.getElem_toArray, List.getElem_cons_zero, List.getElem_cons_succ, List.setIfInBounds_toArray, List.set_cons_zero, List.set_cons_succ]
  refine wpAnyH_take (i := 12) (v := ?_) rfl (by kernel_rfl) (by kernel_rfl) (by kernel_rfl) (fun _ _ _ h => h) (Or.inl ⟨by rfl, ?_⟩) (by assumption) ?_
  rotate_left
  · intro w hSw; (try dsimp only at hSw); go_simp; try with_reducible rfl
  try simp only [Act.put, List.getElem_toArray, List.getElem_cons_zero, List.getElem_cons_succ, List.setIfInBounds_toArray, List.set_cons_zero, List.set_cons_succ]
  refine wpAnyH_take (i := 13) (v := ?_) rfl (by kernel_rfl) (by kernel_rfl) (by kernel_rfl) (fun _ _ _ h => h) (Or.inl ⟨by rfl, ?_⟩) (by assumption) ?_
  rotate_left
  · intro w hSw; (try dsimp only at hSw); go_simp; try with_reducible rfl
  try simp only [Act.put, List.getElem_toArray, List.getElem_cons_zero, List.getElem_cons_succ, List.setIfInBounds_toArray, List.set_cons_zero, List.set_cons_succ]
  refine wpAnyH_take (i := 14) (v := ?_) rfl (by kernel_rfl) (by kernel_rfl) (by kernel_rfl) (fun _ _ _ h => h) (Or.inl ⟨by rfl, ?_⟩) (by assumption) ?_
  rotate_left
  · intro w hSw; (try dsimp only at hSw); go_simp; try with_reducible rfl
  try simp only [Act.put, List.getElem_toArray, List.getElem_cons_zero, List.getElem_cons_succ, List.setIfInBounds_toArray, List.set_cons_zero, List.set_cons_succ]
  refine wpAnyH_take (i := 15) (v := ?_) rfl (by kernel_rfl) (by kernel_rfl) (by kernel_rfl) (fun _ _ _ h => h) (Or.inl ⟨by rfl, ?_⟩) (by assumption) ?_
  rotate_left
  · intro w hSw; (try dsimp only at hSw); go_simp; try with_reducible rfl
  try simp only [Act.put, List.getElem_toArray, List.getElem_cons_zero, List.getElem_cons_succ, List.setIfInBounds_toArray, List.set_cons_zero, List.set_cons_succ]
  refine wpAnyH_take (i := 16) (v := ?_) rfl (by kernel_rfl) (by kernel_rfl) (by kernel_rfl) (fun _ _ _ h => h) (Or.inl ⟨by rfl, ?_⟩) (by assumption) ?_
  rotate_left
  · intro w hSw; (try dsimp only at hSw); go_simp; try with_reducible rfl
  try simp only [Act.put, List.getElem_toArray, List.getElem_cons_zero, List.getElem_cons_succ, List.setIfInBounds_toArray, List.set_cons_zero, List.set_cons_succ]
  refine wpAnyH_ready (rs := [17]) (by kernel_rfl) (by simp) ?_
  refine AllReadyH.cons rfl (fun K hK => ?_) AllReadyH.nil
  go_simp
  refine (spec_l23Ok_is a1 n1 c1 zs l u a n c true hsv _ (HZ0.out.below hSx.2.2.2.2.2.2.2.2.2 (Nat.le_refl _)) hs1 hcc).mono ?_
  rintro e y4 ⟨rfl, hy4⟩
  refine hK.out _ _ (KEEP.out _ (bthenS2 hSx.2.2.2.2.2.2.2.2.2 hy4)) (fun hSy => ?_)
  clear hSx hK K
  have hSx := hSy; clear hSy
  try simp only [Act.put, List.getElem_toArray, List.getElem_cons_zero, List.getElem_cons_succ, List.setIfInBounds_toArray, List.set_cons_zero, List.set_cons_succ]
  refine wpAnyH_take (i := 18) (v := ?_) rfl (by kernel_rfl) (by kernel_rfl) (by kernel_rfl) (fun _ _ _ h => h) (Or.inl ⟨by rfl, ?_⟩) (by assumption) ?_
  rotate_left
  · intro w hSw; (try dsimp only at hSw); go_simp; try with_reducible rfl
  try simp only [Act.put, List.getElem_toArray, List.getElem_cons_zero, List.getElem_cons_succ, List.setIfInBounds_toArray, List.set_cons_zero, List.set_cons_succ]
  refine wpAnyH_take (i := 19) (v := ?_) rfl (by kernel_rfl) (by kernel_rfl) (by kernel_rfl) (fun _ _ _ h => h) (Or.inl ⟨by rfl, ?_⟩) (by assumption) ?_
  rotate_left
  · intro w hSw; (try dsimp only at hSw); go_simp; try with_reducible rfl
  try simp only [Act.put, List.getElem_toArray, List.getElem_cons_zero, List.getElem_cons_succ, List.setIfInBounds_toArray, List.set_cons_zero, List.set_cons_succ]
  refine wpAnyH_take (i := 20) (v := ?_) rfl (by kernel_rfl) (by kernel_rfl) (by kernel_rfl) (fun _ _ _ h => h) (Or.inl ⟨by rfl, ?_⟩) (by assumption) ?_
  rotate_left
  · intro w hSw; (try dsimp only at hSw); go_simp; try with_reducible rfl
  try simp only [Act.put, List.getElem_toArray, List.getElem_cons_zero, List.getElem_cons_succ, List.setIfInBounds_toArray, List.set_cons_zero, List.set_cons_succ]
  refine wpAnyH_take (i := 21) (v := ?_) rfl (by kernel_rfl) (by kernel_rfl) (by kernel_rfl) (fun _ _ _ h => h) (Or.inl ⟨by rfl, ?_⟩) (by assumption) ?_
  rotate_left
  · intro w hSw; (try dsimp only at hSw); go_simp; try with_reducible rfl
  try simp only [Act.put, List.getElem_toArray, List.getElem_cons_zero, List.getElem_cons_succ, List.setIfInBounds_toArray, List.set_cons_zero, List.set_cons_succ]
  refine wpAnyH_take (i := 22) (v := ?_) rfl (by kernel_rfl) (by kernel_rfl) (by kernel_rfl) (fun _ _ _ h => h) (Or.inl ⟨by rfl, ?_⟩) (by assumption) ?_
  rotate_left
  · intro w hSw; (try dsimp only at hSw); go_simp; try with_reducible rfl
  try simp only [Act.put, List.getElem_toArray, List.getElem_cons_zero, List.getElem_cons_succ, List.setIfInBounds_toArray, List.set_cons_zero, List.set_cons_succ]
  refine wpAnyH_take (i := 23) (v := ?_) rfl (by kernel_rfl) (by kernel_rfl) (by kernel_rfl) (fun _ _ _ h => h) (Or.inl ⟨by rfl, ?_⟩) (by assumption) ?_
  rotate_left
  · intro w hSw; (try dsimp only at hSw); go_simp; try with_reducible rfl
  try simp only [Act.put, List.getElem_toArray, List.getElem_cons_zero, List.getElem_cons_succ, List.setIfInBounds_toArray, List.set_cons_zero, List.set_cons_succ]
  refine wpAnyH_take (i := 24) (v := ?_) rfl (by kernel_rfl) (by kernel_rfl) (by kernel_rfl) (fun _ _ _ h => h) (Or.inl ⟨by rfl, ?_⟩) (by assumption) ?_
  rotate_left
  · intro w hSw; (try dsimp only at hSw); go_simp; try with_reducible rfl
  try simp only [Act.put, List.getElem_toArray, List.getElem_cons_zero, List.getElem_cons_succ, List.setIfInBounds_toArray, List.set_cons_zero, List.set_cons_succ]
  refine wpAnyH_take (i := 25) (v := ?_) rfl (by kernel_rfl) (by kernel_rfl) (by kernel_rfl) (fun _ _ _ h => h) (Or.inl ⟨by rfl, ?_⟩) (by assumption) ?_
  rotate_left
  · intro w hSw; (try dsimp only at hSw); go_simp; try with_reducible rfl
  try simp only [Act.put, List.getElem_toArray, List.getElem_cons_zero, List.getElem_cons_succ, List.setIfInBounds_toArray, List.set_cons_zero, List.set_cons_succ]
  refine wpAnyH_take (i := 26) (v := ?_) rfl (by kernel_rfl) (by kernel_rfl) (by kernel_rfl) (fun _ _ _ h => h) (Or.inl ⟨by rfl, ?_⟩) (by assumption) ?_
  rotate_left
  · intro w hSw; (try dsimp only at hSw); go_simp; try with_reducible rfl
  try simp only [Act.put, List.getElem_toArray, List.getElem_cons_zero, List.getElem_cons_succ, List.setIfInBounds_toArray, List.set_cons_zero, List.set_cons_succ]
  refine wpAnyH_take (i := 27) rfl (by kernel_rfl) (by kernel_rfl) (by kernel_rfl) (fun _ _ _ h => h) (yieldsIf_load_row (by rfl) 73 _ rfl (w.heap.size + 1) rfl 73 ((tmC t).toArray) (0, 0) _ (fun _ h => h.2.2.2.2.1) Try.underlying73 (tmC_info t)) (by assumption) ?_
  try simp only [Act.put, List.getElem_toArray, List.getElem_cons_zero, List.getElem_cons_succ, List.setIfInBounds_toArray, List.set_cons_zero, List.set_cons_succ]
  refine wpAnyH_ready (rs := [28]) (by kernel_rfl) (by simp) ?_
  refine AllReadyH.cons rfl (fun K hK => ?_) AllReadyH.nil
  go_simp
  refine (spec_SlotNeed_y t nd hnd _).mono ?_
  rintro e y5 ⟨rfl, hy5⟩
  refine hK.out _ _ (KEEP.out _ (bthenS2 hSx.2.2.2.2.2.2.2.2.2 hy5)) (fun hSy => ?_)
  clear hSx hK K
  have hSx := hSy; clear hSy
  try simp only [Act.put, List.getElem_toArray, List.getElem_cons_zero, List.getElem_cons_succ, List.setIfInBounds_toArray, List.set_cons_zero, List.set_cons_succ]
  refine wpAnyH_take (i := 29) (v := ?_) rfl (by kernel_rfl) (by kernel_rfl) (by kernel_rfl) (fun _ _ _ h => h) (Or.inl ⟨by rfl, ?_⟩) (by assumption) ?_
  rotate_left
  · intro w hSw; (try dsimp only at hSw); go_simp; try with_reducible rfl
  try simp only [Act.put, List.getElem_toArray, List.getElem_cons_zero, List.getElem_cons_succ, List.setIfInBounds_toArray, List.set_cons_zero, List.set_cons_succ]
  refine wpAnyH_take (i := 30) (v := ?_) rfl (by kernel_rfl) (by kernel_rfl) (by kernel_rfl) (fun _ _ _ h => h) (Or.inl ⟨by rfl, ?_⟩) (by assumption) ?_
  rotate_left
  · intro w hSw; (try dsimp only at hSw); go_simp; try with_reducible rfl
  try simp only [Act.put, List.getElem_toArray, List.getElem_cons_zero, List.getElem_cons_succ, List.setIfInBounds_toArray, List.set_cons_zero, List.set_cons_succ]
  refine wpAnyH_done (by kernel_rfl) ?_ _
  have HY := hide hSx.2.2.2.2.2.2.2.2.2
  have ly := HY.out.size
  clear hSx KEEP
  try clear hy1 hy2 hy3 hy4 hy5
  obtain ⟨Y, rfl⟩ : ∃ V : World, V = y5 := ⟨_, rfl⟩
  go_wp2_with fail
  have KB := hide (show ∀ v, Below W0.heap.size W0 v → v.cell? ⟨w.heap.size, 0, none⟩ = some (.int .i64 g.gr) ∧ v.cell? ⟨w.heap.size, 1, none⟩ = some (.int .i64 g.bk) ∧ v.cell? ⟨w.heap.size, 2, none⟩ = some (.int .i64 g.rw) ∧ v.cell? ⟨w.heap.size, 3, none⟩ = some (.int .i64 g.cl) ∧ v.heap[w.heap.size + 1]? = some (.cells (tmC t).toArray 73 (0, 0)) ∧ v.cell? ⟨w.heap.size + 2, 0, none⟩ = some (.int .i64 mo) ∧ v.cell? ⟨w.heap.size + 2, 1, none⟩ = some (.bool mh) ∧ v.cell? ⟨w.heap.size + 3, 0, none⟩ = some (.slice a1 n1 c1) ∧ v.cell? ⟨w.heap.size + 3, 1, none⟩ = some (.int .i64 l) ∧ Below W0.heap.size W0 v from fun v hb =>
    have h1 := (hb.block _ (lt_blk HK0.out.1)).trans HK0.out.1
    have h2 := (hb.block _ (lt_blk HK0.out.2.1)).trans HK0.out.2.1
    have h3 := (hb.block _ (lt_blk HK0.out.2.2.1)).trans HK0.out.2.2.1
    have h4 := (hb.block _ (lt_blk HK0.out.2.2.2)).trans HK0.out.2.2.2
    ⟨cell_blk h1 0, cell_blk h1 1, cell_blk h1 2, cell_blk h1 3, h2, cell_blk h3 0, cell_blk h3 1, cell_blk h4 0, cell_blk h4 1, hb⟩)
  go_loopw [14] (fun vi wr => ∃ k : Nat, k ≤ n ∧ vi = .int .i64 k ∧ Hid (goodTo g mo rs k = true) ∧ Below W0.heap.size W0 wr) (fun vi _ => n - (intOf vi).toNat)
  case atStart => exact ⟨0, by omega, rfl, hide rfl, HY.out⟩
  case round =>
    obtain ⟨k, hk, rfl, HGo, hB⟩ := hrel
    have HBr := hide hB
    have hBw := bthen HB0.out hB HB0.out.size
    have lr := hB.size
    clear hB
    by_cases hlt : k < n
    · obtain ⟨r, b1, o1, hh_r, rfl, hlb, hcell⟩ := HA.out.get rqF_len (by omega) (show k < n by omega)
      have e0 : wr.cell? ⟨b1, o1 + k * 6, none⟩ = some (.int .i64 r.id) := (hBw.cell (p := ⟨b1, o1 + (k * 6 + 0), none⟩) hlb).trans (hcell 0 _ rfl)
      have e1 : wr.cell? ⟨b1, o1 + k * 6 + 1, none⟩ = some (.int .i64 r.tenant) := (hBw.cell (p := ⟨b1, o1 + (k * 6 + 1), none⟩) hlb).trans (hcell 1 _ rfl)
      have e2 : wr.cell? ⟨b1, o1 + k * 6 + 2, none⟩ = some (.int .i64 r.line) := (hBw.cell (p := ⟨b1, o1 + (k * 6 + 2), none⟩) hlb).trans (hcell 2 _ rfl)
      have e3 : wr.cell? ⟨b1, o1 + k * 6 + 3, none⟩ = some (.bool r.write) := (hBw.cell (p := ⟨b1, o1 + (k * 6 + 3), none⟩) hlb).trans (hcell 3 _ rfl)
      have e4 : wr.cell? ⟨b1, o1 + k * 6 + 4, none⟩ = some (.int .i64 r.data) := (hBw.cell (p := ⟨b1, o1 + (k * 6 + 4), none⟩) hlb).trans (hcell 4 _ rfl)
      have e5 : wr.cell? ⟨b1, o1 + k * 6 + 5, none⟩ = some (.int .i64 r.tm) := (hBw.cell (p := ⟨b1, o1 + (k * 6 + 5), none⟩) hlb).trans (hcell 5 _ rfl)
      have HE_r := hide hh_r
      have sz_r := hBw.size
      have lt_b1 : b1 < wr.heap.size := (by have := hBw.size; omega)
      have lw_b1 := hlb
      have i0_r : (0 : Int) ≤ (k : Int) := by omega
      have i1_r : (k : Int) < (n : Int) := by omega
      clear hcell hlb hh_r
      obtain ⟨ok, hok⟩ : ∃ ok, mapOk g mo r.line = ok := ⟨_, rfl⟩
      have HOKL := hide hok
      clear hok
      have HBW := hide hBw
      clear hBw
      go_upto_region 6 with fail
      go_cut [16] (fun s0 wx => s0 = .bool ok ∧ Below wr.heap.size wr wx)
      case first =>
        have hlb := lw_b1
        have KEEP := hide (show ∀ v, Below wr.heap.size wr v → v.cell? ⟨w.heap.size, 0, none⟩ = some (.int .i64 g.gr) ∧ v.cell? ⟨w.heap.size, 1, none⟩ = some (.int .i64 g.bk) ∧ v.cell? ⟨w.heap.size, 2, none⟩ = some (.int .i64 g.rw) ∧ v.cell? ⟨w.heap.size, 3, none⟩ = some (.int .i64 g.cl) ∧ v.cell? ⟨w.heap.size + 2, 0, none⟩ = some (.int .i64 mo) ∧ v.cell? ⟨w.heap.size + 2, 1, none⟩ = some (.bool mh) ∧ v.cell? ⟨b1, o1 + k * 6 + 2, none⟩ = some (.int .i64 r.line) ∧ Below wr.heap.size wr v from fun v hb =>
          have h1 := KB.out _ (bthen HBr.out hb lr)
          ⟨h1.1, h1.2.1, h1.2.2.1, h1.2.2.2.1, h1.2.2.2.2.2.1, h1.2.2.2.2.2.2.1, (hb.cell (p := ⟨b1, o1 + k * 6 + 2, none⟩) (by simp; omega)).trans (by assumption), hb⟩)
        refine wp_region_held_drew (S := fun v => v.cell? ⟨w.heap.size, 0, none⟩ = some (.int .i64 g.gr) ∧ v.cell? ⟨w.heap.size, 1, none⟩ = some (.int .i64 g.bk) ∧ v.cell? ⟨w.heap.size, 2, none⟩ = some (.int .i64 g.rw) ∧ v.cell? ⟨w.heap.size, 3, none⟩ = some (.int .i64 g.cl) ∧ v.cell? ⟨w.heap.size + 2, 0, none⟩ = some (.int .i64 mo) ∧ v.cell? ⟨w.heap.size + 2, 1, none⟩ = some (.bool mh) ∧ v.cell? ⟨b1, o1 + k * 6 + 2, none⟩ = some (.int .i64 r.line) ∧ Below wr.heap.size wr v) (by kernel_rfl) (KEEP.out _ (Below.refl _ _).drew) (fun hSx => ?_)
        refine wpAnyH_take (i := 0) (v := ?_) rfl (by kernel_rfl) (by kernel_rfl) (by kernel_rfl) (fun _ _ _ h => h) (Or.inl ⟨by rfl, ?_⟩) (by assumption) ?_
        rotate_left
        · intro w hSw; (try dsimp only at hSw); go_simp; try with_reducible rfl
        try simp only [Act.put, List.getElem_toArray, List.getElem_cons_zero, List.getElem_cons_succ, List.setIfInBounds_toArray, List.set_cons_zero, List.set_cons_succ]
        refine wpAnyH_take (i := 1) (v := ?_) rfl (by kernel_rfl) (by kernel_rfl) (by kernel_rfl) (fun _ _ _ h => h) (Or.inl ⟨by rfl, ?_⟩) (by assumption) ?_
        rotate_left
        · intro w hSw; (try dsimp only at hSw); go_simp; try with_reducible rfl
        try simp only [Act.put, List.getElem_toArray, List.getElem_cons_zero, List.getElem_cons_succ, List.setIfInBounds_toArray, List.set_cons_zero, List.set_cons_succ]
        refine wpAnyH_take (i := 2) (v := ?_) rfl (by kernel_rfl) (by kernel_rfl) (by kernel_rfl) (fun _ _ _ h => h) (Or.inl ⟨by rfl, ?_⟩) (by assumption) ?_
        rotate_left
        · intro w _; go_simp; try with_reducible rfl
        try simp only [Act.put, List.getElem_toArray, List.getElem_cons_zero, List.getElem_cons_succ, List.setIfInBounds_toArray, List.set_cons_zero, List.set_cons_succ]
        refine wpAnyH_take (i := 3) (v := ?_) rfl (by kernel_rfl) (by kernel_rfl) (by kernel_rfl) (fun _ _ _ h => h) (Or.inl ⟨by rfl, ?_⟩) (by assumption) ?_
        rotate_left
        · intro w _; go_simp; try with_reducible rfl
        try simp only [Act.put, List.getElem_toArray, List.getElem_cons_zero, List.getElem_cons_succ, List.setIfInBounds_toArray, List.set_cons_zero, List.set_cons_succ]
        refine wpAnyH_take (i := 4) (v := ?_) rfl (by kernel_rfl) (by kernel_rfl) (by kernel_rfl) (fun _ _ _ h => h) (Or.inl ⟨by rfl, ?_⟩) (by assumption) ?_
        rotate_left
        · intro w _; go_simp; try with_reducible rfl
        try simp only [Act.put, List.getElem_toArray, List.getElem_cons_zero, List.getElem_cons_succ, List.setIfInBounds_toArray, List.set_cons_zero, List.set_cons_succ]
        refine wpAnyH_take (i := 5) (v := ?_) rfl (by kernel_rfl) (by kernel_rfl) (by kernel_rfl) (fun _ _ _ h => h) (Or.inl ⟨by rfl, ?_⟩) (by assumption) ?_
        rotate_left
        · intro w _; go_simp; try with_reducible rfl
        try simp only [Act.put, List.getElem_toArray, List.getElem_cons_zero, List.getElem_cons_succ, List.setIfInBounds_toArray, List.set_cons_zero, List.set_cons_succ]
        refine wpAnyH_take (i := 6) (v := ?_) rfl (by kernel_rfl) (by kernel_rfl) (by kernel_rfl) (fun _ _ _ h => h) (Or.inl ⟨by rfl, ?_⟩) (by assumption) ?_
        rotate_left
        · intro w hSw; (try dsimp only at hSw); go_simp; try with_reducible rfl
        try simp only [Act.put, List.getElem_toArray, List.getElem_cons_zero, List.getElem_cons_succ, List.setIfInBounds_toArray, List.set_cons_zero, List.set_cons_succ]
        refine wpAnyH_ready (rs := [7, 11]) (by kernel_rfl) (by simp) ?_
        refine AllReadyH.cons rfl (fun K hK => ?_) (AllReadyH.cons rfl (fun K hK => ?_) AllReadyH.nil)
        · go_simp
          refine (spec_MapLine_any g mo r.line mh ok HOKL.out _).mono ?_
          rintro e y ⟨mb, mr, mc, rfl, hy⟩
          refine hK.out _ _ (KEEP.out _ (bthenS2 hSx.2.2.2.2.2.2.2 hy)) (fun hSy => ?_)
          clear hSx hK K
          have hSx := hSy; clear hSy
          try simp only [Act.put, List.getElem_toArray, List.getElem_cons_zero, List.getElem_cons_succ, List.setIfInBounds_toArray, List.set_cons_zero, List.set_cons_succ]
          refine wpAnyH_take (i := 8) (v := ?_) rfl (by kernel_rfl) (by kernel_rfl) (by kernel_rfl) (fun _ _ _ h => h) (Or.inl ⟨by rfl, ?_⟩) (by assumption) ?_
          rotate_left
          · intro w hSw; (try dsimp only at hSw); go_simp; try with_reducible rfl
          try simp only [Act.put, List.getElem_toArray, List.getElem_cons_zero, List.getElem_cons_succ, List.setIfInBounds_toArray, List.set_cons_zero, List.set_cons_succ]
          refine wpAnyH_take (i := 9) (v := ?_) rfl (by kernel_rfl) (by kernel_rfl) (by kernel_rfl) (fun _ _ _ h => h) (Or.inl ⟨by rfl, ?_⟩) (by assumption) ?_
          rotate_left
          · intro w hSw; (try dsimp only at hSw); go_simp; try with_reducible rfl
          try simp only [Act.put, List.getElem_toArray, List.getElem_cons_zero, List.getElem_cons_succ, List.setIfInBounds_toArray, List.set_cons_zero, List.set_cons_succ]
          refine wpAnyH_take (i := 10) (v := ?_) rfl (by kernel_rfl) (by kernel_rfl) (by kernel_rfl) (fun _ _ _ h => h) (Or.inl ⟨by rfl, ?_⟩) (by assumption) ?_
          rotate_left
          · intro w hSw; (try dsimp only at hSw); go_simp; try with_reducible rfl
          try simp only [Act.put, List.getElem_toArray, List.getElem_cons_zero, List.getElem_cons_succ, List.setIfInBounds_toArray, List.set_cons_zero, List.set_cons_succ]
          refine wpAnyH_ready (rs := [11]) (by kernel_rfl) (by simp) ?_
          refine AllReadyH.cons rfl (fun K hK => ?_) AllReadyH.nil
          go_simp
          refine hK.out _ _ (KEEP.out _ ((bthenS2 (Below.refl _ _).drew hy).alloc (by have := hy.size; simpa using this) _)) (fun hSy => ?_)
          clear hSx hK K
          have hSx := hSy; clear hSy
          try simp only [Act.put, List.getElem_toArray, List.getElem_cons_zero, List.getElem_cons_succ, List.setIfInBounds_toArray, List.set_cons_zero, List.set_cons_succ]
          refine wpAnyH_ready (rs := [12]) (by kernel_rfl) (by simp) ?_
          refine AllReadyH.cons rfl (fun K hK => ?_) AllReadyH.nil
          go_simp
          refine hK.out _ _ (KEEP.out _ ((bthenS2 (Below.refl _ _).drew hy).alloc (by have := hy.size; simpa using this) _)) (fun hSy => ?_)
          clear hSx hK K
          have hSx := hSy; clear hSy
          try simp only [Act.put, List.getElem_toArray, List.getElem_cons_zero, List.getElem_cons_succ, List.setIfInBounds_toArray, List.set_cons_zero, List.set_cons_succ]
          refine wpAnyH_take (i := 13) (v := ?_) rfl (by kernel_rfl) (by kernel_rfl) (by kernel_rfl) (fun _ _ _ h => h) (Or.inl ⟨by rfl, ?_⟩) (by assumption) ?_
          rotate_left
          · intro w hSw; (try dsimp only at hSw); go_simp; try with_reducible rfl
          try simp only [Act.put, List.getElem_toArray, List.getElem_cons_zero, List.getElem_cons_succ, List.setIfInBounds_toArray, List.set_cons_zero, List.set_cons_succ]
          refine wpAnyH_done (by kernel_rfl) ?_ _
          go_wp2_with fail
          go_meet
          exact ⟨rfl, (bthenS2 (Below.refl _ _).drew hy).alloc (by have := hy.size; simpa using this) _⟩
        · go_simp
          refine hK.out _ _ (KEEP.out _ ((Below.alloc (Below.refl _ _) (Nat.le_refl _) _).drew)) (fun hSy => ?_)
          clear hSx hK K
          have hSx := hSy; clear hSy
          try simp only [Act.put, List.getElem_toArray, List.getElem_cons_zero, List.getElem_cons_succ, List.setIfInBounds_toArray, List.set_cons_zero, List.set_cons_succ]
          refine wpAnyH_ready (rs := [7]) (by kernel_rfl) (by simp) ?_
          refine AllReadyH.cons rfl (fun K hK => ?_) AllReadyH.nil
          go_simp
          refine (spec_MapLine_any g mo r.line mh ok HOKL.out _).mono ?_
          rintro e y ⟨mb, mr, mc, rfl, hy⟩
          have hyb := bthenS2 hSx.2.2.2.2.2.2.2 hy
          have kn := (hy.block wr.heap.size (by simp)).trans (show (World.drew (wr.alloc (.cells #[.int .i64 0, .int .i64 0, .int .i64 0] 138))).heap[wr.heap.size]? = some (.cells #[.int .i64 0, .int .i64 0, .int .i64 0] 138 (0, 0)) from alloc_at _ _ _ rfl)
          refine hK.out _ _ (KEEP.out _ hyb) (fun hSy => ?_)
          clear hSx hK K
          have hSx := hSy; clear hSy
          try simp only [Act.put, List.getElem_toArray, List.getElem_cons_zero, List.getElem_cons_succ, List.setIfInBounds_toArray, List.set_cons_zero, List.set_cons_succ]
          refine wpAnyH_take (i := 8) (v := ?_) rfl (by kernel_rfl) (by kernel_rfl) (by kernel_rfl) (fun _ _ _ h => h) (Or.inl ⟨by rfl, ?_⟩) (by assumption) ?_
          rotate_left
          · intro w hSw; (try dsimp only at hSw); go_simp; try with_reducible rfl
          try simp only [Act.put, List.getElem_toArray, List.getElem_cons_zero, List.getElem_cons_succ, List.setIfInBounds_toArray, List.set_cons_zero, List.set_cons_succ]
          refine wpAnyH_take (i := 9) (v := ?_) rfl (by kernel_rfl) (by kernel_rfl) (by kernel_rfl) (fun _ _ _ h => h) (Or.inl ⟨by rfl, ?_⟩) (by assumption) ?_
          rotate_left
          · intro w hSw; (try dsimp only at hSw); go_simp; try with_reducible rfl
          try simp only [Act.put, List.getElem_toArray, List.getElem_cons_zero, List.getElem_cons_succ, List.setIfInBounds_toArray, List.set_cons_zero, List.set_cons_succ]
          refine wpAnyH_take (i := 10) (v := ?_) rfl (by kernel_rfl) (by kernel_rfl) (by kernel_rfl) (fun _ _ _ h => h) (Or.inl ⟨by rfl, ?_⟩) (by assumption) ?_
          rotate_left
          · intro w hSw; (try dsimp only at hSw); go_simp; try with_reducible rfl
          try simp only [Act.put, List.getElem_toArray, List.getElem_cons_zero, List.getElem_cons_succ, List.setIfInBounds_toArray, List.set_cons_zero, List.set_cons_succ]
          have z0 := cell_blk kn 0; have z1 := cell_blk kn 1; have z2 := cell_blk kn 2; have zf := fun o => free_blk kn o
          refine wpAnyH_ready (rs := [12]) (by kernel_rfl) (by simp) ?_
          refine AllReadyH.cons rfl (fun K hK => ?_) AllReadyH.nil
          go_simp
          have hyc := ((hyb.setCell (p := ⟨wr.heap.size, 0, none⟩) (Nat.le_refl _) (.int .i64 mb)).setCell (p := ⟨wr.heap.size, 1, none⟩) (Nat.le_refl _) (.int .i64 mr)).setCell (p := ⟨wr.heap.size, 2, none⟩) (Nat.le_refl _) (.int .i64 mc)
          refine hK.out _ _ (KEEP.out _ hyc) (fun hSy => ?_)
          clear hSx hK K
          have hSx := hSy; clear hSy
          try simp only [Act.put, List.getElem_toArray, List.getElem_cons_zero, List.getElem_cons_succ, List.setIfInBounds_toArray, List.set_cons_zero, List.set_cons_succ]
          refine wpAnyH_take (i := 13) (v := ?_) rfl (by kernel_rfl) (by kernel_rfl) (by kernel_rfl) (fun _ _ _ h => h) (Or.inl ⟨by rfl, ?_⟩) (by assumption) ?_
          rotate_left
          · intro w hSw; (try dsimp only at hSw); go_simp; try with_reducible rfl
          try simp only [Act.put, List.getElem_toArray, List.getElem_cons_zero, List.getElem_cons_succ, List.setIfInBounds_toArray, List.set_cons_zero, List.set_cons_succ]
          refine wpAnyH_done (by kernel_rfl) ?_ _
          go_wp2_with fail
          go_meet
          exact ⟨rfl, hyc⟩
      case rest =>
        obtain ⟨rfl, hX⟩ := hcut
        obtain ⟨X, rfl⟩ : ∃ V : World, V = wc := ⟨_, rfl⟩
        have lx := hX.size
        have HX := hide (bthen HBr.out hX lr)
        have HXw := hide (bthen HBW.out hX HBW.out.size)
        have hX0 : X.cell? ⟨b1, o1 + k * 6, none⟩ = some (.int .i64 r.id) := (hX.cell (p := ⟨b1, o1 + k * 6, none⟩) (by simp; omega)).trans (by assumption)
        have hlbX : b1 < X.heap.size := by omega
        have hk0 : (0 : Int) ≤ (k : Int) := by omega
        have hk1 : (k : Int) < (n : Int) := by omega
        clear hX
        cases ok
        · have HNO := hide (show trOk ⟨g, t, mo, mh, zs, l, u⟩ rs = false by unfold trOk; rw [show goodTo g mo rs rs.length = false by rw [HL.out]; exact goodTo_map hlt HE_r.out HOKL.out]; simp)
          have HNL := hide (show trL ⟨g, t, mo, mh, zs, l, u⟩ rs = [] by unfold trL; rw [HNO.out]; rfl)
          obtain rfl : 0 = NK := by rw [← hK, HNL.out]; rfl
          go_wp2_with fail
          refine bodyPost_ret (by simp [results, Try.results52, go_sem, *]; try rfl) rfl ?_
          have hE := bthen HB0.out HX.out HB0.out.size
          rw [HNO.out, HNL.out]
          exact ⟨_, _, rfl, own_made_at rfl hE.size, Below.alloc hE hE.size _⟩
        · obtain ⟨dup, hdup⟩ : ∃ d, ((rs.take k).any fun q => q.id == r.id) = d := ⟨_, rfl⟩
          have HDUP := hide hdup
          clear hdup
          obtain ⟨v, hv⟩ : ∃ v, idFrom rs r.id n 0 = v := ⟨_, rfl⟩
          cases dup
          · have hvk : v = (k : Int) := by rw [← hv]; exact idFrom_is HL.out hlt HE_r.out HDUP.out
            have HVK := hide hvk
            clear hvk
            go_wp2_with fail
            refine (spec_l19At_is _ n c rs r.id v _ hv (HA.out.below HXw.out (Nat.le_refl _)) hn6).mono ?_
            rintro e x2 ⟨rfl, hx2⟩
            obtain rfl := HVK.out
            go_wp2_with fail
            go_roundw
            case rel => exact ⟨k + 1, by omega, by go_num, hide (goodTo_next HGo.out HE_r.out HOKL.out HDUP.out), bthen HX.out hx2 HX.out.size⟩
            case measure => simp [intOf]; omega
          · have hvk : ¬ v = (k : Int) := by rw [← hv]; exact idFrom_not HL.out hlt HE_r.out HDUP.out
            have HNO := hide (show trOk ⟨g, t, mo, mh, zs, l, u⟩ rs = false by unfold trOk; rw [show goodTo g mo rs rs.length = false by rw [HL.out]; exact goodTo_dup hlt HE_r.out HDUP.out]; simp)
            have HNL := hide (show trL ⟨g, t, mo, mh, zs, l, u⟩ rs = [] by unfold trL; rw [HNO.out]; rfl)
            obtain rfl : 0 = NK := by rw [← hK, HNL.out]; rfl
            have HVK := hide (show (v != (k : Int)) = true by simpa using hvk)
            go_wp2_with fail
            refine (spec_l19At_is _ n c rs r.id v _ hv (HA.out.below HXw.out (Nat.le_refl _)) hn6).mono ?_
            rintro e x2 ⟨rfl, hx2⟩
            have hvk2 := HVK.out
            go_wp2_with fail
            refine bodyPost_ret (by simp [results, Try.results52, go_sem, *]; try rfl) rfl ?_
            have hE := bthen (bthen HB0.out HX.out HB0.out.size) hx2 (by have := HB0.out.size; have := HX.out.size; omega)
            rw [HNO.out, HNL.out]
            exact ⟨_, _, rfl, own_made_at rfl hE.size, Below.alloc hE hE.size _⟩
    · obtain rfl : k = n := by omega
      have HNO := hide (show trOk ⟨g, t, mo, mh, zs, l, u⟩ rs = true by unfold trOk; rw [HL.out]; simp only; rw [HOK.out, HGo.out]; rfl)
      have HNL := hide (show trL ⟨g, t, mo, mh, zs, l, u⟩ rs = trS ⟨g, t, mo, mh, zs, l, u⟩ rs (nSlots u l) by unfold trL; rw [HNO.out]; rfl)
      have hE := bthen HB0.out HBr.out HB0.out.size
      have h1 := KB.out wr HBr.out
      have z0 : wr.cell? ⟨w.heap.size + 3, 0, none⟩ = some (.slice a1 n1 c1) := h1.2.2.2.2.2.2.2.1
      have z1 : wr.cell? ⟨w.heap.size + 3, 1, none⟩ = some (.int .i64 l) := h1.2.2.2.2.2.2.2.2.1
      have lw3 : w.heap.size + 3 < wr.heap.size := by omega
      have nw3 : ¬ w.heap.size + 3 = wr.heap.size := by omega
      clear h1
      go_wp2_with fail
      have hnl := nSlots_le (u := u) (l := l) hb3 hu0 (servable_bd HSV.out).2.2.2.2
      have hN1 := hnl.1; have hN2 := hnl.2
      have HS := hide (spec_l23Serve a1 n1 c1 zs l u a k c rs)
      have HGA := hide (fun (i : Nat) (r : Rq) (hi : i < k) (hr : rs[i]? = some r) => goodTo_at HGo.out hi hr)
      generalize nSlots u l = N at *
      rw [HNL.out] at hK
      have HK := hide hK
      have hA9 : Below wr.heap.size wr (wr.alloc (.cells #[] 100)) := Below.alloc (Below.refl _ _) (Nat.le_refl _) _
      refine (HS.out _ (HZ.out.below (bthen hE hA9 hE.size) (Nat.le_refl _)) hs1 (HA.out.below (bthen hE hA9 hE.size) (Nat.le_refl _)) HSV.out).mono ?_
      rintro e X ⟨at', ct, rfl, hat, hX⟩
      have hsX := hX.size
      simp only [World.size_alloc] at hsX
      have hBX : Below wr.heap.size wr X := bthen hA9 hX (by simp)
      have HX := hide (bthen HBr.out hBX lr)
      have HAT := hide hat
      have hct := own_caps hat
      have hct1 := hct.1; have hct2 : ct ≤ 9223372036854775807 := hct.2
      have HO2 := hide (own_below (own_made_at (w := wr) (base := W0.heap.size) (e := 100) (size := 5) rfl lr) hX (fun q hq => by simp [Value.ownBlock] at hq; simp; omega))
      obtain ⟨b1s, hb1s⟩ : ∃ z, z = wr.heap.size + 1 := ⟨_, rfl⟩
      have hAT0 : ∀ x : Addr, at' = some x → b1s ≤ x.block ∧ x.block < X.heap.size := fun x hx => by
        have := HAT.out.lt x.block (by rw [hx]; rfl)
        rw [hb1s]; simpa using this
      have HAT0 := hide hAT0
      have HROW := hide (rowIn_own HAT.out)
      have HR0 := hide (show RowIn X at' ((runS rs zs l N).2.map (.int .i64)) by
        obtain ⟨a', c', e, _, _, _, hr⟩ := HROW.out
        injection e with e1 e2 e3; subst e1; exact hr)
      have hw1s : wr.heap.size < b1s := by omega
      have hb1X : b1s ≤ X.heap.size := by omega
      have hY0 : W0.heap.size ≤ wr.heap.size := lr
      clear hAT0 hb1s HAT HROW hat hct hX hBX hA9 HBr hBw z0 z1 lw3 nw3 hnl hK HS
      obtain ⟨Z, rfl⟩ : ∃ V : World, V = wr := ⟨_, rfl⟩
      clear lr
      go_wp2_with fail
      go_loopw [17, 19] (fun vo vi wr => ∃ (j m : Nat) (ao : Option Addr) (co : Nat), j ≤ N ∧ vi = .int .i64 j ∧ vo = .slice ao m co ∧ m ≤ 3 * j ∧ Hid ((trS ⟨g, t, mo, mh, zs, l, u⟩ rs j).length = m) ∧ Hid (wr.ownsRow W0.heap.size 100 5 (.slice ao m co) m ((trS ⟨g, t, mo, mh, zs, l, u⟩ rs j).flatMap evF)) ∧ Below W0.heap.size W0 wr ∧ X.heap.size ≤ wr.heap.size ∧ Hid (RowIn wr at' ((runS rs zs l N).2.map (.int .i64))) ∧ Hid (∀ x : Addr, ao = some x → x.block < b1s ∨ X.heap.size ≤ x.block)) (fun _ vi _ => N - (intOf vi).toNat)
      case atStart => exact ⟨0, 0, _, _, by omega, rfl, rfl, by omega, hide rfl, HO2, HX.out, Nat.le_refl _, HR0, hide (fun x hx => by injection hx with hx; rw [← hx]; exact .inl hw1s)⟩
      case round =>
        obtain ⟨j, m, ao, co, hj, rfl, rfl, hmj, Hm, HOj, hB, hXr, HRj, HDj⟩ := hrel
        have HBr := hide hB
        have lr := hB.size
        have hBw := bthen HB0.out hB HB0.out.size
        clear hB
        by_cases hlt : j < N
        · obtain ⟨p, hp⟩ : ∃ p, pickS rs zs l j = p := ⟨_, rfl⟩
          have hpb := pickS_bd rs zs l j
          rw [hp, HL.out] at hpb
          have hpb0 := hpb.1; have hpb1 := hpb.2
          have HP := hide hp
          obtain ⟨gb, ob, rfl, hac⟩ := HRj.out j (.int .i64 p) (by rw [List.getElem?_map, runS_at rs zs l N j hlt, hp]; rfl)
          have hgb := HAT0.out _ rfl
          have hgb0 : b1s ≤ gb := hgb.1
          have hgb1 : gb < X.heap.size := hgb.2
          have i0 : (0 : Int) ≤ (j : Int) := by omega
          have i1 : (j : Int) < (N : Int) := by omega
          clear hp hpb hgb
          by_cases hneg : p < 0
          · have HSN := hide (tr_no (A := ⟨g, t, mo, mh, zs, l, u⟩) (rs := rs) (j := j) (by rw [HP.out]; exact hneg))
            go_wp2_with fail
            go_roundw
            case rel => exact ⟨j + 1, m, ao, co, by omega, by go_num, rfl, by omega, hide (by rw [HSN.out]; exact Hm.out), hide (by rw [HSN.out]; exact HOj.out), HBr.out, hXr, HRj, HDj⟩
            case measure => simp [intOf]; omega
          · obtain ⟨m0, rfl⟩ := Int.eq_ofNat_of_zero_le (show 0 ≤ p by omega)
            have HSY := hide (tr_yes (A := ⟨g, t, mo, mh, zs, l, u⟩) HP.out)
            have hm0 : m0 < k := by omega
            obtain ⟨r, b1, o1, hh_r, rfl, hlb, hcell⟩ := HA.out.get rqF_len (by omega) (show m0 < k by omega)
            have r0 : wr.cell? ⟨b1, o1 + m0 * 6, none⟩ = some (.int .i64 r.id) := (hBw.cell (p := ⟨b1, o1 + (m0 * 6 + 0), none⟩) hlb).trans (hcell 0 _ rfl)
            have r1 : wr.cell? ⟨b1, o1 + m0 * 6 + 1, none⟩ = some (.int .i64 r.tenant) := (hBw.cell (p := ⟨b1, o1 + (m0 * 6 + 1), none⟩) hlb).trans (hcell 1 _ rfl)
            have r2 : wr.cell? ⟨b1, o1 + m0 * 6 + 2, none⟩ = some (.int .i64 r.line) := (hBw.cell (p := ⟨b1, o1 + (m0 * 6 + 2), none⟩) hlb).trans (hcell 2 _ rfl)
            have r3 : wr.cell? ⟨b1, o1 + m0 * 6 + 3, none⟩ = some (.bool r.write) := (hBw.cell (p := ⟨b1, o1 + (m0 * 6 + 3), none⟩) hlb).trans (hcell 3 _ rfl)
            have r4 : wr.cell? ⟨b1, o1 + m0 * 6 + 4, none⟩ = some (.int .i64 r.data) := (hBw.cell (p := ⟨b1, o1 + (m0 * 6 + 4), none⟩) hlb).trans (hcell 4 _ rfl)
            have r5 : wr.cell? ⟨b1, o1 + m0 * 6 + 5, none⟩ = some (.int .i64 r.tm) := (hBw.cell (p := ⟨b1, o1 + (m0 * 6 + 5), none⟩) hlb).trans (hcell 5 _ rfl)
            have HE_r := hide hh_r
            have sz_r := hBw.size
            have lt_b1 : b1 < wr.heap.size := (by have := hBw.size; omega)
            have lw_b1 := hlb
            have i0_r : (0 : Int) ≤ (m0 : Int) := by omega
            have i1_r : (m0 : Int) < (k : Int) := by omega
            clear hcell hlb hh_r
            obtain ⟨x, hx⟩ : ∃ x, mapL g mo mh r.line = x := ⟨_, rfl⟩
            obtain ⟨mb, mr, mc⟩ := x
            have HX0 := hide hx
            have HMO := hide (HGA.out m0 r hm0 HE_r.out)
            have HSA := hide (evOf_at (A := ⟨g, t, mo, mh, zs, l, u⟩) HE_r.out ((j : Int) * l))
            clear hx
            have h1 := KB.out wr HBr.out
            have e0 := h1.1; have e1 := h1.2.1; have e2 := h1.2.2.1; have e3 := h1.2.2.2.1; have e5 := h1.2.2.2.2.2.1; have e6 := h1.2.2.2.2.2.2.1
            have lw0 : w.heap.size < wr.heap.size := by omega
            have lw2 : w.heap.size + 2 < wr.heap.size := by omega
            have nw0 : ¬ w.heap.size = wr.heap.size := by omega
            have nw2 : ¬ w.heap.size + 2 = wr.heap.size := by omega
            clear h1
            have HBW := hide hBw
            clear hBw
            go_wp2_with fail
            refine (spec_MapLine g mo r.line mh mb mr mc _ HMO.out HX0.out).mono ?_
            rintro e X1 ⟨rfl, hX1⟩
            have hA : Below wr.heap.size wr X1 := bthen (Below.alloc (Below.refl _ _) (Nat.le_refl _) _) hX1 (by simp)
            have sA := hX1.size
            simp only [World.size_alloc] at sA
            have kr := (hX1.block wr.heap.size (by simp)).trans (alloc_at wr (.cells #[.int .i64 r.id, .int .i64 r.tenant, .int .i64 r.line, .bool r.write, .int .i64 r.data, .int .i64 r.tm] 41) _ rfl)
            have h1 := KB.out X1 (bthen HBr.out hA lr)
            have kt := h1.2.2.2.2.1
            have tat := tm_at t
            have t0 : X1.cell? ⟨w.heap.size + 1, 0, none⟩ = some (.int .i64 t.rcd) := (cell_blk kt 0).trans (by simp [tat])
            have t2 : X1.cell? ⟨w.heap.size + 1, 2, none⟩ = some (.int .i64 t.ras) := (cell_blk kt 2).trans (by simp [tat])
            have t8 : X1.cell? ⟨w.heap.size + 1, 8, none⟩ = some (.int .i64 t.rtp) := (cell_blk kt 8).trans (by simp [tat])
            have t9 : X1.cell? ⟨w.heap.size + 1, 9, none⟩ = some (.int .i64 t.wr) := (cell_blk kt 9).trans (by simp [tat])
            have sl : X1.cell? ⟨w.heap.size + 3, 1, none⟩ = some (.int .i64 l) := h1.2.2.2.2.2.2.2.2.1
            have rw3 : X1.cell? ⟨wr.heap.size, 3, none⟩ = some (.bool r.write) := cell_blk kr 3
            have hkl0 : 0 ≤ (j : Int) * l := Int.mul_nonneg (by omega) (by omega)
            have hkl1 : (j : Int) * l ≤ (N : Int) * l := Int.mul_le_mul_of_nonneg_right (by omega) (by omega)
            have hkl : IntKind.i64.wrap ((j : Int) * l) = (j : Int) * l := IntWalk.i64_in _ (by omega)
            obtain ⟨⟨x0, y0⟩, _, ⟨x2, y2⟩, _, _, _, _, _, ⟨x8, y8⟩, ⟨x9, y9⟩, hrest⟩ := tmOk_bd HT.out
            clear hrest
            have m1 : w.heap.size + 1 < X1.heap.size := by omega
            have m2 : w.heap.size + 3 < X1.heap.size := by omega
            have m3 : ¬ w.heap.size + 1 = X1.heap.size := by omega
            have m4 : ¬ w.heap.size + 3 = X1.heap.size := by omega
            have m5 : ¬ w.heap.size + 1 = X1.heap.size + 1 := by omega
            have m6 : ¬ w.heap.size + 3 = X1.heap.size + 1 := by omega
            have m5a : ¬ w.heap.size = X1.heap.size := by omega
            have m6a : ¬ w.heap.size + 2 = X1.heap.size := by omega
            have m7 : ¬ wr.heap.size = X1.heap.size := by omega
            have m8 : ¬ wr.heap.size = X1.heap.size + 1 := by omega
            obtain ⟨bb, hbb⟩ : ∃ bb, (j : Int) * l = bb := ⟨_, rfl⟩
            rw [hbb] at hkl hkl0 hkl1
            have hbw : IntKind.i64.wrap bb = bb := IntWalk.i64_in _ (by omega)
            have hw1 : IntKind.i64.wrap (bb + t.rcd) = bb + t.rcd := IntWalk.i64_in _ (by omega)
            have hw2 : IntKind.i64.wrap (t.rcd + t.rtp) = t.rcd + t.rtp := IntWalk.i64_in _ (by omega)
            have hw3 : IntKind.i64.wrap (t.rcd + t.wr) = t.rcd + t.wr := IntWalk.i64_in _ (by omega)
            have hw4 : IntKind.i64.wrap (bb + max t.ras (t.rcd + t.rtp)) = bb + max t.ras (t.rcd + t.rtp) := IntWalk.i64_in _ (by omega)
            have hw5 : IntKind.i64.wrap (bb + max t.ras (t.rcd + t.wr)) = bb + max t.ras (t.rcd + t.wr) := IntWalk.i64_in _ (by omega)
            have hmb : m ≤ 3003 := by omega
            clear x0 y0 x2 y2 x8 y8 x9 y9
            have HOX := hide (own_below HOj.out hA (fun q hq => (HOj.out.lt q hq).2))
            have HA1 := hide hA
            have HBB := hide hbb
            clear hkl hkl0 hkl1
            clear h1 kt tat hX1 hA e0 e1 e2 e3 e5 e6 lw0 lw2 nw0 nw2 hac
            go_upto_region 19 with fail
            have hV : Below X1.heap.size X1 ((X1.alloc (.cells #[.int .i64 mb, .int .i64 mr, .int .i64 mc] 138)).alloc (.cells #[.int .i64 2, .int .i64 mb, .int .i64 0, .int .i64 mc] 91)) := (Below.alloc (Below.refl _ _) (Nat.le_refl _) _).alloc (by simp) _
            have ka : ((X1.alloc (.cells #[.int .i64 mb, .int .i64 mr, .int .i64 mc] 138)).alloc (.cells #[.int .i64 2, .int .i64 mb, .int .i64 0, .int .i64 mc] 91)).heap[X1.heap.size]? = some (.cells #[.int .i64 mb, .int .i64 mr, .int .i64 mc] 138 (0, 0)) := (alloc_lt _ _ _ (by simp)).trans (alloc_at _ _ _ rfl)
            have kc : ((X1.alloc (.cells #[.int .i64 mb, .int .i64 mr, .int .i64 mc] 138)).alloc (.cells #[.int .i64 2, .int .i64 mb, .int .i64 0, .int .i64 mc] 91)).heap[X1.heap.size + 1]? = some (.cells #[.int .i64 2, .int .i64 mb, .int .i64 0, .int .i64 mc] 91 (0, 0)) := alloc_at _ _ _ (by simp)
            have HOV := hide ((HOX.out.alloc (.cells #[.int .i64 mb, .int .i64 mr, .int .i64 mc] 138)).alloc (.cells #[.int .i64 2, .int .i64 mb, .int .i64 0, .int .i64 mc] 91))
            generalize ((X1.alloc (.cells #[.int .i64 mb, .int .i64 mr, .int .i64 mc] 138)).alloc (.cells #[.int .i64 2, .int .i64 mb, .int .i64 0, .int .i64 mc] 91)) = V at *
            replace t0 := ((bcell hV).1 _ _ m1).trans t0
            replace t2 := ((bcell hV).1 _ _ m1).trans t2
            replace t8 := ((bcell hV).1 _ _ m1).trans t8
            replace t9 := ((bcell hV).1 _ _ m1).trans t9
            replace rw3 := ((bcell hV).1 _ _ (by omega)).trans rw3
            have a0 : V.cell? ⟨X1.heap.size, 0, none⟩ = some (.int .i64 mb) := cell_blk ka 0
            have a1' : V.cell? ⟨X1.heap.size, 1, none⟩ = some (.int .i64 mr) := cell_blk ka 1
            have a2 : V.cell? ⟨X1.heap.size, 2, none⟩ = some (.int .i64 mc) := cell_blk ka 2
            have c0 : V.cell? ⟨X1.heap.size + 1, 0, none⟩ = some (.int .i64 2) := cell_blk kc 0
            have c1' : V.cell? ⟨X1.heap.size + 1, 1, none⟩ = some (.int .i64 mb) := cell_blk kc 1
            have c2 : V.cell? ⟨X1.heap.size + 1, 2, none⟩ = some (.int .i64 0) := cell_blk kc 2
            have c3 : V.cell? ⟨X1.heap.size + 1, 3, none⟩ = some (.int .i64 mc) := cell_blk kc 3
            have cf := fun o => free_blk kc o
            have sV := lt_blk kc
            have HV := hide hV; have HKC := hide kc; have HKA := hide ka
            clear hV ka kc kr sl
            generalize X1.heap.size = pa at *
            obtain ⟨i0_Ev, hi_Ev, hz0_Ev, hz1_Ev, hz2_Ev⟩ := info_parts info_Ev
            cases hwr : r.write
            · rw [hwr] at rw3
              go_upto_region 23 with fail
              have HOS := HOV
              have hV2 := HV.out
              clear t2 t8 t9 rw3 cf
              have hBV := bthen HBr.out (bthen HA1.out hV2 (by omega)) lr
              have sW : pa + 1 < V.heap.size := by omega
              go_wp2_with (at_builtin; refine wpList_append_lies _ rfl _ _ 76 rfl W0.heap.size 100 i0_Ev (.agg #[.int .i64 0, .int .i64 0, .int .i64 0, .int .i64 0, .int .i64 0]) 5 40 Try.underlying76 hi_Ev hz0_Ev hz1_Ev hz2_Ev rfl (by decide) _ _ _ rfl (HOS.out.alloc _) ⟨V.heap.size, 0, none⟩ 3 3 [.int .i64 bb, .int .i64 1, .int .i64 mb, .int .i64 mr, .int .i64 0, .int .i64 (bb + t.rcd), .int .i64 2, .int .i64 mb, .int .i64 0, .int .i64 mc, .int .i64 (bb + max t.ras (t.rcd + t.rtp)), .int .i64 4, .int .i64 mb, .int .i64 0, .int .i64 0] rfl rfl ?c1q ?c2q (by decide) ?c3q ?c4q ?c5q (V.heap.size + 1) ?c6q ?_)
              (try case c1q => exact news_at_of _ _ _ (by go_size))
              (try case c2q => first | exact List.all_eq_true.1 rfl | rfl)
              (try case c3q => (unfold maxLen; omega))
              (try case c4q => omega)
              (try case c5q => (first | go_size | (simp; omega)))
              (try case c6q => simp)
              intro gq cq wq hownq hgq hatq hltq
              obtain ⟨hBq, hsq⟩ := below_app hBV HOS.out (by omega) (by omega) hgq
              have hRV := HRj.out.below (show Below wr.heap.size wr V from bthen HA1.out hV2 (by omega)) (Nat.le_refl _)
              have hne : some gb ≠ (Value.slice ao m co).ownBlock := fun e => by
                cases ao with
                | none => simp [Value.ownBlock] at e
                | some x => simp [Value.ownBlock] at e; have := HDj.out x rfl; omega
              have HRq := hide (((hRV.kept (row := none) (World.grownBy_alloc _ (.cells #[.int .i64 bb, .int .i64 1, .int .i64 mb, .int .i64 mr, .int .i64 0, .int .i64 (bb + t.rcd), .int .i64 2, .int .i64 mb, .int .i64 0, .int .i64 mc, .int .i64 (bb + max t.ras (t.rcd + t.rtp)), .int .i64 4, .int .i64 mb, .int .i64 0, .int .i64 0] 100) _) (fun x hx => by simp)).kept (row := (Value.slice ao m co).ownBlock) hgq (fun x hx => by injection hx with hx; rw [← hx]; exact hne)))
              have HDq := hide (fun (x : Addr) (hx : some (⟨gq, 0, none⟩ : Addr) = some x) => (show x.block < b1s ∨ X.heap.size ≤ x.block by
                injection hx with hx; rw [← hx]
                rcases hatq with h | h
                · cases ao with
                  | none => simp [Value.ownBlock] at h
                  | some y => simp [Value.ownBlock] at h; have := HDj.out y rfl; show gq < b1s ∨ X.heap.size ≤ gq; omega
                · show gq < b1s ∨ X.heap.size ≤ gq; omega))
              have HOq := hide hownq
              have HBQ := hide hBq
              clear hatq hltq hownq hgq HOS hne hRV t0 a0 a1' a2 c0 c1' c2 c3 hBV hV2
              go_wp2_with fail
              go_roundw
              case rel => exact ⟨j + 1, m + 3, _, _, by omega, by go_num, rfl, by omega, hide (by rw [HSY.out, List.length_append, Hm.out, HSA.out]; rfl), hide (by rw [HSY.out, List.flatMap_append, HSA.out, HX0.out, HBB.out, hwr]; exact HOq.out), HBQ.out, by omega, HRq, HDq⟩
              case measure => simp [intOf]; omega
            · rw [hwr] at rw3
              go_upto_region 23 with fail
              have hS : Below pa V (V.setCell ⟨pa + 1, 0, none⟩ (.int .i64 3)) := Below.setCell (p := ⟨pa + 1, 0, none⟩) (Below.refl _ _) (Nat.le_succ _) _
              have kcS : (V.setCell ⟨pa + 1, 0, none⟩ (.int .i64 3)).heap[pa + 1]? = some (.cells #[.int .i64 3, .int .i64 mb, .int .i64 0, .int .i64 mc] 91 (0, 0)) := set_blk HKC.out (o := 0) (.int .i64 3)
              have HOS := hide (own_set_offS (g := pa + 1) (o := 0) HOV.out (fun q hq => by have := (HOj.out.lt q hq).2; omega) (.int .i64 3))
              have sS : V.heap.size ≤ (V.setCell ⟨pa + 1, 0, none⟩ (.int .i64 3)).heap.size := by simp
              have HKS := hide (show (V.setCell ⟨pa + 1, 0, none⟩ (.int .i64 3)).heap[pa]? = _ from (heap_set_other _ _ _ _ _ (by omega)).trans HKA.out)
              generalize (V.setCell ⟨pa + 1, 0, none⟩ (.int .i64 3)) = V2 at *
              replace t0 := ((bcell hS).1 _ _ m1).trans t0
              have hS2 := hide hS
              have kaS : V2.heap[pa]? = some (.cells #[.int .i64 mb, .int .i64 mr, .int .i64 mc] 138 (0, 0)) := HKS.out
              replace a0 : V2.cell? ⟨pa, 0, none⟩ = some (.int .i64 mb) := cell_blk kaS 0
              replace a1' : V2.cell? ⟨pa, 1, none⟩ = some (.int .i64 mr) := cell_blk kaS 1
              replace a2 : V2.cell? ⟨pa, 2, none⟩ = some (.int .i64 mc) := cell_blk kaS 2
              replace c0 : V2.cell? ⟨pa + 1, 0, none⟩ = some (.int .i64 3) := cell_blk kcS 0
              replace c1' : V2.cell? ⟨pa + 1, 1, none⟩ = some (.int .i64 mb) := cell_blk kcS 1
              replace c2 : V2.cell? ⟨pa + 1, 2, none⟩ = some (.int .i64 0) := cell_blk kcS 2
              replace c3 : V2.cell? ⟨pa + 1, 3, none⟩ = some (.int .i64 mc) := cell_blk kcS 3
              have hV2 := bthen HV.out hS (Nat.le_refl _)
              clear t2 t8 t9 rw3 hS kcS kaS cf
              have hBV := bthen HBr.out (bthen HA1.out hV2 (by omega)) lr
              have sW : pa + 1 < V2.heap.size := by omega
              go_wp2_with (at_builtin; refine wpList_append_lies _ rfl _ _ 76 rfl W0.heap.size 100 i0_Ev (.agg #[.int .i64 0, .int .i64 0, .int .i64 0, .int .i64 0, .int .i64 0]) 5 40 Try.underlying76 hi_Ev hz0_Ev hz1_Ev hz2_Ev rfl (by decide) _ _ _ rfl (HOS.out.alloc _) ⟨V2.heap.size, 0, none⟩ 3 3 [.int .i64 bb, .int .i64 1, .int .i64 mb, .int .i64 mr, .int .i64 0, .int .i64 (bb + t.rcd), .int .i64 3, .int .i64 mb, .int .i64 0, .int .i64 mc, .int .i64 (bb + max t.ras (t.rcd + t.wr)), .int .i64 4, .int .i64 mb, .int .i64 0, .int .i64 0] rfl rfl ?c1q ?c2q (by decide) ?c3q ?c4q ?c5q (V2.heap.size + 1) ?c6q ?_)
              (try case c1q => exact news_at_of _ _ _ (by go_size))
              (try case c2q => first | exact List.all_eq_true.1 rfl | rfl)
              (try case c3q => (unfold maxLen; omega))
              (try case c4q => omega)
              (try case c5q => (first | go_size | (simp; omega)))
              (try case c6q => simp)
              intro gq cq wq hownq hgq hatq hltq
              obtain ⟨hBq, hsq⟩ := below_app hBV HOS.out (by omega) (by omega) hgq
              have hRV := HRj.out.below (show Below wr.heap.size wr V2 from bthen HA1.out hV2 (by omega)) (Nat.le_refl _)
              have hne : some gb ≠ (Value.slice ao m co).ownBlock := fun e => by
                cases ao with
                | none => simp [Value.ownBlock] at e
                | some x => simp [Value.ownBlock] at e; have := HDj.out x rfl; omega
              have HRq := hide (((hRV.kept (row := none) (World.grownBy_alloc _ (.cells #[.int .i64 bb, .int .i64 1, .int .i64 mb, .int .i64 mr, .int .i64 0, .int .i64 (bb + t.rcd), .int .i64 3, .int .i64 mb, .int .i64 0, .int .i64 mc, .int .i64 (bb + max t.ras (t.rcd + t.wr)), .int .i64 4, .int .i64 mb, .int .i64 0, .int .i64 0] 100) _) (fun x hx => by simp)).kept (row := (Value.slice ao m co).ownBlock) hgq (fun x hx => by injection hx with hx; rw [← hx]; exact hne)))
              have HDq := hide (fun (x : Addr) (hx : some (⟨gq, 0, none⟩ : Addr) = some x) => (show x.block < b1s ∨ X.heap.size ≤ x.block by
                injection hx with hx; rw [← hx]
                rcases hatq with h | h
                · cases ao with
                  | none => simp [Value.ownBlock] at h
                  | some y => simp [Value.ownBlock] at h; have := HDj.out y rfl; show gq < b1s ∨ X.heap.size ≤ gq; omega
                · show gq < b1s ∨ X.heap.size ≤ gq; omega))
              have HOq := hide hownq
              have HBQ := hide hBq
              clear hatq hltq hownq hgq HOS hne hRV t0 a0 a1' a2 c0 c1' c2 c3 hBV hV2
              go_wp2_with fail
              go_roundw
              case rel => exact ⟨j + 1, m + 3, _, _, by omega, by go_num, rfl, by omega, hide (by rw [HSY.out, List.length_append, Hm.out, HSA.out]; rfl), hide (by rw [HSY.out, List.flatMap_append, HSA.out, HX0.out, HBB.out, hwr]; exact HOq.out), HBQ.out, by omega, HRq, HDq⟩
              case measure => simp [intOf]; omega
        · obtain rfl : j = N := by omega
          obtain rfl : NK = m := by rw [← HK.out, Hm.out]
          go_wp2_with fail
          refine bodyPost_ret (by simp [results, Try.results52, go_sem, *]; try rfl) rfl ?_
          exact ⟨_, _, by rw [HNO.out], by rw [HNL.out]; exact own_base HOj.out (by have := HB0.out.size; omega), hBw⟩
end Go.Proofs.Ytahfbhfmhccgoaa
