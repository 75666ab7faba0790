/- SlotTrace of the program. -/
import Derived.Test.YtahfbhfmhccgoaaMapIs
import Derived.Deep.DeepCutAuto
set_option linter.unusedSimpArgs false
set_option linter.unusedVariables false
namespace Go.Proofs.Ytahfbhfmhccgoaa
open Go.RowKit Go.ChangeShapes Go.WideShapes Go.ChangeAt Go.Joins Go.Deep
open Go.ChangeMaps (open_string shut_string)
open Go.Maps (Keyed int_keyed keyOf_int_mk)
theorem impl_MapLine_any (g : Ge) (mo n : Int) (mh ok : Bool) (h : mapOk g mo n = ok) (w : World) :
    Calls Try.prog 97 #[.agg #[.int .i64 g.gr, .int .i64 g.bk, .int .i64 g.rw, .int .i64 g.cl], .agg #[.int .i64 mo, .bool mh], .int .i64 n] w fun e w' => ∃ b r c : Int, e = .returned (.tuple #[.agg #[.int .i64 b, .int .i64 r, .int .i64 c], .bool ok]) ∧ Below w.heap.size w w' := by
  cases ok
  · exact (impl_MapLine_no g mo n mh h w).mono fun e w' h => ⟨0, 0, 0, h⟩
  · obtain ⟨x, hx⟩ : ∃ x, mapL g mo mh n = x := ⟨_, rfl⟩
    obtain ⟨b, r, c⟩ := x
    exact (impl_MapLine g mo n mh b r c w h hx).mono fun e w' h => ⟨b, r, c, h⟩
theorem impl_SlotNeed_y (t : Tm) (v : Int) (h : slotNeed t = v) (w : World) : Calls Try.prog 49 #[.agg (tmC t).toArray] w fun e w' => e = .returned (.int .i64 v) ∧ Below w.heap.size w w' := by subst h; exact impl_SlotNeed t w
theorem own_drawn {w : World} {base : Nat} {e : TypeId} {size n : Nat} {v : Value} {xs : List Value} (h : w.ownsRow base e size v n xs) (k : Nat) : (w.drewN k).ownsRow base e size v n xs :=
  h.kept (row := none) ⟨rfl, rfl, rfl, Nat.le_refl _, fun _ _ _ => rfl⟩ (Classical.em _)
set_option maxRecDepth 100000 in
set_option maxHeartbeats 8000000 in
theorem impl_SlotTrace_yes (g : Ge) (t : Tm) (mo : Int) (mh : Bool) (a1 : Option Addr) (n1 c1 : Nat) (zs : List Int) (l u : Int) (a : Option Addr) (n c : Nat) (rs : List Rq) (w : World) (hz : IsInts .i64 w a1 n1 c1 zs) (hs1 : n1 ≤ 1048576) (ha : IsStructs rqF 6 w a n c rs) (NK : Nat) (hid : ∀ r ∈ rs, (Lit.int .i64 r.id).wf = true) (hok : traceOk ⟨g, t, mo, mh, zs, l, u⟩ n = true) (hK : (trL ⟨g, t, mo, mh, zs, l, u⟩ rs).length = NK) :
    Calls Try.prog 50 #[.agg #[.int .i64 g.gr, .int .i64 g.bk, .int .i64 g.rw, .int .i64 g.cl], .agg (tmC t).toArray, .agg #[.int .i64 mo, .bool mh], .agg #[.slice a1 n1 c1, .int .i64 l], .int .i64 u, .slice a n c] w (GotTr w NK (trL ⟨g, t, mo, mh, zs, l, u⟩ rs) (trOk ⟨g, t, mo, mh, zs, l, u⟩ rs)) := by
  have HZ := hide hz; have HA := hide ha
  have hc := ha.2.1; have hcm : c ≤ 9223372036854775807 := ha.2.2.1
  have hcc : n ≤ c ∧ c ≤ 9223372036854775807 := ⟨hc, hcm⟩
  obtain ⟨nd, hnd⟩ : ∃ nd, slotNeed t = nd := ⟨_, rfl⟩
  clear hz ha
  have HID := hide hid
  clear hid
  obtain ⟨hg, ht, hm, hsv, hu, hl⟩ := traceOk_bd hok
  simp only at hg ht hm hsv hu hl
  rw [hnd] at hl
  obtain ⟨hsl, hu0, hu1, hn60, huq⟩ := servable_bd hsv
  have HL3 := hide (show decide (l < nd) = false from decide_eq_false (by omega))
  have HN3 := hide (show decide ((60 : Int) < (n : Int)) = false from decide_eq_false (by omega))
  obtain ⟨_, hb1, hb2, hb3, hb4⟩ := slotsOkB_bd hsl
  obtain ⟨q, hq1⟩ : ∃ q, u / l = q := ⟨_, rfl⟩
  have HQ2 := hide (show u.tdiv l = q by rw [Int.tdiv_eq_ediv_of_nonneg hu0]; exact hq1)
  have hl0 : ¬ l = 0 := by omega
  have HL1 := hide (show (l == 0) = false by simp; omega)
  have hqb : q ≤ u := by rw [← hq1]; exact Int.ediv_le_self l hu0
  have hqc : 0 ≤ q := by rw [← hq1]; exact Int.ediv_nonneg hu0 (by omega)
  have HQW := hide (show IntKind.i64.wrap q = q from IntWalk.i64_in _ (by omega))
  have HQ3 := hide (show decide ((1000 : Int) < q) = false from decide_eq_false (by omega))
  have hu2 : btw u 0 900000 = true := btw_mk hu0 hu
  have HL := hide HA.out.1
  have hn6 : n ≤ 1048576 := by omega
  have HSV := hide hsv; have HG := hide hg; have HT := hide ht; have HM := hide hm; have HOK := hide hok
  clear hb1 hb2 huq hok hu
  have hu := hu2
  clear hu2
  go_enter Try.func50, Try.ntmps50
  go_wp2_with fail
  have kg0 : ((((w.alloc (.cells #[.int .i64 g.gr, .int .i64 g.bk, .int .i64 g.rw, .int .i64 g.cl] 43)).alloc (.cells (tmC t).toArray 73)).alloc (.cells #[.int .i64 mo, .bool mh] 45)).alloc (.cells #[.slice a1 n1 c1, .int .i64 l] 48)).heap[w.heap.size]? = some (.cells #[.int .i64 g.gr, .int .i64 g.bk, .int .i64 g.rw, .int .i64 g.cl] 43 (0, 0)) := by rw [alloc_lt _ _ _ (by simp only [World.size_alloc]; omega), alloc_lt _ _ _ (by simp only [World.size_alloc]; omega), alloc_lt _ _ _ (by simp only [World.size_alloc]; omega), alloc_at _ _ _ rfl]
  have kt0 : ((((w.alloc (.cells #[.int .i64 g.gr, .int .i64 g.bk, .int .i64 g.rw, .int .i64 g.cl] 43)).alloc (.cells (tmC t).toArray 73)).alloc (.cells #[.int .i64 mo, .bool mh] 45)).alloc (.cells #[.slice a1 n1 c1, .int .i64 l] 48)).heap[w.heap.size + 1]? = some (.cells (tmC t).toArray 73 (0, 0)) := by rw [alloc_lt _ _ _ (by simp only [World.size_alloc]; omega), alloc_lt _ _ _ (by simp only [World.size_alloc]; omega), alloc_at _ _ _ (by simp only [World.size_alloc])]
  have km0 : ((((w.alloc (.cells #[.int .i64 g.gr, .int .i64 g.bk, .int .i64 g.rw, .int .i64 g.cl] 43)).alloc (.cells (tmC t).toArray 73)).alloc (.cells #[.int .i64 mo, .bool mh] 45)).alloc (.cells #[.slice a1 n1 c1, .int .i64 l] 48)).heap[w.heap.size + 2]? = some (.cells #[.int .i64 mo, .bool mh] 45 (0, 0)) := by rw [alloc_lt _ _ _ (by simp only [World.size_alloc]; omega), alloc_at _ _ _ (by simp only [World.size_alloc])]
  have ks0 : ((((w.alloc (.cells #[.int .i64 g.gr, .int .i64 g.bk, .int .i64 g.rw, .int .i64 g.cl] 43)).alloc (.cells (tmC t).toArray 73)).alloc (.cells #[.int .i64 mo, .bool mh] 45)).alloc (.cells #[.slice a1 n1 c1, .int .i64 l] 48)).heap[w.heap.size + 3]? = some (.cells #[.slice a1 n1 c1, .int .i64 l] 48 (0, 0)) := alloc_at _ _ _ (by simp only [World.size_alloc])
  have hB0 : Below w.heap.size w ((((w.alloc (.cells #[.int .i64 g.gr, .int .i64 g.bk, .int .i64 g.rw, .int .i64 g.cl] 43)).alloc (.cells (tmC t).toArray 73)).alloc (.cells #[.int .i64 mo, .bool mh] 45)).alloc (.cells #[.slice a1 n1 c1, .int .i64 l] 48)) := (by repeat' (first | (with_reducible exact Below.refl _ _) | (with_reducible assumption) | (with_reducible refine bdrawn ?_ _) | (with_reducible refine Below.alloc ?_ ?_ _) | (with_reducible refine Below.drew ?_) | (with_reducible refine Below.setCell ?_ ?_ _) | go_size))
  simp only [show w.heap.size + 1 + 1 = w.heap.size + 2 from rfl, show w.heap.size + 1 + 1 + 1 = w.heap.size + 3 from rfl]
  generalize ((((w.alloc (.cells #[.int .i64 g.gr, .int .i64 g.bk, .int .i64 g.rw, .int .i64 g.cl] 43)).alloc (.cells (tmC t).toArray 73)).alloc (.cells #[.int .i64 mo, .bool mh] 45)).alloc (.cells #[.slice a1 n1 c1, .int .i64 l] 48)) = W0 at *
  have ls0 := lt_blk ks0
  have HB0 := hide hB0
  have HZ0 := hide (HZ.out.below hB0 (Nat.le_refl _))
  have HK0 := hide (And.intro kg0 (And.intro kt0 (And.intro km0 ks0)))
  have KEEP := hide (show ∀ v, Below W0.heap.size W0 v → v.cell? ⟨w.heap.size, 0, none⟩ = some (.int .i64 g.gr) ∧ v.cell? ⟨w.heap.size, 1, none⟩ = some (.int .i64 g.bk) ∧ v.cell? ⟨w.heap.size, 2, none⟩ = some (.int .i64 g.rw) ∧ v.cell? ⟨w.heap.size, 3, none⟩ = some (.int .i64 g.cl) ∧ v.heap[w.heap.size + 1]? = some (.cells (tmC t).toArray 73 (0, 0)) ∧ v.cell? ⟨w.heap.size + 2, 0, none⟩ = some (.int .i64 mo) ∧ v.cell? ⟨w.heap.size + 2, 1, none⟩ = some (.bool mh) ∧ v.cell? ⟨w.heap.size + 3, 0, none⟩ = some (.slice a1 n1 c1) ∧ v.cell? ⟨w.heap.size + 3, 1, none⟩ = some (.int .i64 l) ∧ Below W0.heap.size W0 v from fun v hb =>
    have h1 := (hb.block _ (lt_blk kg0)).trans kg0
    have h2 := (hb.block _ (lt_blk kt0)).trans kt0
    have h3 := (hb.block _ (lt_blk km0)).trans km0
    have h4 := (hb.block _ (lt_blk ks0)).trans ks0
    ⟨cell_blk h1 0, cell_blk h1 1, cell_blk h1 2, cell_blk h1 3, h2, cell_blk h3 0, cell_blk h3 1, cell_blk h4 0, cell_blk h4 1, hb⟩)
  clear hB0 kg0 kt0 km0 ks0
  have hl3 := HL3.out
  have hn3 := HN3.out
  have hq2 := HQ2.out
  have hl1 := HL1.out
  have hqw := HQW.out
  have hq3 := HQ3.out
  refine wp_region_held_drew (S := fun v => v.cell? ⟨w.heap.size, 0, none⟩ = some (.int .i64 g.gr) ∧ v.cell? ⟨w.heap.size, 1, none⟩ = some (.int .i64 g.bk) ∧ v.cell? ⟨w.heap.size, 2, none⟩ = some (.int .i64 g.rw) ∧ v.cell? ⟨w.heap.size, 3, none⟩ = some (.int .i64 g.cl) ∧ v.heap[w.heap.size + 1]? = some (.cells (tmC t).toArray 73 (0, 0)) ∧ v.cell? ⟨w.heap.size + 2, 0, none⟩ = some (.int .i64 mo) ∧ v.cell? ⟨w.heap.size + 2, 1, none⟩ = some (.bool mh) ∧ v.cell? ⟨w.heap.size + 3, 0, none⟩ = some (.slice a1 n1 c1) ∧ v.cell? ⟨w.heap.size + 3, 1, none⟩ = some (.int .i64 l) ∧ Below W0.heap.size W0 v) (by kernel_rfl) (KEEP.out _ (Below.refl _ _).drew) (fun hSx => ?_)
  refine wpAnyH_take (i := 0) (v := ?_) rfl (by kernel_rfl) (by kernel_rfl) (by kernel_rfl) (fun _ _ _ h => h) (Or.inl ⟨by rfl, ?_⟩) (by assumption) ?_
  rotate_left
  · intro w hSw; (try dsimp only at hSw); go_simp; try with_reducible rfl
  try simp only [Act.put, List.getElem_toArray, List.getElem_cons_zero, List.getElem_cons_succ, List.setIfInBounds_toArray, List.set_cons_zero, List.set_cons_succ]
  refine wpAnyH_ready (rs := [1]) (by kernel_rfl) (by simp) ?_
  refine AllReadyH.cons rfl (fun K hK => ?_) AllReadyH.nil
  go_simp
  refine (impl_GeometryOk_is g true hg _).mono ?_
  rintro e y1 ⟨rfl, hy1⟩
  refine hK.out _ _ (KEEP.out _ (bthenS2 hSx.2.2.2.2.2.2.2.2.2 hy1)) (fun hSy => ?_)
  clear hSx hK K
  have hSx := hSy; clear hSy
  try simp only [Act.put, List.getElem_toArray, List.getElem_cons_zero, List.getElem_cons_succ, List.setIfInBounds_toArray, List.set_cons_zero, List.set_cons_succ]
  refine wpAnyH_take (i := 2) (v := ?_) rfl (by kernel_rfl) (by kernel_rfl) (by kernel_rfl) (fun _ _ _ h => h) (Or.inl ⟨by rfl, ?_⟩) (by assumption) ?_
  rotate_left
  · intro w hSw; (try dsimp only at hSw); go_simp; try with_reducible rfl
  try simp only [Act.put, List.getElem_toArray, List.getElem_cons_zero, List.getElem_cons_succ, List.setIfInBounds_toArray, List.set_cons_zero, List.set_cons_succ]
  refine wpAnyH_take (i := 3) (v := ?_) rfl (by kernel_rfl) (by kernel_rfl) (by kernel_rfl) (fun _ _ _ h => h) (Or.inl ⟨by rfl, ?_⟩) (by assumption) ?_
  rotate_left
  · intro w hSw; (try dsimp only at hSw); go_simp; try with_reducible rfl
  try simp only [Act.put, List.getElem_toArray, List.getElem_cons_zero, List.getElem_cons_succ, List.setIfInBounds_toArray, List.set_cons_zero, List.set_cons_succ]
  refine wpAnyH_take (i := 4) rfl (by kernel_rfl) (by kernel_rfl) (by kernel_rfl) (fun _ _ _ h => h) (yieldsIf_load_row (by rfl) 73 _ rfl (w.heap.size + 1) rfl 73 ((tmC t).toArray) (0, 0) _ (fun _ h => h.2.2.2.2.1) Try.underlying73 (tmC_info t)) (by assumption) ?_
  try simp only [Act.put, List.getElem_toArray, List.getElem_cons_zero, List.getElem_cons_succ, List.setIfInBounds_toArray, List.set_cons_zero, List.set_cons_succ]
  refine wpAnyH_ready (rs := [5]) (by kernel_rfl) (by simp) ?_
  refine AllReadyH.cons rfl (fun K hK => ?_) AllReadyH.nil
  go_simp
  refine (impl_TimingOk_is t true ht _).mono ?_
  rintro e y2 ⟨rfl, hy2⟩
  refine hK.out _ _ (KEEP.out _ (bthenS2 hSx.2.2.2.2.2.2.2.2.2 hy2)) (fun hSy => ?_)
  clear hSx hK K
  have hSx := hSy; clear hSy
  try simp only [Act.put, List.getElem_toArray, List.getElem_cons_zero, List.getElem_cons_succ, List.setIfInBounds_toArray, List.set_cons_zero, List.set_cons_succ]
  refine wpAnyH_take (i := 6) (v := ?_) rfl (by kernel_rfl) (by kernel_rfl) (by kernel_rfl) (fun _ _ _ h => h) (Or.inl ⟨by rfl, ?_⟩) (by assumption) ?_
  rotate_left
  · intro w hSw; (try dsimp only at hSw); go_simp; try with_reducible rfl
  try simp only [Act.put, List.getElem_toArray, List.getElem_cons_zero, List.getElem_cons_succ, List.setIfInBounds_toArray, List.set_cons_zero, List.set_cons_succ]
  refine wpAnyH_take (i := 7) (v := ?_) rfl (by kernel_rfl) (by kernel_rfl) (by kernel_rfl) (fun _ _ _ h => h) (Or.inl ⟨by rfl, ?_⟩) (by assumption) ?_
  rotate_left
  · intro w hSw; (try dsimp only at hSw); go_simp; try with_reducible rfl
  try simp only [Act.put, List.getElem_toArray, List.getElem_cons_zero, List.getElem_cons_succ, List.setIfInBounds_toArray, List.set_cons_zero, List.set_cons_succ]
  refine wpAnyH_take (i := 8) (v := ?_) rfl (by kernel_rfl) (by kernel_rfl) (by kernel_rfl) (fun _ _ _ h => h) (Or.inl ⟨by rfl, ?_⟩) (by assumption) ?_
  rotate_left
  · intro w hSw; (try dsimp only at hSw); go_simp; try with_reducible rfl
  try simp only [Act.put, List.getElem_toArray, List.getElem_cons_zero, List.getElem_cons_succ, List.setIfInBounds_toArray, List.set_cons_zero, List.set_cons_succ]
  refine wpAnyH_take (i := 9) (v := ?_) rfl (by kernel_rfl) (by kernel_rfl) (by kernel_rfl) (fun _ _ _ h => h) (Or.inl ⟨by rfl, ?_⟩) (by assumption) ?_
  rotate_left
  · intro w hSw; (try dsimp only at hSw); go_simp; try with_reducible rfl
  try simp only [Act.put, List.getElem_toArray, List.getElem_cons_zero, List.getElem_cons_succ, List.setIfInBounds_toArray, List.set_cons_zero, List.set_cons_succ]
  refine wpAnyH_ready (rs := [10]) (by kernel_rfl) (by simp) ?_
  refine AllReadyH.cons rfl (fun K hK => ?_) AllReadyH.nil
  go_simp
  refine (impl_MappingOk mo mh true hm _).mono ?_
  rintro e y3 ⟨rfl, hy3⟩
  refine hK.out _ _ (KEEP.out _ (bthenS2 hSx.2.2.2.2.2.2.2.2.2 hy3)) (fun hSy => ?_)
  clear hSx hK K
  have hSx := hSy; clear hSy
  try simp only [Act.put, List.getElem_toArray, List.getElem_cons_zero, List.getElem_cons_succ, List.setIfInBounds_toArray, List.set_cons_zero, List.set_cons_succ]
  refine wpAnyH_take (i := 11) (v := ?_) rfl (by kernel_rfl) (by kernel_rfl) (by kernel_rfl) (fun _ _ _ h => h) (Or.inl ⟨by rfl, ?_⟩) (by assumption) ?_
  rotate_left
  · intro w hSw; (try dsimp only at hSw); go_simp; try with_reducible rfl
  try simp only [Act.put, List.getElem_toArray, List.getElem_cons_zero, List.getElem_cons_succ, List.setIfInBounds_toArray, List.set_cons_zero, List.set_cons_succ]
  refine wpAnyH_take (i := 12) (v := ?_) rfl (by kernel_rfl) (by kernel_rfl) (by kernel_rfl) (fun _ _ _ h => h) (Or.inl ⟨by rfl, ?_⟩) (by assumption) ?_
  rotate_left
  · intro w hSw; (try dsimp only at hSw); go_simp; try with_reducible rfl
  try simp only [Act.put, List.getElem_toArray, List.getElem_cons_zero, List.getElem_cons_succ, List.setIfInBounds_toArray, List.set_cons_zero, List.set_cons_succ]
  refine wpAnyH_take (i := 13) (v := ?_) rfl (by kernel_rfl) (by kernel_rfl) (by kernel_rfl) (fun _ _ _ h => h) (Or.inl ⟨by rfl, ?_⟩) (by assumption) ?_
  rotate_left
  · intro w hSw; (try dsimp only at hSw); go_simp; try with_reducible rfl
  try simp only [Act.put, List.getElem_toArray, List.getElem_cons_zero, List.getElem_cons_succ, List.setIfInBounds_toArray, List.set_cons_zero, List.set_cons_succ]
  refine wpAnyH_take (i := 14) (v := ?_) rfl (by kernel_rfl) (by kernel_rfl) (by kernel_rfl) (fun _ _ _ h => h) (Or.inl ⟨by rfl, ?_⟩) (by assumption) ?_
  rotate_left
  · intro w hSw; (try dsimp only at hSw); go_simp; try with_reducible rfl
  try simp only [Act.put, List.getElem_toArray, List.getElem_cons_zero, List.getElem_cons_succ, List.setIfInBounds_toArray, List.set_cons_zero, List.set_cons_succ]
  refine wpAnyH_ready (rs := [15]) (by kernel_rfl) (by simp) ?_
  refine AllReadyH.cons rfl (fun K hK => ?_) AllReadyH.nil
  go_simp
  refine (impl_SlotsOk_is a1 n1 c1 zs l true hsl _ (HZ0.out.below hSx.2.2.2.2.2.2.2.2.2 (Nat.le_refl _)) hs1).mono ?_
  rintro e y4 ⟨rfl, hy4⟩
  refine hK.out _ _ (KEEP.out _ (bthenS2 hSx.2.2.2.2.2.2.2.2.2 hy4)) (fun hSy => ?_)
  clear hSx hK K
  have hSx := hSy; clear hSy
  try simp only [Act.put, List.getElem_toArray, List.getElem_cons_zero, List.getElem_cons_succ, List.setIfInBounds_toArray, List.set_cons_zero, List.set_cons_succ]
  refine wpAnyH_take (i := 16) (v := ?_) rfl (by kernel_rfl) (by kernel_rfl) (by kernel_rfl) (fun _ _ _ h => h) (Or.inl ⟨by rfl, ?_⟩) (by assumption) ?_
  rotate_left
  · intro w hSw; (try dsimp only at hSw); go_simp; try with_reducible rfl
  try simp only [Act.put, List.getElem_toArray, List.getElem_cons_zero, List.getElem_cons_succ, List.setIfInBounds_toArray, List.set_cons_zero, List.set_cons_succ]
  refine wpAnyH_take (i := 17) (v := ?_) rfl (by kernel_rfl) (by kernel_rfl) (by kernel_rfl) (fun _ _ _ h => h) (Or.inl ⟨by rfl, ?_⟩) (by assumption) ?_
  rotate_left
  · intro w hSw; (try dsimp only at hSw); go_simp; try with_reducible rfl
  try simp only [Act.put, List.getElem_toArray, List.getElem_cons_zero, List.getElem_cons_succ, List.setIfInBounds_toArray, List.set_cons_zero, List.set_cons_succ]
  refine wpAnyH_take (i := 18) (v := ?_) rfl (by kernel_rfl) (by kernel_rfl) (by kernel_rfl) (fun _ _ _ h => h) (Or.inl ⟨by rfl, ?_⟩) (by assumption) ?_
  rotate_left
  · intro w hSw; (try dsimp only at hSw); go_simp; try with_reducible rfl
  try simp only [Act.put, List.getElem_toArray, List.getElem_cons_zero, List.getElem_cons_succ, List.setIfInBounds_toArray, List.set_cons_zero, List.set_cons_succ]
  refine wpAnyH_take (i := 19) (v := ?_) rfl (by kernel_rfl) (by kernel_rfl) (by kernel_rfl) (fun _ _ _ h => h) (Or.inl ⟨by rfl, ?_⟩) (by assumption) ?_
  rotate_left
  · intro w hSw; (try dsimp only at hSw); go_simp; try with_reducible rfl
  try simp only [Act.put, List.getElem_toArray, List.getElem_cons_zero, List.getElem_cons_succ, List.setIfInBounds_toArray, List.set_cons_zero, List.set_cons_succ]
  refine wpAnyH_take (i := 20) (v := ?_) rfl (by kernel_rfl) (by kernel_rfl) (by kernel_rfl) (fun _ _ _ h => h) (Or.inl ⟨by rfl, ?_⟩) (by assumption) ?_
  rotate_left
  · intro w hSw; (try dsimp only at hSw); go_simp; try with_reducible rfl
  try simp only [Act.put, List.getElem_toArray, List.getElem_cons_zero, List.getElem_cons_succ, List.setIfInBounds_toArray, List.set_cons_zero, List.set_cons_succ]
  refine wpAnyH_take (i := 21) rfl (by kernel_rfl) (by kernel_rfl) (by kernel_rfl) (fun _ _ _ h => h) (yieldsIf_load_row (by rfl) 73 _ rfl (w.heap.size + 1) rfl 73 ((tmC t).toArray) (0, 0) _ (fun _ h => h.2.2.2.2.1) Try.underlying73 (tmC_info t)) (by assumption) ?_
  try simp only [Act.put, List.getElem_toArray, List.getElem_cons_zero, List.getElem_cons_succ, List.setIfInBounds_toArray, List.set_cons_zero, List.set_cons_succ]
  refine wpAnyH_ready (rs := [22]) (by kernel_rfl) (by simp) ?_
  refine AllReadyH.cons rfl (fun K hK => ?_) AllReadyH.nil
  go_simp
  refine (impl_SlotNeed_y t nd hnd _).mono ?_
  rintro e y5 ⟨rfl, hy5⟩
  refine hK.out _ _ (KEEP.out _ (bthenS2 hSx.2.2.2.2.2.2.2.2.2 hy5)) (fun hSy => ?_)
  clear hSx hK K
  have hSx := hSy; clear hSy
  try simp only [Act.put, List.getElem_toArray, List.getElem_cons_zero, List.getElem_cons_succ, List.setIfInBounds_toArray, List.set_cons_zero, List.set_cons_succ]
  refine wpAnyH_take (i := 23) (v := ?_) rfl (by kernel_rfl) (by kernel_rfl) (by kernel_rfl) (fun _ _ _ h => h) (Or.inl ⟨by rfl, ?_⟩) (by assumption) ?_
  rotate_left
  · intro w hSw; (try dsimp only at hSw); go_simp; try with_reducible rfl
  try simp only [Act.put, List.getElem_toArray, List.getElem_cons_zero, List.getElem_cons_succ, List.setIfInBounds_toArray, List.set_cons_zero, List.set_cons_succ]
  refine wpAnyH_take (i := 24) (v := ?_) rfl (by kernel_rfl) (by kernel_rfl) (by kernel_rfl) (fun _ _ _ h => h) (Or.inl ⟨by rfl, ?_⟩) (by assumption) ?_
  rotate_left
  · intro w hSw; (try dsimp only at hSw); go_simp; try with_reducible rfl
  try simp only [Act.put, List.getElem_toArray, List.getElem_cons_zero, List.getElem_cons_succ, List.setIfInBounds_toArray, List.set_cons_zero, List.set_cons_succ]
  refine wpAnyH_take (i := 25) (v := ?_) rfl (by kernel_rfl) (by kernel_rfl) (by kernel_rfl) (fun _ _ _ h => h) (Or.inl ⟨by rfl, ?_⟩) (by assumption) ?_
  rotate_left
  · intro w hSw; (try dsimp only at hSw); go_simp; try with_reducible rfl
  try simp only [Act.put, List.getElem_toArray, List.getElem_cons_zero, List.getElem_cons_succ, List.setIfInBounds_toArray, List.set_cons_zero, List.set_cons_succ]
  refine wpAnyH_take (i := 26) (v := ?_) rfl (by kernel_rfl) (by kernel_rfl) (by kernel_rfl) (fun _ _ _ h => h) (Or.inl ⟨by rfl, ?_⟩) (by assumption) ?_
  rotate_left
  · intro w hSw; (try dsimp only at hSw); go_simp; try with_reducible rfl
  try simp only [Act.put, List.getElem_toArray, List.getElem_cons_zero, List.getElem_cons_succ, List.setIfInBounds_toArray, List.set_cons_zero, List.set_cons_succ]
  refine wpAnyH_ready (rs := [27]) (by kernel_rfl) (by simp) ?_
  refine AllReadyH.cons rfl (fun K hK => ?_) AllReadyH.nil
  go_simp
  refine (btw_is 77 u 0 900000 true _ hu (impl_between _ _ _ _)).mono ?_
  rintro e y6 ⟨rfl, hy6⟩
  refine hK.out _ _ (KEEP.out _ (bthenS2 hSx.2.2.2.2.2.2.2.2.2 hy6)) (fun hSy => ?_)
  clear hSx hK K
  have hSx := hSy; clear hSy
  try simp only [Act.put, List.getElem_toArray, List.getElem_cons_zero, List.getElem_cons_succ, List.setIfInBounds_toArray, List.set_cons_zero, List.set_cons_succ]
  refine wpAnyH_take (i := 28) (v := ?_) rfl (by kernel_rfl) (by kernel_rfl) (by kernel_rfl) (fun _ _ _ h => h) (Or.inl ⟨by rfl, ?_⟩) (by assumption) ?_
  rotate_left
  · intro w hSw; (try dsimp only at hSw); go_simp; try with_reducible rfl
  try simp only [Act.put, List.getElem_toArray, List.getElem_cons_zero, List.getElem_cons_succ, List.setIfInBounds_toArray, List.set_cons_zero, List.set_cons_succ]
  refine wpAnyH_take (i := 29) (v := ?_) rfl (by kernel_rfl) (by kernel_rfl) (by kernel_rfl) (fun _ _ _ h => h) (Or.inl ⟨by rfl, ?_⟩) (by assumption) ?_
  rotate_left
  · intro w hSw; (try dsimp only at hSw); go_simp; try with_reducible rfl
  try simp only [Act.put, List.getElem_toArray, List.getElem_cons_zero, List.getElem_cons_succ, List.setIfInBounds_toArray, List.set_cons_zero, List.set_cons_succ]
  refine wpAnyH_take (i := 30) (v := ?_) rfl (by kernel_rfl) (by kernel_rfl) (by kernel_rfl) (fun _ _ _ h => h) (Or.inl ⟨by rfl, ?_⟩) (by assumption) ?_
  rotate_left
  · intro w hSw; (try dsimp only at hSw); go_simp; try with_reducible rfl
  try simp only [Act.put, List.getElem_toArray, List.getElem_cons_zero, List.getElem_cons_succ, List.setIfInBounds_toArray, List.set_cons_zero, List.set_cons_succ]
  refine wpAnyH_take (i := 31) (v := ?_) rfl (by kernel_rfl) (by kernel_rfl) (by kernel_rfl) (fun _ _ _ h => h) (Or.inl ⟨by rfl, ?_⟩) (by assumption) ?_
  rotate_left
  · intro w hSw; (try dsimp only at hSw); go_simp; try with_reducible rfl
  try simp only [Act.put, List.getElem_toArray, List.getElem_cons_zero, List.getElem_cons_succ, List.setIfInBounds_toArray, List.set_cons_zero, List.set_cons_succ]
  refine wpAnyH_take (i := 32) (v := ?_) rfl (by kernel_rfl) (by kernel_rfl) (by kernel_rfl) (fun _ _ _ h => h) (Or.inl ⟨by rfl, ?_⟩) (by assumption) ?_
  rotate_left
  · intro w hSw; (try dsimp only at hSw); go_simp; try with_reducible rfl
  try simp only [Act.put, List.getElem_toArray, List.getElem_cons_zero, List.getElem_cons_succ, List.setIfInBounds_toArray, List.set_cons_zero, List.set_cons_succ]
  refine wpAnyH_take (i := 33) (v := ?_) rfl (by kernel_rfl) (by kernel_rfl) (by kernel_rfl) (fun _ _ _ h => h) (Or.inl ⟨by rfl, ?_⟩) (by assumption) ?_
  rotate_left
  · intro w hSw; (try dsimp only at hSw); go_simp; try with_reducible rfl
  try simp only [Act.put, List.getElem_toArray, List.getElem_cons_zero, List.getElem_cons_succ, List.setIfInBounds_toArray, List.set_cons_zero, List.set_cons_succ]
  refine wpAnyH_take (i := 34) (v := ?_) rfl (by kernel_rfl) (by kernel_rfl) (by kernel_rfl) (fun _ _ _ h => h) (Or.inl ⟨by rfl, ?_⟩) (by assumption) ?_
  rotate_left
  · intro w hSw; (try dsimp only at hSw); go_simp; try with_reducible rfl
  try simp only [Act.put, List.getElem_toArray, List.getElem_cons_zero, List.getElem_cons_succ, List.setIfInBounds_toArray, List.set_cons_zero, List.set_cons_succ]
  refine wpAnyH_take (i := 35) (v := ?_) rfl (by kernel_rfl) (by kernel_rfl) (by kernel_rfl) (fun _ _ _ h => h) (Or.inl ⟨by rfl, ?_⟩) (by assumption) ?_
  rotate_left
  · intro w hSw; (try dsimp only at hSw); go_simp; try with_reducible rfl
  try simp only [Act.put, List.getElem_toArray, List.getElem_cons_zero, List.getElem_cons_succ, List.setIfInBounds_toArray, List.set_cons_zero, List.set_cons_succ]
  refine wpAnyH_take (i := 36) (v := ?_) rfl (by kernel_rfl) (by kernel_rfl) (by kernel_rfl) (fun _ _ _ h => h) (Or.inl ⟨by rfl, ?_⟩) (by assumption) ?_
  rotate_left
  · intro w hSw; (try dsimp only at hSw); go_simp; try with_reducible rfl
  try simp only [Act.put, List.getElem_toArray, List.getElem_cons_zero, List.getElem_cons_succ, List.setIfInBounds_toArray, List.set_cons_zero, List.set_cons_succ]
  refine wpAnyH_take (i := 37) (v := ?_) rfl (by kernel_rfl) (by kernel_rfl) (by kernel_rfl) (fun _ _ _ h => h) (Or.inl ⟨by rfl, ?_⟩) (by assumption) ?_
  rotate_left
  · intro w hSw; (try dsimp only at hSw); go_simp; try with_reducible rfl
  try simp only [Act.put, List.getElem_toArray, List.getElem_cons_zero, List.getElem_cons_succ, List.setIfInBounds_toArray, List.set_cons_zero, List.set_cons_succ]
  refine wpAnyH_take (i := 38) (v := ?_) rfl (by kernel_rfl) (by kernel_rfl) (by kernel_rfl) (fun _ _ _ h => h) (Or.inl ⟨by rfl, ?_⟩) (by assumption) ?_
  rotate_left
  · intro w hSw; (try dsimp only at hSw); go_simp; try with_reducible rfl
  try simp only [Act.put, List.getElem_toArray, List.getElem_cons_zero, List.getElem_cons_succ, List.setIfInBounds_toArray, List.set_cons_zero, List.set_cons_succ]
  refine wpAnyH_take (i := 39) (v := ?_) rfl (by kernel_rfl) (by kernel_rfl) (by kernel_rfl) (fun _ _ _ h => h) (Or.inl ⟨by rfl, ?_⟩) (by assumption) ?_
  rotate_left
  · intro w hSw; (try dsimp only at hSw); go_simp; try with_reducible rfl
  try simp only [Act.put, List.getElem_toArray, List.getElem_cons_zero, List.getElem_cons_succ, List.setIfInBounds_toArray, List.set_cons_zero, List.set_cons_succ]
  refine wpAnyH_take (i := 40) (v := ?_) rfl (by kernel_rfl) (by kernel_rfl) (by kernel_rfl) (fun _ _ _ h => h) (Or.inl ⟨by rfl, ?_⟩) (by assumption) ?_
  rotate_left
  · intro w hSw; (try dsimp only at hSw); go_simp; try with_reducible rfl
  try simp only [Act.put, List.getElem_toArray, List.getElem_cons_zero, List.getElem_cons_succ, List.setIfInBounds_toArray, List.set_cons_zero, List.set_cons_succ]
  refine wpAnyH_take (i := 41) (v := ?_) rfl (by kernel_rfl) (by kernel_rfl) (by kernel_rfl) (fun _ _ _ h => h) (Or.inl ⟨by rfl, ?_⟩) (by assumption) ?_
  rotate_left
  · intro w hSw; (try dsimp only at hSw); go_simp; try with_reducible rfl
  try simp only [Act.put, List.getElem_toArray, List.getElem_cons_zero, List.getElem_cons_succ, List.setIfInBounds_toArray, List.set_cons_zero, List.set_cons_succ]
  refine wpAnyH_done (by kernel_rfl) ?_ _
  have HY := hide hSx.2.2.2.2.2.2.2.2.2
  have ly := HY.out.size
  clear hSx KEEP
  try clear hy1 hy2 hy3 hy4 hy5 hy6
  obtain ⟨Y, rfl⟩ : ∃ V : World, V = y6 := ⟨_, rfl⟩
  have hmm := @run_makeMap Try.prog
  go_wp2_with fail
  have KB := hide (show ∀ v, Below W0.heap.size W0 v → v.cell? ⟨w.heap.size, 0, none⟩ = some (.int .i64 g.gr) ∧ v.cell? ⟨w.heap.size, 1, none⟩ = some (.int .i64 g.bk) ∧ v.cell? ⟨w.heap.size, 2, none⟩ = some (.int .i64 g.rw) ∧ v.cell? ⟨w.heap.size, 3, none⟩ = some (.int .i64 g.cl) ∧ v.heap[w.heap.size + 1]? = some (.cells (tmC t).toArray 73 (0, 0)) ∧ v.cell? ⟨w.heap.size + 2, 0, none⟩ = some (.int .i64 mo) ∧ v.cell? ⟨w.heap.size + 2, 1, none⟩ = some (.bool mh) ∧ v.cell? ⟨w.heap.size + 3, 0, none⟩ = some (.slice a1 n1 c1) ∧ v.cell? ⟨w.heap.size + 3, 1, none⟩ = some (.int .i64 l) ∧ Below W0.heap.size W0 v from fun v hb =>
    have h1 := (hb.block _ (lt_blk HK0.out.1)).trans HK0.out.1
    have h2 := (hb.block _ (lt_blk HK0.out.2.1)).trans HK0.out.2.1
    have h3 := (hb.block _ (lt_blk HK0.out.2.2.1)).trans HK0.out.2.2.1
    have h4 := (hb.block _ (lt_blk HK0.out.2.2.2)).trans HK0.out.2.2.2
    ⟨cell_blk h1 0, cell_blk h1 1, cell_blk h1 2, cell_blk h1 3, h2, cell_blk h3 0, cell_blk h3 1, cell_blk h4 0, cell_blk h4 1, hb⟩)
  go_loopw [74] (fun vi wr => ∃ k : Nat, k ≤ n ∧ vi = .int .i64 k ∧ Hid (goodTo g mo rs k = true) ∧ Hid (MapIs wr Y.heap.size k rs) ∧ Below W0.heap.size W0 wr) (fun vi _ => n - (intOf vi).toNat)
  case atStart => exact ⟨0, by omega, rfl, hide rfl, hide (MapIs.made Y rs), HY.out.alloc ly _⟩
  case round =>
    obtain ⟨k, hk, rfl, HGo, HMI, hB⟩ := hrel
    have HBr := hide hB
    have hBw := bthen HB0.out hB HB0.out.size
    have lr := hB.size
    have lm := HMI.out.lt
    clear hB
    by_cases hlt : k < n
    · obtain ⟨r, b1, o1, hh_r, rfl, hlb, hcell⟩ := HA.out.get rqF_len (by omega) (show k < n by omega)
      have q0 : wr.cell? ⟨b1, o1 + k * 6, none⟩ = some (.int .i64 r.id) := (hBw.cell (p := ⟨b1, o1 + (k * 6 + 0), none⟩) hlb).trans (hcell 0 _ rfl)
      have q1 : wr.cell? ⟨b1, o1 + k * 6 + 1, none⟩ = some (.int .i64 r.tenant) := (hBw.cell (p := ⟨b1, o1 + (k * 6 + 1), none⟩) hlb).trans (hcell 1 _ rfl)
      have q2 : wr.cell? ⟨b1, o1 + k * 6 + 2, none⟩ = some (.int .i64 r.line) := (hBw.cell (p := ⟨b1, o1 + (k * 6 + 2), none⟩) hlb).trans (hcell 2 _ rfl)
      have q3 : wr.cell? ⟨b1, o1 + k * 6 + 3, none⟩ = some (.bool r.write) := (hBw.cell (p := ⟨b1, o1 + (k * 6 + 3), none⟩) hlb).trans (hcell 3 _ rfl)
      have q4 : wr.cell? ⟨b1, o1 + k * 6 + 4, none⟩ = some (.int .i64 r.data) := (hBw.cell (p := ⟨b1, o1 + (k * 6 + 4), none⟩) hlb).trans (hcell 4 _ rfl)
      have q5 : wr.cell? ⟨b1, o1 + k * 6 + 5, none⟩ = some (.int .i64 r.tm) := (hBw.cell (p := ⟨b1, o1 + (k * 6 + 5), none⟩) hlb).trans (hcell 5 _ rfl)
      have HE_r := hide hh_r
      have sz_r := hBw.size
      have lt_b1 : b1 < wr.heap.size := (by have := hBw.size; omega)
      have lw_b1 := hlb
      have i0_r : (0 : Int) ≤ (k : Int) := by omega
      have i1_r : (k : Int) < (n : Int) := by omega
      clear hcell hlb hh_r
      obtain ⟨ok, hok⟩ : ∃ ok, mapOk g mo r.line = ok := ⟨_, rfl⟩
      have HOKL := hide hok
      clear hok
      have HBW := hide hBw
      clear hBw
      have hidr := HID.out r (List.mem_of_getElem? HE_r.out)
      have HIDR := hide hidr
      clear hidr
      have h1 := KB.out wr HBr.out
      have e0 := h1.1; have e1 := h1.2.1; have e2 := h1.2.2.1; have e3 := h1.2.2.2.1; have e5 := h1.2.2.2.2.2.1; have e6 := h1.2.2.2.2.2.2.1
      have lw0 : w.heap.size < wr.heap.size := by omega
      have lw2 : w.heap.size + 2 < wr.heap.size := by omega
      have nw0 : ¬ w.heap.size = wr.heap.size := by omega
      have nw2 : ¬ w.heap.size + 2 = wr.heap.size := by omega
      clear h1
      go_wp2_with fail
      refine (impl_MapLine_any g mo r.line mh ok HOKL.out _).mono ?_
      rintro e X1 ⟨mb, mr, mc, rfl, hX1⟩
      have hA : Below wr.heap.size wr X1 := bthen (Below.alloc (Below.refl _ _) (Nat.le_refl _) _) hX1 (by simp)
      have sA := hX1.size
      simp only [World.size_alloc] at sA
      have kr := (hX1.block wr.heap.size (by simp)).trans (alloc_at wr (.cells #[.int .i64 r.id, .int .i64 r.tenant, .int .i64 r.line, .bool r.write, .int .i64 r.data, .int .i64 r.tm] 41) _ rfl)
      have r0 : X1.cell? ⟨wr.heap.size, 0, none⟩ = some (.int .i64 r.id) := cell_blk kr 0
      have HX := hide (bthen HBr.out hA lr)
      have m7 : ¬ wr.heap.size = X1.heap.size := by omega
      have HMX := hide (HMI.out.below hA lm)
      have lmx : Y.heap.size < X1.heap.size := by omega
      have lrx : wr.heap.size < X1.heap.size := by omega
      clear hX1 hA kr e0 e1 e2 e3 e5 e6 q0 q1 q2 q3 q4 q5 hmm
      cases ok
      · have HNO := hide (show trOk ⟨g, t, mo, mh, zs, l, u⟩ rs = false by unfold trOk; rw [show goodTo g mo rs rs.length = false by rw [HL.out]; exact goodTo_map hlt HE_r.out HOKL.out]; simp)
        have HNL := hide (show trL ⟨g, t, mo, mh, zs, l, u⟩ rs = [] by unfold trL; rw [HNO.out]; rfl)
        obtain rfl : 0 = NK := by rw [← hK, HNL.out]; rfl
        go_wp2_with fail
        refine bodyPost_ret (by simp [results, Try.results50, go_sem, *]; try rfl) rfl ?_
        have hE := bthen HB0.out HX.out HB0.out.size
        rw [HNO.out, HNL.out]
        exact ⟨_, _, rfl, World.ownsRow_nil _ _ _ _, Below.alloc hE hE.size _⟩
      · obtain ⟨dup, hdup⟩ : ∃ d, ((rs.take k).any fun q => q.id == r.id) = d := ⟨_, rfl⟩
        have HDUP := hide hdup
        have hlook := (show MapIs (X1.alloc (.cells #[.int .i64 mb, .int .i64 mr, .int .i64 mc] 138)) Y.heap.size k rs from HMX.out.below (Below.alloc (Below.refl _ _) (Nat.le_refl _) _) lmx).look HIDR.out hdup
        clear hdup
        cases dup
        · obtain ⟨D, hD1, hD2, hD3⟩ := (show MapIs (X1.alloc (.cells #[.int .i64 mb, .int .i64 mr, .int .i64 mc] 138)) Y.heap.size k rs from HMX.out.below (Below.alloc (Below.refl _ _) (Nat.le_refl _) _) lmx)
          have HD1 := hide hD1; have HD2 := hide hD2; have HD3 := hide hD3
          have hkey := keyOf_int_mk Try.underlying3 HIDR.out
          clear hD1 hD2 hD3
          go_wp2_with (at_mapUpdate; refine wpList_mapUpdate_own _ rfl _ _ _ 136 rfl 3 4 try_keyed Try.underlying136 _ Y.heap.size k D rfl HD1.out (by unfold maxLen; omega) _ _ _ rfl rfl hkey _ [] (plainElem_bool Try.underlying4 true) ?_; intro w1 hown1 hgrow1)
          have HM1 := hide (MapIs.next HE_r.out HD2.out HD3.out hown1)
          have HB1 := hide (show Below W0.heap.size W0 w1 from (Below.alloc HX.out HX.out.size (.cells #[.int .i64 mb, .int .i64 mr, .int .i64 mc] 138)).grown hgrow1 (by have := HX.out.size; simp; omega) (fun q hq => by injection hq with hq; omega))
          clear hown1 hgrow1
          go_wp2_with fail
          go_roundw
          case rel => exact ⟨k + 1, by omega, by go_num, hide (goodTo_next HGo.out HE_r.out HOKL.out HDUP.out), HM1, HB1.out⟩
          case measure => simp [intOf]; omega
        · have HNO := hide (show trOk ⟨g, t, mo, mh, zs, l, u⟩ rs = false by unfold trOk; rw [show goodTo g mo rs rs.length = false by rw [HL.out]; exact goodTo_dup hlt HE_r.out HDUP.out]; simp)
          have HNL := hide (show trL ⟨g, t, mo, mh, zs, l, u⟩ rs = [] by unfold trL; rw [HNO.out]; rfl)
          obtain rfl : 0 = NK := by rw [← hK, HNL.out]; rfl
          go_wp2_with fail
          refine bodyPost_ret (by simp [results, Try.results50, go_sem, *]; try rfl) rfl ?_
          have hE := bthen HB0.out HX.out HB0.out.size
          rw [HNO.out, HNL.out]
          exact ⟨_, _, rfl, World.ownsRow_nil _ _ _ _, Below.alloc hE hE.size _⟩
    · obtain rfl : k = n := by omega
      clear HMI lm hmm
      have HNO := hide (show trOk ⟨g, t, mo, mh, zs, l, u⟩ rs = true by unfold trOk; rw [HL.out]; simp only; rw [HOK.out, HGo.out]; rfl)
      have HNL := hide (show trL ⟨g, t, mo, mh, zs, l, u⟩ rs = trS ⟨g, t, mo, mh, zs, l, u⟩ rs (nSlots u l) by unfold trL; rw [HNO.out]; rfl)
      have hE := bthen HB0.out HBr.out HB0.out.size
      have h1 := KB.out wr HBr.out
      have z0 : wr.cell? ⟨w.heap.size + 3, 0, none⟩ = some (.slice a1 n1 c1) := h1.2.2.2.2.2.2.2.1
      have z1 : wr.cell? ⟨w.heap.size + 3, 1, none⟩ = some (.int .i64 l) := h1.2.2.2.2.2.2.2.2.1
      have lw3 : w.heap.size + 3 < wr.heap.size := by omega
      have nw3 : ¬ w.heap.size + 3 = wr.heap.size := by omega
      clear h1
      go_wp2_with fail
      have hnl := nSlots_le (u := u) (l := l) hb3 hu0 (servable_bd HSV.out).2.2.2.2
      have hN1 := hnl.1; have hN2 := hnl.2
      have HS := hide (impl_slotOrder a1 n1 c1 zs l u a k c rs)
      have HGA := hide (fun (i : Nat) (r : Rq) (hi : i < k) (hr : rs[i]? = some r) => goodTo_at HGo.out hi hr)
      generalize nSlots u l = N at *
      rw [HNL.out] at hK
      have HKK := hide hK
      obtain ⟨K, hKw⟩ : ∃ K, (whichS rs zs l N).length = K := ⟨_, rfl⟩
      have HK := hide hKw
      have hKN : K ≤ N := by rw [← HK.out]; exact which_le N
      have hA9 : Below wr.heap.size wr (wr.alloc (.cells #[] 100)) := Below.alloc (Below.refl _ _) (Nat.le_refl _) _
      refine (HS.out K _ (HZ.out.below (bthen hE hA9 hE.size) (Nat.le_refl _)) hs1 (HA.out.below (bthen hE hA9 hE.size) (Nat.le_refl _)) HSV.out hKw).mono ?_
      rintro e X ⟨aw, cw, ab, cb, rfl, hwo, hbo, hX⟩
      have hsX := hX.size
      simp only [World.size_alloc] at hsX
      have hBX : Below wr.heap.size wr X := bthen hA9 hX (by simp)
      have HX := hide (bthen HBr.out hBX lr)
      have hcw := own_caps hwo
      have hcw1 := hcw.1; have hcw2 : cw ≤ 9223372036854775807 := hcw.2
      have hcb := own_caps hbo
      have hcb1 := hcb.1; have hcb2 : cb ≤ 9223372036854775807 := hcb.2
      have HO2 := hide (own_below (own_made_at (w := wr) (base := W0.heap.size) (e := 100) (size := 5) rfl lr) hX (fun q hq => by simp [Value.ownBlock] at hq; simp; omega))
      obtain ⟨b1s, hb1s⟩ : ∃ z, z = wr.heap.size + 1 := ⟨_, rfl⟩
      have HAW := hide (fun (x : Addr) (hx : aw = some x) => (show b1s ≤ x.block ∧ x.block < X.heap.size by have := hwo.lt x.block (by rw [hx]; rfl); rw [hb1s]; simpa using this))
      have HAB := hide (fun (x : Addr) (hx : ab = some x) => (show b1s ≤ x.block ∧ x.block < X.heap.size by have := hbo.lt x.block (by rw [hx]; rfl); rw [hb1s]; simpa using this))
      have HRW := hide (show RowIn X aw ((whichS rs zs l N).map (.int .i64)) by
        obtain ⟨a', c', e, _, _, _, hr⟩ := rowIn_own hwo
        injection e with e1 e2 e3; subst e1; exact hr)
      have HRB := hide (show RowIn X ab ((beginS rs zs l N).map (.int .i64)) by
        obtain ⟨a', c', e, _, _, _, hr⟩ := rowIn_own hbo
        injection e with e1 e2 e3; subst e1; exact hr)
      have hw1s : wr.heap.size < b1s := by omega
      have hb1X : b1s ≤ X.heap.size := by omega
      have hY0 : W0.heap.size ≤ wr.heap.size := lr
      clear hwo hbo hcw hcb hb1s hX hBX hA9 HBr hBw z0 z1 lw3 nw3 hnl hK hKw HS
      obtain ⟨Z, rfl⟩ : ∃ V : World, V = wr := ⟨_, rfl⟩
      clear lr
      go_wp2_with fail
      go_loopw [19, 108] (fun vo vi wr => ∃ (j m : Nat) (ao : Option Addr) (co : Nat), j ≤ K ∧ vi = .int .i64 j ∧ vo = .slice ao m co ∧ m ≤ 3 * j ∧ Hid ((trK ⟨g, t, mo, mh, zs, l, u⟩ rs N j).length = m) ∧ Hid (wr.ownsRow W0.heap.size 100 5 (.slice ao m co) m ((trK ⟨g, t, mo, mh, zs, l, u⟩ rs N j).flatMap evF)) ∧ Below W0.heap.size W0 wr ∧ X.heap.size ≤ wr.heap.size ∧ Hid (RowIn wr aw ((whichS rs zs l N).map (.int .i64))) ∧ Hid (RowIn wr ab ((beginS rs zs l N).map (.int .i64))) ∧ Hid (∀ x : Addr, ao = some x → x.block < b1s ∨ X.heap.size ≤ x.block)) (fun _ vi _ => K - (intOf vi).toNat)
      case atStart => exact ⟨0, 0, _, _, by omega, rfl, rfl, by omega, hide rfl, HO2, HX.out, Nat.le_refl _, HRW, HRB, hide (fun x hx => by injection hx with hx; rw [← hx]; exact .inl hw1s)⟩
      case round =>
        obtain ⟨j, m, ao, co, hj, rfl, rfl, hmj, Hm, HOj, hB, hXr, HWj, HBj, HDj⟩ := hrel
        have HBr := hide hB
        have lr := hB.size
        have hBw := bthen HB0.out hB HB0.out.size
        clear hB
        by_cases hlt : j < K
        · have hw : (whichS rs zs l N)[j]? = some ((whichS rs zs l N)[j]'(by rw [HK.out]; exact hlt)) := List.getElem?_eq_getElem _
          generalize (whichS rs zs l N)[j]'(by rw [HK.out]; exact hlt) = p at hw
          have hpb := which_bd N p (List.mem_of_getElem? hw)
          rw [HL.out] at hpb
          obtain ⟨m0, rfl⟩ := Int.eq_ofNat_of_zero_le hpb.1
          have hm0 : m0 < k := by have := hpb.2; omega
          have hg' : (beginS rs zs l N)[j]? = some ((beginS rs zs l N)[j]'(by rw [begin_len, HK.out]; exact hlt)) := List.getElem?_eq_getElem _
          generalize (beginS rs zs l N)[j]'(by rw [begin_len, HK.out]; exact hlt) = bb at hg'
          have htb := begin_bd (rs := rs) (zs := zs) (l := l) (by omega) N bb (List.mem_of_getElem? hg')
          have ht0 := htb.1; have ht1 := htb.2
          obtain ⟨r, b1, o1, hh_r, rfl, hlb, hcell⟩ := HA.out.get rqF_len (by omega) (show m0 < k by omega)
          have r0 : wr.cell? ⟨b1, o1 + m0 * 6, none⟩ = some (.int .i64 r.id) := (hBw.cell (p := ⟨b1, o1 + (m0 * 6 + 0), none⟩) hlb).trans (hcell 0 _ rfl)
          have r1 : wr.cell? ⟨b1, o1 + m0 * 6 + 1, none⟩ = some (.int .i64 r.tenant) := (hBw.cell (p := ⟨b1, o1 + (m0 * 6 + 1), none⟩) hlb).trans (hcell 1 _ rfl)
          have r2 : wr.cell? ⟨b1, o1 + m0 * 6 + 2, none⟩ = some (.int .i64 r.line) := (hBw.cell (p := ⟨b1, o1 + (m0 * 6 + 2), none⟩) hlb).trans (hcell 2 _ rfl)
          have r3 : wr.cell? ⟨b1, o1 + m0 * 6 + 3, none⟩ = some (.bool r.write) := (hBw.cell (p := ⟨b1, o1 + (m0 * 6 + 3), none⟩) hlb).trans (hcell 3 _ rfl)
          have r4 : wr.cell? ⟨b1, o1 + m0 * 6 + 4, none⟩ = some (.int .i64 r.data) := (hBw.cell (p := ⟨b1, o1 + (m0 * 6 + 4), none⟩) hlb).trans (hcell 4 _ rfl)
          have r5 : wr.cell? ⟨b1, o1 + m0 * 6 + 5, none⟩ = some (.int .i64 r.tm) := (hBw.cell (p := ⟨b1, o1 + (m0 * 6 + 5), none⟩) hlb).trans (hcell 5 _ rfl)
          have HE_r := hide hh_r
          have sz_r := hBw.size
          have lt_b1 : b1 < wr.heap.size := (by have := hBw.size; omega)
          have lw_b1 := hlb
          have i0_r : (0 : Int) ≤ (m0 : Int) := by omega
          have i1_r : (m0 : Int) < (k : Int) := by omega
          clear hcell hlb hh_r
          have HSK := hide (trK_next (A := ⟨g, t, mo, mh, zs, l, u⟩) hw hg' HE_r.out)
          obtain ⟨gw, ow, rfl, hcw⟩ := HWj.out j (.int .i64 m0) (by rw [List.getElem?_map, hw]; rfl)
          obtain ⟨gb, ob, rfl, hcb⟩ := HBj.out j (.int .i64 bb) (by rw [List.getElem?_map, hg']; rfl)
          have hgw := HAW.out _ rfl; have hgb := HAB.out _ rfl
          have hgw0 : b1s ≤ gw := hgw.1
          have hgw1 : gw < X.heap.size := hgw.2
          have hgb0 : b1s ≤ gb := hgb.1
          have hgb1 : gb < X.heap.size := hgb.2
          have i0 : (0 : Int) ≤ (j : Int) := by omega
          have i1 : (j : Int) < (K : Int) := by omega
          have hlw : gw < wr.heap.size := by omega
          have hlg : gb < wr.heap.size := by omega
          clear hpb hw hg' htb hgw hgb
          obtain ⟨x, hx⟩ : ∃ x, mapL g mo mh r.line = x := ⟨_, rfl⟩
          obtain ⟨mb, mr, mc⟩ := x
          have HX0 := hide hx
          have HMO := hide (HGA.out m0 r hm0 HE_r.out)
          clear hx
          go_upto_region 17 with fail
          have HCB := hide hcb
          clear hcw hcb
          go_cut [24] (fun s0 wx => ∃ p, s0 = .pointer (some ⟨p, 0, none⟩) ∧ wr.heap.size ≤ p ∧ wx.heap[p]? = some (.cells #[.int .i64 mb, .int .i64 mr, .int .i64 mc] 138 (0, 0)) ∧ Below wr.heap.size wr wx)
          case first =>
            have hlb := lw_b1
            have KEEP := hide (show ∀ v, Below wr.heap.size wr v → v.cell? ⟨w.heap.size, 0, none⟩ = some (.int .i64 g.gr) ∧ v.cell? ⟨w.heap.size, 1, none⟩ = some (.int .i64 g.bk) ∧ v.cell? ⟨w.heap.size, 2, none⟩ = some (.int .i64 g.rw) ∧ v.cell? ⟨w.heap.size, 3, none⟩ = some (.int .i64 g.cl) ∧ v.cell? ⟨w.heap.size + 2, 0, none⟩ = some (.int .i64 mo) ∧ v.cell? ⟨w.heap.size + 2, 1, none⟩ = some (.bool mh) ∧ v.cell? ⟨b1, o1 + m0 * 6 + 2, none⟩ = some (.int .i64 r.line) ∧ Below wr.heap.size wr v from fun v hb =>
              have h1 := KB.out _ (bthen HBr.out hb lr)
              ⟨h1.1, h1.2.1, h1.2.2.1, h1.2.2.2.1, h1.2.2.2.2.2.1, h1.2.2.2.2.2.2.1, (hb.cell (p := ⟨b1, o1 + m0 * 6 + 2, none⟩) (by simp; omega)).trans (by assumption), hb⟩)
            refine wp_region_held_drew (S := fun v => v.cell? ⟨w.heap.size, 0, none⟩ = some (.int .i64 g.gr) ∧ v.cell? ⟨w.heap.size, 1, none⟩ = some (.int .i64 g.bk) ∧ v.cell? ⟨w.heap.size, 2, none⟩ = some (.int .i64 g.rw) ∧ v.cell? ⟨w.heap.size, 3, none⟩ = some (.int .i64 g.cl) ∧ v.cell? ⟨w.heap.size + 2, 0, none⟩ = some (.int .i64 mo) ∧ v.cell? ⟨w.heap.size + 2, 1, none⟩ = some (.bool mh) ∧ v.cell? ⟨b1, o1 + m0 * 6 + 2, none⟩ = some (.int .i64 r.line) ∧ Below wr.heap.size wr v) (by kernel_rfl) (KEEP.out _ (Below.refl _ _).drew) (fun hSx => ?_)
            refine wpAnyH_take (i := 0) (v := ?_) rfl (by kernel_rfl) (by kernel_rfl) (by kernel_rfl) (fun _ _ _ h => h) (Or.inl ⟨by rfl, ?_⟩) (by assumption) ?_
            rotate_left
            · intro w hSw; (try dsimp only at hSw); go_simp; try with_reducible rfl
            try simp only [Act.put, List.getElem_toArray, List.getElem_cons_zero, List.getElem_cons_succ, List.setIfInBounds_toArray, List.set_cons_zero, List.set_cons_succ]
            refine wpAnyH_take (i := 1) (v := ?_) rfl (by kernel_rfl) (by kernel_rfl) (by kernel_rfl) (fun _ _ _ h => h) (Or.inl ⟨by rfl, ?_⟩) (by assumption) ?_
            rotate_left
            · intro w hSw; (try dsimp only at hSw); go_simp; try with_reducible rfl
            try simp only [Act.put, List.getElem_toArray, List.getElem_cons_zero, List.getElem_cons_succ, List.setIfInBounds_toArray, List.set_cons_zero, List.set_cons_succ]
            refine wpAnyH_take (i := 2) (v := ?_) rfl (by kernel_rfl) (by kernel_rfl) (by kernel_rfl) (fun _ _ _ h => h) (Or.inl ⟨by rfl, ?_⟩) (by assumption) ?_
            rotate_left
            · intro w _; go_simp; try with_reducible rfl
            try simp only [Act.put, List.getElem_toArray, List.getElem_cons_zero, List.getElem_cons_succ, List.setIfInBounds_toArray, List.set_cons_zero, List.set_cons_succ]
            refine wpAnyH_take (i := 3) (v := ?_) rfl (by kernel_rfl) (by kernel_rfl) (by kernel_rfl) (fun _ _ _ h => h) (Or.inl ⟨by rfl, ?_⟩) (by assumption) ?_
            rotate_left
            · intro w _; go_simp; try with_reducible rfl
            try simp only [Act.put, List.getElem_toArray, List.getElem_cons_zero, List.getElem_cons_succ, List.setIfInBounds_toArray, List.set_cons_zero, List.set_cons_succ]
            refine wpAnyH_take (i := 4) (v := ?_) rfl (by kernel_rfl) (by kernel_rfl) (by kernel_rfl) (fun _ _ _ h => h) (Or.inl ⟨by rfl, ?_⟩) (by assumption) ?_
            rotate_left
            · intro w _; go_simp; try with_reducible rfl
            try simp only [Act.put, List.getElem_toArray, List.getElem_cons_zero, List.getElem_cons_succ, List.setIfInBounds_toArray, List.set_cons_zero, List.set_cons_succ]
            refine wpAnyH_take (i := 5) (v := ?_) rfl (by kernel_rfl) (by kernel_rfl) (by kernel_rfl) (fun _ _ _ h => h) (Or.inl ⟨by rfl, ?_⟩) (by assumption) ?_
            rotate_left
            · intro w _; go_simp; try with_reducible rfl
            try simp only [Act.put, List.getElem_toArray, List.getElem_cons_zero, List.getElem_cons_succ, List.setIfInBounds_toArray, List.set_cons_zero, List.set_cons_succ]
            refine wpAnyH_take (i := 6) (v := ?_) rfl (by kernel_rfl) (by kernel_rfl) (by kernel_rfl) (fun _ _ _ h => h) (Or.inl ⟨by rfl, ?_⟩) (by assumption) ?_
            rotate_left
            · intro w hSw; (try dsimp only at hSw); go_simp; try with_reducible rfl
            try simp only [Act.put, List.getElem_toArray, List.getElem_cons_zero, List.getElem_cons_succ, List.setIfInBounds_toArray, List.set_cons_zero, List.set_cons_succ]
            refine wpAnyH_ready (rs := [7, 11]) (by kernel_rfl) (by simp) ?_
            refine AllReadyH.cons rfl (fun K hK => ?_) (AllReadyH.cons rfl (fun K hK => ?_) AllReadyH.nil)
            · go_simp
              refine (impl_MapLine g mo r.line mh mb mr mc _ HMO.out HX0.out).mono ?_
              rintro e y ⟨rfl, hy⟩
              refine hK.out _ _ (KEEP.out _ (bthenS2 hSx.2.2.2.2.2.2.2 hy)) (fun hSy => ?_)
              clear hSx hK K
              have hSx := hSy; clear hSy
              try simp only [Act.put, List.getElem_toArray, List.getElem_cons_zero, List.getElem_cons_succ, List.setIfInBounds_toArray, List.set_cons_zero, List.set_cons_succ]
              refine wpAnyH_take (i := 8) (v := ?_) rfl (by kernel_rfl) (by kernel_rfl) (by kernel_rfl) (fun _ _ _ h => h) (Or.inl ⟨by rfl, ?_⟩) (by assumption) ?_
              rotate_left
              · intro w hSw; (try dsimp only at hSw); go_simp; try with_reducible rfl
              try simp only [Act.put, List.getElem_toArray, List.getElem_cons_zero, List.getElem_cons_succ, List.setIfInBounds_toArray, List.set_cons_zero, List.set_cons_succ]
              refine wpAnyH_take (i := 9) (v := ?_) rfl (by kernel_rfl) (by kernel_rfl) (by kernel_rfl) (fun _ _ _ h => h) (Or.inl ⟨by rfl, ?_⟩) (by assumption) ?_
              rotate_left
              · intro w hSw; (try dsimp only at hSw); go_simp; try with_reducible rfl
              try simp only [Act.put, List.getElem_toArray, List.getElem_cons_zero, List.getElem_cons_succ, List.setIfInBounds_toArray, List.set_cons_zero, List.set_cons_succ]
              refine wpAnyH_take (i := 10) (v := ?_) rfl (by kernel_rfl) (by kernel_rfl) (by kernel_rfl) (fun _ _ _ h => h) (Or.inl ⟨by rfl, ?_⟩) (by assumption) ?_
              rotate_left
              · intro w hSw; (try dsimp only at hSw); go_simp; try with_reducible rfl
              try simp only [Act.put, List.getElem_toArray, List.getElem_cons_zero, List.getElem_cons_succ, List.setIfInBounds_toArray, List.set_cons_zero, List.set_cons_succ]
              refine wpAnyH_ready (rs := [11]) (by kernel_rfl) (by simp) ?_
              refine AllReadyH.cons rfl (fun K hK => ?_) AllReadyH.nil
              go_simp
              refine hK.out _ _ (KEEP.out _ ((bthenS2 (Below.refl _ _).drew hy).alloc (by have := hy.size; simpa using this) _)) (fun hSy => ?_)
              clear hSx hK K
              have hSx := hSy; clear hSy
              try simp only [Act.put, List.getElem_toArray, List.getElem_cons_zero, List.getElem_cons_succ, List.setIfInBounds_toArray, List.set_cons_zero, List.set_cons_succ]
              refine wpAnyH_ready (rs := [12]) (by kernel_rfl) (by simp) ?_
              refine AllReadyH.cons rfl (fun K hK => ?_) AllReadyH.nil
              go_simp
              refine hK.out _ _ (KEEP.out _ ((bthenS2 (Below.refl _ _).drew hy).alloc (by have := hy.size; simpa using this) _)) (fun hSy => ?_)
              clear hSx hK K
              have hSx := hSy; clear hSy
              try simp only [Act.put, List.getElem_toArray, List.getElem_cons_zero, List.getElem_cons_succ, List.setIfInBounds_toArray, List.set_cons_zero, List.set_cons_succ]
              refine wpAnyH_take (i := 13) (v := ?_) rfl (by kernel_rfl) (by kernel_rfl) (by kernel_rfl) (fun _ _ _ h => h) (Or.inl ⟨by rfl, ?_⟩) (by assumption) ?_
              rotate_left
              · intro w hSw; (try dsimp only at hSw); go_simp; try with_reducible rfl
              try simp only [Act.put, List.getElem_toArray, List.getElem_cons_zero, List.getElem_cons_succ, List.setIfInBounds_toArray, List.set_cons_zero, List.set_cons_succ]
              refine wpAnyH_done (by kernel_rfl) ?_ _
              go_wp2_with fail
              go_meet
              exact ⟨_, rfl, by have := hy.size; simpa using this, alloc_at _ _ _ rfl, (bthenS2 (Below.refl _ _).drew hy).alloc (by have := hy.size; simpa using this) _⟩
            · go_simp
              refine hK.out _ _ (KEEP.out _ ((Below.alloc (Below.refl _ _) (Nat.le_refl _) _).drew)) (fun hSy => ?_)
              clear hSx hK K
              have hSx := hSy; clear hSy
              try simp only [Act.put, List.getElem_toArray, List.getElem_cons_zero, List.getElem_cons_succ, List.setIfInBounds_toArray, List.set_cons_zero, List.set_cons_succ]
              refine wpAnyH_ready (rs := [7]) (by kernel_rfl) (by simp) ?_
              refine AllReadyH.cons rfl (fun K hK => ?_) AllReadyH.nil
              go_simp
              refine (impl_MapLine g mo r.line mh mb mr mc _ HMO.out HX0.out).mono ?_
              rintro e y ⟨rfl, hy⟩
              have hyb := bthenS2 hSx.2.2.2.2.2.2.2 hy
              have kn := (hy.block wr.heap.size (by simp)).trans (show (World.drew (wr.alloc (.cells #[.int .i64 0, .int .i64 0, .int .i64 0] 138))).heap[wr.heap.size]? = some (.cells #[.int .i64 0, .int .i64 0, .int .i64 0] 138 (0, 0)) from alloc_at _ _ _ rfl)
              refine hK.out _ _ (KEEP.out _ hyb) (fun hSy => ?_)
              clear hSx hK K
              have hSx := hSy; clear hSy
              try simp only [Act.put, List.getElem_toArray, List.getElem_cons_zero, List.getElem_cons_succ, List.setIfInBounds_toArray, List.set_cons_zero, List.set_cons_succ]
              refine wpAnyH_take (i := 8) (v := ?_) rfl (by kernel_rfl) (by kernel_rfl) (by kernel_rfl) (fun _ _ _ h => h) (Or.inl ⟨by rfl, ?_⟩) (by assumption) ?_
              rotate_left
              · intro w hSw; (try dsimp only at hSw); go_simp; try with_reducible rfl
              try simp only [Act.put, List.getElem_toArray, List.getElem_cons_zero, List.getElem_cons_succ, List.setIfInBounds_toArray, List.set_cons_zero, List.set_cons_succ]
              refine wpAnyH_take (i := 9) (v := ?_) rfl (by kernel_rfl) (by kernel_rfl) (by kernel_rfl) (fun _ _ _ h => h) (Or.inl ⟨by rfl, ?_⟩) (by assumption) ?_
              rotate_left
              · intro w hSw; (try dsimp only at hSw); go_simp; try with_reducible rfl
              try simp only [Act.put, List.getElem_toArray, List.getElem_cons_zero, List.getElem_cons_succ, List.setIfInBounds_toArray, List.set_cons_zero, List.set_cons_succ]
              refine wpAnyH_take (i := 10) (v := ?_) rfl (by kernel_rfl) (by kernel_rfl) (by kernel_rfl) (fun _ _ _ h => h) (Or.inl ⟨by rfl, ?_⟩) (by assumption) ?_
              rotate_left
              · intro w hSw; (try dsimp only at hSw); go_simp; try with_reducible rfl
              try simp only [Act.put, List.getElem_toArray, List.getElem_cons_zero, List.getElem_cons_succ, List.setIfInBounds_toArray, List.set_cons_zero, List.set_cons_succ]
              have z0 := cell_blk kn 0; have z1 := cell_blk kn 1; have z2 := cell_blk kn 2; have zf := fun o => free_blk kn o
              refine wpAnyH_ready (rs := [12]) (by kernel_rfl) (by simp) ?_
              refine AllReadyH.cons rfl (fun K hK => ?_) AllReadyH.nil
              go_simp
              have hyc := ((hyb.setCell (p := ⟨wr.heap.size, 0, none⟩) (Nat.le_refl _) (.int .i64 mb)).setCell (p := ⟨wr.heap.size, 1, none⟩) (Nat.le_refl _) (.int .i64 mr)).setCell (p := ⟨wr.heap.size, 2, none⟩) (Nat.le_refl _) (.int .i64 mc)
              have kns := set_lit (v := .int .i64 mc) (o := 2) (set_lit (v := .int .i64 mr) (o := 1) (set_lit (v := .int .i64 mb) (o := 0) kn rfl) rfl) rfl
              refine hK.out _ _ (KEEP.out _ hyc) (fun hSy => ?_)
              clear hSx hK K
              have hSx := hSy; clear hSy
              try simp only [Act.put, List.getElem_toArray, List.getElem_cons_zero, List.getElem_cons_succ, List.setIfInBounds_toArray, List.set_cons_zero, List.set_cons_succ]
              refine wpAnyH_take (i := 13) (v := ?_) rfl (by kernel_rfl) (by kernel_rfl) (by kernel_rfl) (fun _ _ _ h => h) (Or.inl ⟨by rfl, ?_⟩) (by assumption) ?_
              rotate_left
              · intro w hSw; (try dsimp only at hSw); go_simp; try with_reducible rfl
              try simp only [Act.put, List.getElem_toArray, List.getElem_cons_zero, List.getElem_cons_succ, List.setIfInBounds_toArray, List.set_cons_zero, List.set_cons_succ]
              refine wpAnyH_done (by kernel_rfl) ?_ _
              go_wp2_with fail
              go_meet
              exact ⟨_, rfl, Nat.le_refl _, kns, hyc⟩
          case rest =>
            obtain ⟨pa, rfl, hpa, hka, hXX⟩ := hcut
            obtain ⟨X1, rfl⟩ : ∃ V : World, V = wc := ⟨_, rfl⟩
            have lx := hXX.size
            have hBX1 := bthen HBr.out hXX lr
            have h1 := KB.out X1 hBX1
            have kt := h1.2.2.2.2.1
            have tat := tm_at t
            have t0 : X1.cell? ⟨w.heap.size + 1, 0, none⟩ = some (.int .i64 t.rcd) := (cell_blk kt 0).trans (by simp [tat])
            have t2 : X1.cell? ⟨w.heap.size + 1, 2, none⟩ = some (.int .i64 t.ras) := (cell_blk kt 2).trans (by simp [tat])
            have t8 : X1.cell? ⟨w.heap.size + 1, 8, none⟩ = some (.int .i64 t.rtp) := (cell_blk kt 8).trans (by simp [tat])
            have t9 : X1.cell? ⟨w.heap.size + 1, 9, none⟩ = some (.int .i64 t.wr) := (cell_blk kt 9).trans (by simp [tat])
            have rb : X1.cell? ⟨gb, ob + j, none⟩ = some (.int .i64 bb) := (hXX.cell (p := ⟨gb, ob + j, none⟩) hlg).trans HCB.out
            have rw3 : X1.cell? ⟨b1, o1 + m0 * 6 + 3, none⟩ = some (.bool r.write) := (hXX.cell (p := ⟨b1, o1 + m0 * 6 + 3, none⟩) lt_b1).trans r3
            have a0 : X1.cell? ⟨pa, 0, none⟩ = some (.int .i64 mb) := cell_blk hka 0
            have a1' : X1.cell? ⟨pa, 1, none⟩ = some (.int .i64 mr) := cell_blk hka 1
            have a2 : X1.cell? ⟨pa, 2, none⟩ = some (.int .i64 mc) := cell_blk hka 2
            have lpa := lt_blk hka
            have HRw := hide (hXX.size)
            have HWX := hide (HWj.out.below hXX (Nat.le_refl _))
            have HBX := hide (HBj.out.below hXX (Nat.le_refl _))
            have HOX := hide (own_below HOj.out hXX (fun q hq => (HOj.out.lt q hq).2))
            have HB1 := hide hBX1
            have hXr1 : X.heap.size ≤ X1.heap.size := by omega
            obtain ⟨⟨x0, y0⟩, _, ⟨x2, y2⟩, _, _, _, _, _, ⟨x8, y8⟩, ⟨x9, y9⟩, hrest⟩ := tmOk_bd HT.out
            clear hrest
            have hbw : IntKind.i64.wrap bb = bb := IntWalk.i64_in _ (by omega)
            have hw1 : IntKind.i64.wrap (bb + t.rcd) = bb + t.rcd := IntWalk.i64_in _ (by omega)
            have hw2 : IntKind.i64.wrap (t.rcd + t.rtp) = t.rcd + t.rtp := IntWalk.i64_in _ (by omega)
            have hw3 : IntKind.i64.wrap (t.rcd + t.wr) = t.rcd + t.wr := IntWalk.i64_in _ (by omega)
            have hw4 : IntKind.i64.wrap (bb + max t.ras (t.rcd + t.rtp)) = bb + max t.ras (t.rcd + t.rtp) := IntWalk.i64_in _ (by omega)
            have hw5 : IntKind.i64.wrap (bb + max t.ras (t.rcd + t.wr)) = bb + max t.ras (t.rcd + t.wr) := IntWalk.i64_in _ (by omega)
            have hmb : m ≤ 3003 := by omega
            have lgbx : gb < X1.heap.size := by omega
            have lb1x : b1 < X1.heap.size := by omega
            have lm1x : w.heap.size + 1 < X1.heap.size := by omega
            clear x0 y0 x2 y2 x8 y8 x9 y9 h1 kt tat hXX hBX1 HOj HWj HBj r0 r1 r2 r3 r4 r5 hka ht0 ht1
            obtain ⟨i0_Ev, hi_Ev, hz0_Ev, hz1_Ev, hz2_Ev⟩ := info_parts info_Ev
            cases hwr : r.write
            · rw [hwr] at rw3
              go_wp2_with fail
              go_quiet (fail)
              go_upto_region 22 with fail
              have hV : Below X1.heap.size X1 (X1.drewN nq) := bdrawn (Below.refl _ _) _
              have HOS := hide (show World.ownsRow (X1.drewN nq) W0.heap.size 100 5 (.slice ao m co) m ((trK ⟨g, t, mo, mh, zs, l, u⟩ rs N j).flatMap evF) from own_drawn HOX.out _)
              generalize (X1.drewN nq) = V at *
              replace t0 := ((bcell hV).1 _ _ lm1x).trans t0
              replace t2 := ((bcell hV).1 _ _ lm1x).trans t2
              replace a0 := ((bcell hV).1 _ _ lpa).trans a0
              replace a1' := ((bcell hV).1 _ _ lpa).trans a1'
              replace a2 := ((bcell hV).1 _ _ lpa).trans a2
              have sV := hV.size
              have l1v : w.heap.size + 1 < V.heap.size := by omega
              have lpv : pa < V.heap.size := by omega
              have hBV := bthen HB1.out hV HB1.out.size
              have HBV := hide (HBX.out.below hV (Nat.le_refl _))
              have HWV := hide (HWX.out.below hV (Nat.le_refl _))
              clear t8 t9 rb rw3 hV HOX HBX HWX
              have hv2 : W0.heap.size ≤ V.heap.size := by omega
              go_wp2_with (at_builtin; refine wpList_append_lies _ rfl _ _ 76 rfl W0.heap.size 100 i0_Ev (.agg #[.int .i64 0, .int .i64 0, .int .i64 0, .int .i64 0, .int .i64 0]) 5 40 Try.underlying76 hi_Ev hz0_Ev hz1_Ev hz2_Ev rfl (by decide) _ _ _ rfl (HOS.out.alloc _) ⟨V.heap.size, 0, none⟩ 3 3 [.int .i64 bb, .int .i64 1, .int .i64 mb, .int .i64 mr, .int .i64 0, .int .i64 (bb + t.rcd), .int .i64 2, .int .i64 mb, .int .i64 0, .int .i64 mc, .int .i64 (bb + max t.ras (t.rcd + t.rtp)), .int .i64 4, .int .i64 mb, .int .i64 0, .int .i64 0] rfl rfl ?c1q ?c2q (by decide) ?c3q ?c4q ?c5q (V.heap.size + 1) ?c6q ?_)
              (try case c1q => exact news_at_of _ _ _ (by go_size))
              (try case c2q => first | exact List.all_eq_true.1 rfl | rfl)
              (try case c3q => (unfold maxLen; omega))
              (try case c4q => omega)
              (try case c5q => (first | go_size | (simp; omega)))
              (try case c6q => simp)
              intro gq cq wq hownq hgq hatq hltq
              obtain ⟨hBq, hsq⟩ := below_app hBV HOS.out (by omega) (by omega) hgq
              have hne : some gb ≠ (Value.slice ao m co).ownBlock := fun e => by
                cases ao with
                | none => simp [Value.ownBlock] at e
                | some x => simp [Value.ownBlock] at e; have := HDj.out x rfl; omega
              have HBV2 := hide (((HBV.out.kept (row := none) (World.grownBy_alloc _ (.cells #[.int .i64 bb, .int .i64 1, .int .i64 mb, .int .i64 mr, .int .i64 0, .int .i64 (bb + t.rcd), .int .i64 2, .int .i64 mb, .int .i64 0, .int .i64 mc, .int .i64 (bb + max t.ras (t.rcd + t.rtp)), .int .i64 4, .int .i64 mb, .int .i64 0, .int .i64 0] 100) _) (fun x hx => by simp)).kept (row := (Value.slice ao m co).ownBlock) hgq (fun x hx => by injection hx with hx; rw [← hx]; exact hne)))
              have hnw : some gw ≠ (Value.slice ao m co).ownBlock := fun e => by
                cases ao with
                | none => simp [Value.ownBlock] at e
                | some x => simp [Value.ownBlock] at e; have := HDj.out x rfl; omega
              have HWV2 := hide (((HWV.out.kept (row := none) (World.grownBy_alloc _ (.cells #[.int .i64 bb, .int .i64 1, .int .i64 mb, .int .i64 mr, .int .i64 0, .int .i64 (bb + t.rcd), .int .i64 2, .int .i64 mb, .int .i64 0, .int .i64 mc, .int .i64 (bb + max t.ras (t.rcd + t.rtp)), .int .i64 4, .int .i64 mb, .int .i64 0, .int .i64 0] 100) _) (fun x hx => by simp)).kept (row := (Value.slice ao m co).ownBlock) hgq (fun x hx => by injection hx with hx; rw [← hx]; exact hnw)))
              have HDq := hide (fun (x : Addr) (hx : some (⟨gq, 0, none⟩ : Addr) = some x) => (show x.block < b1s ∨ X.heap.size ≤ x.block by
                injection hx with hx; rw [← hx]
                rcases hatq with h | h
                · cases ao with
                  | none => simp [Value.ownBlock] at h
                  | some y => simp [Value.ownBlock] at h; have := HDj.out y rfl; show gq < b1s ∨ X.heap.size ≤ gq; omega
                · show gq < b1s ∨ X.heap.size ≤ gq; omega))
              have HOq := hide hownq
              have HBQ := hide hBq
              clear hatq hltq hownq hgq HOS hne hnw t0 t2 a0 a1' a2 hBV
              go_wp2_with fail
              go_roundw
              case rel => exact ⟨j + 1, m + 3, _, _, by omega, by go_num, rfl, by omega, hide (by rw [HSK.out, List.length_append, Hm.out]; rfl), hide (by rw [HSK.out, List.flatMap_append, HX0.out, hwr]; exact HOq.out), HBQ.out, by omega, HWV2, HBV2, HDq⟩
              case measure => simp [intOf]; omega
            · rw [hwr] at rw3
              go_wp2_with fail
              go_quiet (fail)
              generalize nq = q1 at *
              go_wp2_with fail
              go_quiet (fail)
              go_upto_region 22 with fail
              have hV : Below X1.heap.size X1 ((X1.drewN q1).drewN nq) := bdrawn (bdrawn (Below.refl _ _) _) _
              have HOS := hide (show World.ownsRow ((X1.drewN q1).drewN nq) W0.heap.size 100 5 (.slice ao m co) m ((trK ⟨g, t, mo, mh, zs, l, u⟩ rs N j).flatMap evF) from own_drawn (own_drawn HOX.out _) _)
              generalize ((X1.drewN q1).drewN nq) = V at *
              replace t0 := ((bcell hV).1 _ _ lm1x).trans t0
              replace t2 := ((bcell hV).1 _ _ lm1x).trans t2
              replace a0 := ((bcell hV).1 _ _ lpa).trans a0
              replace a1' := ((bcell hV).1 _ _ lpa).trans a1'
              replace a2 := ((bcell hV).1 _ _ lpa).trans a2
              have sV := hV.size
              have l1v : w.heap.size + 1 < V.heap.size := by omega
              have lpv : pa < V.heap.size := by omega
              have hBV := bthen HB1.out hV HB1.out.size
              have HBV := hide (HBX.out.below hV (Nat.le_refl _))
              have HWV := hide (HWX.out.below hV (Nat.le_refl _))
              clear t8 t9 rb rw3 hV HOX HBX HWX
              have hv2 : W0.heap.size ≤ V.heap.size := by omega
              go_wp2_with (at_builtin; refine wpList_append_lies _ rfl _ _ 76 rfl W0.heap.size 100 i0_Ev (.agg #[.int .i64 0, .int .i64 0, .int .i64 0, .int .i64 0, .int .i64 0]) 5 40 Try.underlying76 hi_Ev hz0_Ev hz1_Ev hz2_Ev rfl (by decide) _ _ _ rfl (HOS.out.alloc _) ⟨V.heap.size, 0, none⟩ 3 3 [.int .i64 bb, .int .i64 1, .int .i64 mb, .int .i64 mr, .int .i64 0, .int .i64 (bb + t.rcd), .int .i64 3, .int .i64 mb, .int .i64 0, .int .i64 mc, .int .i64 (bb + max t.ras (t.rcd + t.wr)), .int .i64 4, .int .i64 mb, .int .i64 0, .int .i64 0] rfl rfl ?c1q ?c2q (by decide) ?c3q ?c4q ?c5q (V.heap.size + 1) ?c6q ?_)
              (try case c1q => exact news_at_of _ _ _ (by go_size))
              (try case c2q => first | exact List.all_eq_true.1 rfl | rfl)
              (try case c3q => (unfold maxLen; omega))
              (try case c4q => omega)
              (try case c5q => (first | go_size | (simp; omega)))
              (try case c6q => simp)
              intro gq cq wq hownq hgq hatq hltq
              obtain ⟨hBq, hsq⟩ := below_app hBV HOS.out (by omega) (by omega) hgq
              have hne : some gb ≠ (Value.slice ao m co).ownBlock := fun e => by
                cases ao with
                | none => simp [Value.ownBlock] at e
                | some x => simp [Value.ownBlock] at e; have := HDj.out x rfl; omega
              have HBV2 := hide (((HBV.out.kept (row := none) (World.grownBy_alloc _ (.cells #[.int .i64 bb, .int .i64 1, .int .i64 mb, .int .i64 mr, .int .i64 0, .int .i64 (bb + t.rcd), .int .i64 3, .int .i64 mb, .int .i64 0, .int .i64 mc, .int .i64 (bb + max t.ras (t.rcd + t.wr)), .int .i64 4, .int .i64 mb, .int .i64 0, .int .i64 0] 100) _) (fun x hx => by simp)).kept (row := (Value.slice ao m co).ownBlock) hgq (fun x hx => by injection hx with hx; rw [← hx]; exact hne)))
              have hnw : some gw ≠ (Value.slice ao m co).ownBlock := fun e => by
                cases ao with
                | none => simp [Value.ownBlock] at e
                | some x => simp [Value.ownBlock] at e; have := HDj.out x rfl; omega
              have HWV2 := hide (((HWV.out.kept (row := none) (World.grownBy_alloc _ (.cells #[.int .i64 bb, .int .i64 1, .int .i64 mb, .int .i64 mr, .int .i64 0, .int .i64 (bb + t.rcd), .int .i64 3, .int .i64 mb, .int .i64 0, .int .i64 mc, .int .i64 (bb + max t.ras (t.rcd + t.wr)), .int .i64 4, .int .i64 mb, .int .i64 0, .int .i64 0] 100) _) (fun x hx => by simp)).kept (row := (Value.slice ao m co).ownBlock) hgq (fun x hx => by injection hx with hx; rw [← hx]; exact hnw)))
              have HDq := hide (fun (x : Addr) (hx : some (⟨gq, 0, none⟩ : Addr) = some x) => (show x.block < b1s ∨ X.heap.size ≤ x.block by
                injection hx with hx; rw [← hx]
                rcases hatq with h | h
                · cases ao with
                  | none => simp [Value.ownBlock] at h
                  | some y => simp [Value.ownBlock] at h; have := HDj.out y rfl; show gq < b1s ∨ X.heap.size ≤ gq; omega
                · show gq < b1s ∨ X.heap.size ≤ gq; omega))
              have HOq := hide hownq
              have HBQ := hide hBq
              clear hatq hltq hownq hgq HOS hne hnw t0 t2 a0 a1' a2 hBV
              go_wp2_with fail
              go_roundw
              case rel => exact ⟨j + 1, m + 3, _, _, by omega, by go_num, rfl, by omega, hide (by rw [HSK.out, List.length_append, Hm.out]; rfl), hide (by rw [HSK.out, List.flatMap_append, HX0.out, hwr]; exact HOq.out), HBQ.out, by omega, HWV2, HBV2, HDq⟩
              case measure => simp [intOf]; omega
        · obtain rfl : j = K := by omega
          obtain rfl : NK = m := by
            have := Hm.out
            rw [trK_all HK.out] at this
            rw [← HKK.out, this]
          go_wp2_with fail
          refine bodyPost_ret (by simp [results, Try.results50, go_sem, *]; try rfl) rfl ?_
          exact ⟨_, _, by rw [HNO.out], by rw [HNL.out, ← trK_all HK.out]; exact own_base HOj.out (by have := HB0.out.size; omega), hBw⟩
end Go.Proofs.Ytahfbhfmhccgoaa
