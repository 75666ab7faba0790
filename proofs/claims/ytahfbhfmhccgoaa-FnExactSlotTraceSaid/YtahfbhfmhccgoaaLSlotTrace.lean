/- For all geometries, timings, mappings, slots, times and lists of requests the program's SlotTrace returns what the reference's returns, in memory of its own, and leaves its arguments as they were. No condition. -/
import Derived.Test.YtahfbhfmhccgoaaTraA
import Derived.Test.YtahfbhfmhccgoaaTraB
import Derived.Test.YtahfbhfmhccgoaaTraC
import Derived.Test.YtahfbhfmhccgoaaTraD
import Derived.Test.YtahfbhfmhccgoaaEvMark
import Derived.Test.YtahfbhfmhccgoaaSlotMark
import Derived.Test.YtahfbhfmhccgoaaAgg17
set_option linter.unusedSimpArgs false
set_option linter.unusedVariables false
namespace Go.Proofs.Ytahfbhfmhccgoaa
open Go.RowKit Go.ChangeShapes Go.WideShapes Go.ChangeAt Go.Joins Go.Deep
open Go.ChangeMaps (open_string shut_string)
theorem isRequestWs_of {H : Type} {enc : TypeId × Value → H} {w : World} {base : Nat} {held : Bool} {fuel : Nat} {cs : List Value} {x : DataW H × List MemPlace}
    (h : DataW.trod enc Try.prog w base (fun _ => true) held fuel 63 cs = some x) : ∃ a n c es, cs = [.slice a n c] ∧ (IsStructs rqF 6 w a n c es ∧ ∀ e ∈ es, (Lit.int .i64 e.id).wf = true) := by
  rcases open_slice_fields Try.underlying63 Try.underlying129 (by kernel_rfl) (by kernel_rfl) h with h0 | ⟨a, len, cap, hcs, hl, hm, hi⟩
  · exact ⟨none, 0, 0, [], h0, ⟨rfl, Nat.le_refl _, Nat.zero_le _, RowIn.nil _ _⟩, fun e he => by cases he⟩
  · obtain ⟨es, hlen, hes⟩ := exists_list (P := fun i (e : Rq) => (∀ j v, (rqF e)[j]? = some v → w.cell? (a.add (i * 6 + j)) = some v) ∧ (Lit.int .i64 e.id).wf = true) len (fun i hi' => by
      obtain ⟨n, hf⟩ := hi i hi'
      obtain ⟨v0, y0, c0, t0⟩ := hf 0 _ rfl
      obtain ⟨v1, y1, c1, t1⟩ := hf 1 _ rfl
      obtain ⟨v2, y2, c2, t2⟩ := hf 2 _ rfl
      obtain ⟨v3, y3, c3, t3⟩ := hf 3 _ rfl
      obtain ⟨v4, y4, c4, t4⟩ := hf 4 _ rfl
      obtain ⟨v5, y5, c5, t5⟩ := hf 5 _ rfl
      obtain ⟨z0, e0, _, w0⟩ := DataW.trod_int Try.underlying3 t0
      obtain ⟨z1, e1, _, _⟩ := DataW.trod_int Try.underlying3 t1
      obtain ⟨z2, e2, _, _⟩ := DataW.trod_int Try.underlying3 t2
      obtain ⟨z3, e3, _⟩ := DataW.trod_bool Try.underlying4 t3
      obtain ⟨z4, e4, _, _⟩ := DataW.trod_int Try.underlying3 t4
      obtain ⟨z5, e5, _, _⟩ := DataW.trod_int Try.underlying3 t5
      simp only [List.cons.injEq, and_true] at e0 e1 e2 e3 e4 e5
      subst e0 e1 e2 e3 e4 e5
      refine ⟨⟨z0, z1, z2, z3, z4, z5⟩, fun j v hv => ?_, w0⟩
      match j, hv with
      | 0, hv => simp [rqF] at hv; subst hv; exact c0
      | 1, hv => simp [rqF] at hv; subst hv; exact c1
      | 2, hv => simp [rqF] at hv; subst hv; exact c2
      | 3, hv => simp [rqF] at hv; subst hv; exact c3
      | 4, hv => simp [rqF] at hv; subst hv; exact c4
      | 5, hv => simp [rqF] at hv; subst hv; exact c5)
    refine ⟨some a, len, cap, es, hcs, ⟨hlen, hl, hm, rowIn_of fun i v hv => ?_⟩, fun e he => ?_⟩
    · obtain ⟨k, j, e, rfl, he, hj, _⟩ := flat_of rqF_len es i v hv
      exact (hes k e he).1 j v hj
    · obtain ⟨k, hk⟩ := List.getElem?_of_mem he
      exact (hes k e hk).2
theorem trOk_no {A : TrA} {rs : List Rq} (h : traceOk A rs.length = false) : trOk A rs = false ∧ trL A rs = [] := by
  have h1 : trOk A rs = false := by unfold trOk; rw [h]; rfl
  exact ⟨h1, by unfold trL; rw [h1]; rfl⟩
theorem trL_le (A : TrA) (rs : List Rq) : (trL A rs).length ≤ 3003 := by
  unfold trL
  split
  · next h =>
    unfold trOk at h
    simp only [Bool.and_eq_true] at h
    obtain ⟨_, _, _, h4, _, _⟩ := traceOk_bd h.1
    obtain ⟨h5, h6, h7, h8, h9⟩ := servable_bd h4
    have h10 := (nSlots_le (u := A.u) (l := A.l) (slotsOkB_bd h5).2.2.2.1 h6 h9).1
    rw [tr_len]
    have := which_le (rs := rs) (zs := A.zs) (l := A.l) (nSlots A.u A.l)
    omega
  · simp
theorem spec_SlotTrace_all (A : TrA) (a1 : Option Addr) (n1 c1 : Nat) (a : Option Addr) (n c : Nat) (rs : List Rq) (NK : Nat) (ok : Bool) (w : World) (hz : IsInts .i64 w a1 n1 c1 A.zs) (hs1 : n1 ≤ 1048576) (ha : IsStructs rqF 6 w a n c rs) (hK : (trL A rs).length = NK) (ho : trOk A rs = ok) :
    Calls Try.prog 52 #[.agg #[.int .i64 A.g.gr, .int .i64 A.g.bk, .int .i64 A.g.rw, .int .i64 A.g.cl], .agg (tmC A.t).toArray, .agg #[.int .i64 A.mo, .bool A.mh], .agg #[.slice a1 n1 c1, .int .i64 A.l], .int .i64 A.u, .slice a n c] w (GotTr w NK (trL A rs) ok) := by
  cases hno : traceOk A n
  · have h := trOk_no (A := A) (rs := rs) (by rw [ha.1]; exact hno)
    obtain rfl : 0 = NK := by rw [← hK, h.2]; rfl
    obtain rfl : false = ok := by rw [← ho, h.1]
    rw [h.2]
    exact spec_SlotTrace_no A.g A.t A.mo A.mh a1 n1 c1 A.zs A.l A.u a n c rs w hz hs1 ha hno
  · subst ho
    exact spec_SlotTrace_yes A.g A.t A.mo A.mh a1 n1 c1 A.zs A.l A.u a n c rs w hz hs1 ha NK hno hK
theorem impl_SlotTrace_all (A : TrA) (a1 : Option Addr) (n1 c1 : Nat) (a : Option Addr) (n c : Nat) (rs : List Rq) (NK : Nat) (ok : Bool) (w : World) (hid : ∀ r ∈ rs, (Lit.int .i64 r.id).wf = true) (hz : IsInts .i64 w a1 n1 c1 A.zs) (hs1 : n1 ≤ 1048576) (ha : IsStructs rqF 6 w a n c rs) (hK : (trL A rs).length = NK) (ho : trOk A rs = ok) :
    Calls Try.prog 50 #[.agg #[.int .i64 A.g.gr, .int .i64 A.g.bk, .int .i64 A.g.rw, .int .i64 A.g.cl], .agg (tmC A.t).toArray, .agg #[.int .i64 A.mo, .bool A.mh], .agg #[.slice a1 n1 c1, .int .i64 A.l], .int .i64 A.u, .slice a n c] w (GotTr w NK (trL A rs) ok) := by
  cases hno : traceOk A n
  · have h := trOk_no (A := A) (rs := rs) (by rw [ha.1]; exact hno)
    obtain rfl : 0 = NK := by rw [← hK, h.2]; rfl
    obtain rfl : false = ok := by rw [← ho, h.1]
    rw [h.2]
    exact impl_SlotTrace_no A.g A.t A.mo A.mh a1 n1 c1 A.zs A.l A.u a n c rs w hz hs1 ha hno
  · subst ho
    exact impl_SlotTrace_yes A.g A.t A.mo A.mh a1 n1 c1 A.zs A.l A.u a n c rs w hz hs1 ha NK hid hno hK
set_option maxRecDepth 100000 in
set_option maxHeartbeats 8000000 in
theorem FnExactSlotTrace_walk0 (g : Ge) (t : Tm) (mo : Int) (mh : Bool) (a1 : Option Addr) (n1 c1 : Nat) (zs : List Int) (l u : Int) (a : Option Addr) (n c : Nat) (es : List Rq) (w : World) (hz : IsInts .i64 w a1 n1 c1 zs) (ha' : IsStructs rqF 6 w a n c es ∧ ∀ e ∈ es, (Lit.int .i64 e.id).wf = true) :
    Calls Try.prog 11 #[.agg #[.int .i64 g.gr, .int .i64 g.bk, .int .i64 g.rw, .int .i64 g.cl], .agg (tmC t).toArray, .agg #[.int .i64 mo, .bool mh], .agg #[.slice a1 n1 c1, .int .i64 l], .int .i64 u, .slice a n c] w fun e w' => e = .returned (.bool true) ∧ Below w.heap.size w w' := by
  have HID := hide ha'.2
  have ha := ha'.1
  clear ha'
  have hm : c ≤ 9223372036854775807 := ha.2.2.1
  have hc := ha.2.1
  have hm1 : c1 ≤ 9223372036854775807 := hz.2.2.1
  have hc1 := hz.2.1
  have hw := hide hz.2.2.2.1
  by_cases hs1 : n1 ≤ 1048576
  · by_cases hs : n ≤ 1048576 - n1
    · obtain ⟨NK, hK'⟩ : ∃ K, (trL ⟨g, t, mo, mh, zs, l, u⟩ es).length = K := ⟨_, rfl⟩
      have hKn : NK ≤ 3003 := by rw [← hK']; exact trL_le _ _
      have HKL := hide hK'
      obtain ⟨ok, hok⟩ : ∃ k, trOk ⟨g, t, mo, mh, zs, l, u⟩ es = k := ⟨_, rfl⟩
      have hO := hide hok
      have HA := hide ha; have HZ := hide hz
      clear ha hz hK' hok
      have g9 : (0 : Int) ≤ 1048576 - (n1 : Int) := by omega
      have g8 : (0 : Int) ≤ 1048576 - (n1 : Int) - (n : Int) := by omega
      have g7 : (0 : Int) ≤ (NK : Int) := by omega
      have g6 : (0 : Int) ≤ (n : Int) := by omega
      have g5 : (0 : Int) ≤ (n1 : Int) := by omega
      go_enter Try.func11, Try.ntmps11
      go_wp2_with fail
      have kg0 : ((((w.alloc (.cells #[.int .i64 g.gr, .int .i64 g.bk, .int .i64 g.rw, .int .i64 g.cl] 81)).alloc (.cells (tmC t).toArray 82)).alloc (.cells #[.int .i64 mo, .bool mh] 83)).alloc (.cells #[.slice a1 n1 c1, .int .i64 l] 62)).heap[w.heap.size]? = some (.cells #[.int .i64 g.gr, .int .i64 g.bk, .int .i64 g.rw, .int .i64 g.cl] 81 (0, 0)) := by rw [alloc_lt _ _ _ (by simp only [World.size_alloc]; omega), alloc_lt _ _ _ (by simp only [World.size_alloc]; omega), alloc_lt _ _ _ (by simp only [World.size_alloc]; omega), alloc_at _ _ _ rfl]
      have kt0 : ((((w.alloc (.cells #[.int .i64 g.gr, .int .i64 g.bk, .int .i64 g.rw, .int .i64 g.cl] 81)).alloc (.cells (tmC t).toArray 82)).alloc (.cells #[.int .i64 mo, .bool mh] 83)).alloc (.cells #[.slice a1 n1 c1, .int .i64 l] 62)).heap[w.heap.size + 1]? = some (.cells (tmC t).toArray 82 (0, 0)) := by rw [alloc_lt _ _ _ (by simp only [World.size_alloc]; omega), alloc_lt _ _ _ (by simp only [World.size_alloc]; omega), alloc_at _ _ _ (by simp only [World.size_alloc])]
      have km0 : ((((w.alloc (.cells #[.int .i64 g.gr, .int .i64 g.bk, .int .i64 g.rw, .int .i64 g.cl] 81)).alloc (.cells (tmC t).toArray 82)).alloc (.cells #[.int .i64 mo, .bool mh] 83)).alloc (.cells #[.slice a1 n1 c1, .int .i64 l] 62)).heap[w.heap.size + 2]? = some (.cells #[.int .i64 mo, .bool mh] 83 (0, 0)) := by rw [alloc_lt _ _ _ (by simp only [World.size_alloc]; omega), alloc_at _ _ _ (by simp only [World.size_alloc])]
      have ks0 : ((((w.alloc (.cells #[.int .i64 g.gr, .int .i64 g.bk, .int .i64 g.rw, .int .i64 g.cl] 81)).alloc (.cells (tmC t).toArray 82)).alloc (.cells #[.int .i64 mo, .bool mh] 83)).alloc (.cells #[.slice a1 n1 c1, .int .i64 l] 62)).heap[w.heap.size + 3]? = some (.cells #[.slice a1 n1 c1, .int .i64 l] 62 (0, 0)) := alloc_at _ _ _ (by simp only [World.size_alloc])
      have hB0 : Below w.heap.size w ((((w.alloc (.cells #[.int .i64 g.gr, .int .i64 g.bk, .int .i64 g.rw, .int .i64 g.cl] 81)).alloc (.cells (tmC t).toArray 82)).alloc (.cells #[.int .i64 mo, .bool mh] 83)).alloc (.cells #[.slice a1 n1 c1, .int .i64 l] 62)) := (by repeat' (first | (with_reducible exact Below.refl _ _) | (with_reducible assumption) | (with_reducible refine bdrawn ?_ _) | (with_reducible refine Below.alloc ?_ ?_ _) | (with_reducible refine Below.drew ?_) | (with_reducible refine Below.setCell ?_ ?_ _) | go_size))
      simp only [show w.heap.size + 1 + 1 = w.heap.size + 2 from rfl, show w.heap.size + 1 + 1 + 1 = w.heap.size + 3 from rfl]
      generalize ((((w.alloc (.cells #[.int .i64 g.gr, .int .i64 g.bk, .int .i64 g.rw, .int .i64 g.cl] 81)).alloc (.cells (tmC t).toArray 82)).alloc (.cells #[.int .i64 mo, .bool mh] 83)).alloc (.cells #[.slice a1 n1 c1, .int .i64 l] 62)) = W0 at *
      have ls0 := lt_blk ks0
      have HB0 := hide hB0
      have HZ0 := hide (HZ.out.below hB0 (Nat.le_refl _))
      have HK0 := hide (And.intro kg0 (And.intro kt0 (And.intro km0 ks0)))
      have KB := hide (show ∀ v, Below W0.heap.size W0 v → v.cell? ⟨w.heap.size, 0, none⟩ = some (.int .i64 g.gr) ∧ v.cell? ⟨w.heap.size, 1, none⟩ = some (.int .i64 g.bk) ∧ v.cell? ⟨w.heap.size, 2, none⟩ = some (.int .i64 g.rw) ∧ v.cell? ⟨w.heap.size, 3, none⟩ = some (.int .i64 g.cl) ∧ v.heap[w.heap.size + 1]? = some (.cells (tmC t).toArray 82 (0, 0)) ∧ v.cell? ⟨w.heap.size + 2, 0, none⟩ = some (.int .i64 mo) ∧ v.cell? ⟨w.heap.size + 2, 1, none⟩ = some (.bool mh) ∧ v.cell? ⟨w.heap.size + 3, 0, none⟩ = some (.slice a1 n1 c1) ∧ v.cell? ⟨w.heap.size + 3, 1, none⟩ = some (.int .i64 l) ∧ Below W0.heap.size W0 v from fun v hb =>
        have h1 := (hb.block _ (lt_blk kg0)).trans kg0
        have h2 := (hb.block _ (lt_blk kt0)).trans kt0
        have h3 := (hb.block _ (lt_blk km0)).trans km0
        have h4 := (hb.block _ (lt_blk ks0)).trans ks0
        ⟨cell_blk h1 0, cell_blk h1 1, cell_blk h1 2, cell_blk h1 3, h2, cell_blk h3 0, cell_blk h3 1, cell_blk h4 0, cell_blk h4 1, hb⟩)
      clear hB0 kg0 kt0 km0 ks0
      refine (laws_szSlots a1 n1 c1 l 1048576 _ (by omega) (by omega) (by omega)).mono ?_
      rintro e w1 ⟨rfl, h1⟩
      have s1 : W0.heap.size ≤ w1.heap.size := h1.size
      have HB := hide h1
      clear h1
      go_wp2_with fail
      refine (laws_szRequestS a n c (1048576 - (n1 : Int)) _ (by omega) (by omega) (by omega)).mono ?_
      rintro e w2 ⟨rfl, h2⟩
      have s2 : w1.heap.size ≤ w2.heap.size := h2.size
      replace HB := hide (bthenS2 HB.out h2)
      have lb := HB.out.size
      clear h2
      go_wp2_with fail
      have KB2 := hide (show ∀ v, Below w2.heap.size w2 v → v.cell? ⟨w.heap.size, 0, none⟩ = some (.int .i64 g.gr) ∧ v.cell? ⟨w.heap.size, 1, none⟩ = some (.int .i64 g.bk) ∧ v.cell? ⟨w.heap.size, 2, none⟩ = some (.int .i64 g.rw) ∧ v.cell? ⟨w.heap.size, 3, none⟩ = some (.int .i64 g.cl) ∧ v.heap[w.heap.size + 1]? = some (.cells (tmC t).toArray 82 (0, 0)) ∧ v.cell? ⟨w.heap.size + 2, 0, none⟩ = some (.int .i64 mo) ∧ v.cell? ⟨w.heap.size + 2, 1, none⟩ = some (.bool mh) ∧ v.cell? ⟨w.heap.size + 3, 0, none⟩ = some (.slice a1 n1 c1) ∧ v.cell? ⟨w.heap.size + 3, 1, none⟩ = some (.int .i64 l) ∧ Below W0.heap.size W0 v ∧ Below w2.heap.size w2 v from fun v hb => by have h := KB.out v (bthenS2 HB.out hb); exact ⟨h.1, h.2.1, h.2.2.1, h.2.2.2.1, h.2.2.2.2.1, h.2.2.2.2.2.1, h.2.2.2.2.2.2.1, h.2.2.2.2.2.2.2.1, h.2.2.2.2.2.2.2.2.1, h.2.2.2.2.2.2.2.2.2, hb⟩)
      refine wp_region_held_drew (S := fun v => v.cell? ⟨w.heap.size, 0, none⟩ = some (.int .i64 g.gr) ∧ v.cell? ⟨w.heap.size, 1, none⟩ = some (.int .i64 g.bk) ∧ v.cell? ⟨w.heap.size, 2, none⟩ = some (.int .i64 g.rw) ∧ v.cell? ⟨w.heap.size, 3, none⟩ = some (.int .i64 g.cl) ∧ v.heap[w.heap.size + 1]? = some (.cells (tmC t).toArray 82 (0, 0)) ∧ v.cell? ⟨w.heap.size + 2, 0, none⟩ = some (.int .i64 mo) ∧ v.cell? ⟨w.heap.size + 2, 1, none⟩ = some (.bool mh) ∧ v.cell? ⟨w.heap.size + 3, 0, none⟩ = some (.slice a1 n1 c1) ∧ v.cell? ⟨w.heap.size + 3, 1, none⟩ = some (.int .i64 l) ∧ Below W0.heap.size W0 v ∧ Below w2.heap.size w2 v) (by kernel_rfl) (KB2.out _ (Below.refl _ _).drew) (fun hSx => ?_)
      refine wpAnyH_take (i := 0) (v := ?_) rfl (by kernel_rfl) (by kernel_rfl) (by kernel_rfl) (fun _ _ _ h => h) (Or.inl ⟨by rfl, ?_⟩) (by assumption) ?_
      rotate_left
      · intro w hSw; (try dsimp only at hSw); go_simp; try with_reducible rfl
      try simp only [Act.put, List.getElem_toArray, List.getElem_cons_zero, List.getElem_cons_succ, List.setIfInBounds_toArray, List.set_cons_zero, List.set_cons_succ]
      refine wpAnyH_take (i := 2) rfl (by kernel_rfl) (by kernel_rfl) (by kernel_rfl) (fun _ _ _ h => h) (yieldsIf_load_row (by rfl) 82 _ rfl (w.heap.size + 1) rfl 82 ((tmC t).toArray) (0, 0) _ (fun _ h => h.2.2.2.2.1) Try.underlying82 (tmC_info' t)) (by assumption) ?_
      try simp only [Act.put, List.getElem_toArray, List.getElem_cons_zero, List.getElem_cons_succ, List.setIfInBounds_toArray, List.set_cons_zero, List.set_cons_succ]
      refine wpAnyH_take (i := 4) (v := ?_) rfl (by kernel_rfl) (by kernel_rfl) (by kernel_rfl) (fun _ _ _ h => h) (Or.inl ⟨by rfl, ?_⟩) (by assumption) ?_
      rotate_left
      · intro w hSw; (try dsimp only at hSw); go_simp; try with_reducible rfl
      try simp only [Act.put, List.getElem_toArray, List.getElem_cons_zero, List.getElem_cons_succ, List.setIfInBounds_toArray, List.set_cons_zero, List.set_cons_succ]
      refine wpAnyH_take (i := 6) (v := ?_) rfl (by kernel_rfl) (by kernel_rfl) (by kernel_rfl) (fun _ _ _ h => h) (Or.inl ⟨by rfl, ?_⟩) (by assumption) ?_
      rotate_left
      · intro w hSw; (try dsimp only at hSw); go_simp; try with_reducible rfl
      try simp only [Act.put, List.getElem_toArray, List.getElem_cons_zero, List.getElem_cons_succ, List.setIfInBounds_toArray, List.set_cons_zero, List.set_cons_succ]
      refine wpAnyH_take (i := 8) (v := ?_) rfl (by kernel_rfl) (by kernel_rfl) (by kernel_rfl) (fun _ _ _ h => h) (Or.inl ⟨by rfl, ?_⟩) (by assumption) ?_
      rotate_left
      · intro w hSw; (try dsimp only at hSw); go_simp; try with_reducible rfl
      try simp only [Act.put, List.getElem_toArray, List.getElem_cons_zero, List.getElem_cons_succ, List.setIfInBounds_toArray, List.set_cons_zero, List.set_cons_succ]
      refine wpAnyH_take (i := 9) (v := ?_) rfl (by kernel_rfl) (by kernel_rfl) (by kernel_rfl) (fun _ _ _ h => h) (Or.inl ⟨by rfl, ?_⟩) (by assumption) ?_
      rotate_left
      · intro w hSw; (try dsimp only at hSw); go_simp; try with_reducible rfl
      try simp only [Act.put, List.getElem_toArray, List.getElem_cons_zero, List.getElem_cons_succ, List.setIfInBounds_toArray, List.set_cons_zero, List.set_cons_succ]
      refine wpAnyH_ready (rs := [1]) (by kernel_rfl) (by simp) ?_
      refine AllReadyH.cons rfl (fun K hK => ?_) AllReadyH.nil
      go_simp
      refine (laws_toGeometry g _).mono ?_
      rintro e y1 ⟨rfl, hy1⟩
      have sy1 : w2.heap.size ≤ y1.heap.size := hy1.size
      refine hK.out _ _ (KB2.out _ (bthenS2 hSx.2.2.2.2.2.2.2.2.2.2 hy1)) (fun hSy => ?_)
      clear hSx hK K
      have hSx := hSy; clear hSy
      try simp only [Act.put, List.getElem_toArray, List.getElem_cons_zero, List.getElem_cons_succ, List.setIfInBounds_toArray, List.set_cons_zero, List.set_cons_succ]
      refine wpAnyH_ready (rs := [3]) (by kernel_rfl) (by simp) ?_
      refine AllReadyH.cons rfl (fun K hK => ?_) AllReadyH.nil
      go_simp
      refine (laws_toTiming t _).mono ?_
      rintro e y2 ⟨rfl, hy2⟩
      have sy2 : y1.heap.size ≤ y2.heap.size := hy2.size
      refine hK.out _ _ (KB2.out _ (bthenS2 hSx.2.2.2.2.2.2.2.2.2.2 hy2)) (fun hSy => ?_)
      clear hSx hK K
      have hSx := hSy; clear hSy
      try simp only [Act.put, List.getElem_toArray, List.getElem_cons_zero, List.getElem_cons_succ, List.setIfInBounds_toArray, List.set_cons_zero, List.set_cons_succ]
      refine wpAnyH_ready (rs := [5]) (by kernel_rfl) (by simp) ?_
      refine AllReadyH.cons rfl (fun K hK => ?_) AllReadyH.nil
      go_simp
      refine (laws_toMapping mo mh _).mono ?_
      rintro e y3 ⟨rfl, hy3⟩
      have sy3 : y2.heap.size ≤ y3.heap.size := hy3.size
      refine hK.out _ _ (KB2.out _ (bthenS2 hSx.2.2.2.2.2.2.2.2.2.2 hy3)) (fun hSy => ?_)
      clear hSx hK K
      have hSx := hSy; clear hSy
      try simp only [Act.put, List.getElem_toArray, List.getElem_cons_zero, List.getElem_cons_succ, List.setIfInBounds_toArray, List.set_cons_zero, List.set_cons_succ]
      refine wpAnyH_ready (rs := [7]) (by kernel_rfl) (by simp) ?_
      refine AllReadyH.cons rfl (fun K hK => ?_) AllReadyH.nil
      go_simp
      refine (laws_toSlots a1 n1 c1 zs l _ (HZ.out.below (bthen HB0.out hSx.2.2.2.2.2.2.2.2.2.1 HB0.out.size) (Nat.le_refl _)) hs1).mono ?_
      rintro e y4 ⟨ap, cp, rfl, op, hy4⟩
      have sy4 : y3.heap.size ≤ y4.heap.size := hy4.size; have P := hide (isInts_own op hw.out)
      refine hK.out _ _ (KB2.out _ (bthenS2 hSx.2.2.2.2.2.2.2.2.2.2 hy4)) (fun hSy => ?_)
      clear hSx hK K
      have hSx := hSy; clear hSy
      try simp only [Act.put, List.getElem_toArray, List.getElem_cons_zero, List.getElem_cons_succ, List.setIfInBounds_toArray, List.set_cons_zero, List.set_cons_succ]
      refine wpAnyH_ready (rs := [10]) (by kernel_rfl) (by simp) ?_
      refine AllReadyH.cons rfl (fun K hK => ?_) AllReadyH.nil
      go_simp
      refine (laws_toRequestS a n c es _ (HA.out.below (bthen HB0.out hSx.2.2.2.2.2.2.2.2.2.1 HB0.out.size) (Nat.le_refl _)) (by omega)).mono ?_
      rintro e y5 ⟨aq, cq, rfl, oq, hy5⟩
      have sy5 : y4.heap.size ≤ y5.heap.size := hy5.size; replace P := hide (P.out.below hy5 (Nat.le_refl _)); have Q := hide (isStructs_own rqF_len (by omega) oq)
      refine hK.out _ _ (KB2.out _ (bthenS2 hSx.2.2.2.2.2.2.2.2.2.2 hy5)) (fun hSy => ?_)
      clear hSx hK K
      have hSx := hSy; clear hSy
      try simp only [Act.put, List.getElem_toArray, List.getElem_cons_zero, List.getElem_cons_succ, List.setIfInBounds_toArray, List.set_cons_zero, List.set_cons_succ]
      refine wpAnyH_ready (rs := [11]) (by kernel_rfl) (by simp) ?_
      refine AllReadyH.cons rfl (fun K hK => ?_) AllReadyH.nil
      go_simp
      refine (spec_SlotTrace_all (TrA.mk g t mo mh zs l u) ap n1 cp aq n cq es NK ok _ P.out hs1 Q.out HKL.out hO.out).mono ?_
      rintro e y6 ⟨ar, cr, rfl, ow, hy6⟩
      have sy6 : y5.heap.size ≤ y6.heap.size := hy6.size; have R := hide (Owned.of_own ow)
      refine hK.out _ _ (KB2.out _ (bthenS2 hSx.2.2.2.2.2.2.2.2.2.2 hy6)) (fun hSy => ?_)
      clear hSx hK K
      have hSx := hSy; clear hSy
      try simp only [Act.put, List.getElem_toArray, List.getElem_cons_zero, List.getElem_cons_succ, List.setIfInBounds_toArray, List.set_cons_zero, List.set_cons_succ]
      refine wpAnyH_take (i := 12) (v := ?_) rfl (by kernel_rfl) (by kernel_rfl) (by kernel_rfl) (fun _ _ _ h => h) (Or.inl ⟨by rfl, ?_⟩) (by assumption) ?_
      rotate_left
      · intro w hSw; (try dsimp only at hSw); go_simp; try with_reducible rfl
      try simp only [Act.put, List.getElem_toArray, List.getElem_cons_zero, List.getElem_cons_succ, List.setIfInBounds_toArray, List.set_cons_zero, List.set_cons_succ]
      refine wpAnyH_take (i := 13) (v := ?_) rfl (by kernel_rfl) (by kernel_rfl) (by kernel_rfl) (fun _ _ _ h => h) (Or.inl ⟨by rfl, ?_⟩) (by assumption) ?_
      rotate_left
      · intro w hSw; (try dsimp only at hSw); go_simp; try with_reducible rfl
      try simp only [Act.put, List.getElem_toArray, List.getElem_cons_zero, List.getElem_cons_succ, List.setIfInBounds_toArray, List.set_cons_zero, List.set_cons_succ]
      refine wpAnyH_take (i := 14) (v := ?_) rfl (by kernel_rfl) (by kernel_rfl) (by kernel_rfl) (fun _ _ _ h => h) (Or.inl ⟨by rfl, ?_⟩) (by assumption) ?_
      rotate_left
      · intro w hSw; (try dsimp only at hSw); go_simp; try with_reducible rfl
      try simp only [Act.put, List.getElem_toArray, List.getElem_cons_zero, List.getElem_cons_succ, List.setIfInBounds_toArray, List.set_cons_zero, List.set_cons_succ]
      refine wpAnyH_take (i := 15) (v := ?_) rfl (by kernel_rfl) (by kernel_rfl) (by kernel_rfl) (fun _ _ _ h => h) (Or.inl ⟨by rfl, ?_⟩) (by assumption) ?_
      rotate_left
      · intro w hSw; (try dsimp only at hSw); go_simp; try with_reducible rfl
      try simp only [Act.put, List.getElem_toArray, List.getElem_cons_zero, List.getElem_cons_succ, List.setIfInBounds_toArray, List.set_cons_zero, List.set_cons_succ]
      refine wpAnyH_take (i := 16) (v := ?_) rfl (by kernel_rfl) (by kernel_rfl) (by kernel_rfl) (fun _ _ _ h => h) (Or.inl ⟨by rfl, ?_⟩) (by assumption) ?_
      rotate_left
      · intro w hSw; (try dsimp only at hSw); go_simp; try with_reducible rfl
      try simp only [Act.put, List.getElem_toArray, List.getElem_cons_zero, List.getElem_cons_succ, List.setIfInBounds_toArray, List.set_cons_zero, List.set_cons_succ]
      refine wpAnyH_done (by kernel_rfl) ?_ _
      have hyy := hSx.2.2.2.2.2.2.2.2.2.2
      obtain ⟨Y, rfl⟩ : ∃ V : World, V = y6 := ⟨_, rfl⟩
      replace HB := hide (bthenS2 HB.out hyy)
      have lb := HB.out.size
      clear hSx KB2 hyy P Q ow op oq hy1 hy2 hy3 hy4 hy5 hy6
      have h0 := KB.out Y HB.out
      have e7 := h0.2.2.2.2.2.2.2.1; have e8 := h0.2.2.2.2.2.2.2.2.1
      clear h0
      go_wp2_with fail
      refine (laws_toSlots a1 n1 c1 zs l _ (HZ.out.below (bthen HB0.out HB.out HB0.out.size) (Nat.le_refl _)) hs1).mono ?_
      rintro e w7 ⟨ax, cx, rfl, o7, h7⟩
      have s7 : Y.heap.size ≤ w7.heap.size := h7.size
      replace R := hide (R.out.below h7 (by omega))
      replace HB := hide (bthenS2 HB.out h7)
      have lb := HB.out.size
      have X := hide (Owned.of_own o7)
      clear o7
      clear h7
      clear e7 e8
      go_wp2_with fail
      have hpx : (w7.alloc (.cells #[.slice ax n1 cx, .int .i64 l] 48)).heap[w7.heap.size]? = some (.cells #[.slice ax n1 cx, .int .i64 l] 48 (0, 0)) := alloc_at _ _ _ rfl
      have hAl : Below w7.heap.size w7 (w7.alloc (.cells #[.slice ax n1 cx, .int .i64 l] 48)) := Below.alloc (Below.refl _ _) (Nat.le_refl _) _
      have sv7 : w7.heap.size + 1 ≤ (w7.alloc (.cells #[.slice ax n1 cx, .int .i64 l] 48)).heap.size := by simp
      generalize (w7.alloc (.cells #[.slice ax n1 cx, .int .i64 l] 48)) = V7 at *
      replace R := hide (R.out.below hAl (by omega))
      replace X := hide (X.out.below hAl (by omega))
      replace HB := hide (bthenS2 HB.out hAl)
      have lb := HB.out.size
      have PX := hide hpx
      clear hpx hAl
      refine (laws_toRequestS a n c es _ (HA.out.below (bthen HB0.out HB.out HB0.out.size) (Nat.le_refl _)) (by omega)).mono ?_
      rintro e w8 ⟨ay, cy, rfl, o8, h8⟩
      have s8 : V7.heap.size ≤ w8.heap.size := h8.size
      replace R := hide (R.out.below h8 (by omega))
      replace X := hide (X.out.below h8 (by omega))
      replace PX := hide ((h8.block _ (lt_blk PX.out)).trans PX.out)
      replace HB := hide (bthenS2 HB.out h8)
      have lb := HB.out.size
      have Y2 := hide (Owned.of_own o8)
      clear o8 h8
      go_wp2_with fail
      have KX := hide (show ∀ v, Below w8.heap.size w8 v → v.cell? ⟨w.heap.size, 0, none⟩ = some (.int .i64 g.gr) ∧ v.cell? ⟨w.heap.size, 1, none⟩ = some (.int .i64 g.bk) ∧ v.cell? ⟨w.heap.size, 2, none⟩ = some (.int .i64 g.rw) ∧ v.cell? ⟨w.heap.size, 3, none⟩ = some (.int .i64 g.cl) ∧ v.heap[w.heap.size + 1]? = some (.cells (tmC t).toArray 82 (0, 0)) ∧ v.cell? ⟨w.heap.size + 2, 0, none⟩ = some (.int .i64 mo) ∧ v.cell? ⟨w.heap.size + 2, 1, none⟩ = some (.bool mh) ∧ v.cell? ⟨w.heap.size + 3, 0, none⟩ = some (.slice a1 n1 c1) ∧ v.cell? ⟨w.heap.size + 3, 1, none⟩ = some (.int .i64 l) ∧ v.cell? ⟨w7.heap.size, 0, none⟩ = some (.slice ax n1 cx) ∧ v.cell? ⟨w7.heap.size, 1, none⟩ = some (.int .i64 l) ∧ Below w8.heap.size w8 v from fun v hb => by have h := KB.out v (bthenS2 HB.out hb); have hx := (hb.block _ (lt_blk PX.out)).trans PX.out; exact ⟨h.1, h.2.1, h.2.2.1, h.2.2.2.1, h.2.2.2.2.1, h.2.2.2.2.2.1, h.2.2.2.2.2.2.1, h.2.2.2.2.2.2.2.1, h.2.2.2.2.2.2.2.2.1, cell_blk hx 0, cell_blk hx 1, hb⟩)
      refine wp_region_held_drew (S := fun v => v.cell? ⟨w.heap.size, 0, none⟩ = some (.int .i64 g.gr) ∧ v.cell? ⟨w.heap.size, 1, none⟩ = some (.int .i64 g.bk) ∧ v.cell? ⟨w.heap.size, 2, none⟩ = some (.int .i64 g.rw) ∧ v.cell? ⟨w.heap.size, 3, none⟩ = some (.int .i64 g.cl) ∧ v.heap[w.heap.size + 1]? = some (.cells (tmC t).toArray 82 (0, 0)) ∧ v.cell? ⟨w.heap.size + 2, 0, none⟩ = some (.int .i64 mo) ∧ v.cell? ⟨w.heap.size + 2, 1, none⟩ = some (.bool mh) ∧ v.cell? ⟨w.heap.size + 3, 0, none⟩ = some (.slice a1 n1 c1) ∧ v.cell? ⟨w.heap.size + 3, 1, none⟩ = some (.int .i64 l) ∧ v.cell? ⟨w7.heap.size, 0, none⟩ = some (.slice ax n1 cx) ∧ v.cell? ⟨w7.heap.size, 1, none⟩ = some (.int .i64 l) ∧ Below w8.heap.size w8 v) (by kernel_rfl) (KX.out _ (Below.refl _ _).drew) (fun hSx => ?_)
      refine wpAnyH_take (i := 0) (v := ?_) rfl (by kernel_rfl) (by kernel_rfl) (by kernel_rfl) (fun _ _ _ h => h) (Or.inl ⟨by rfl, ?_⟩) (by assumption) ?_
      rotate_left
      · intro w hSw; (try dsimp only at hSw); go_simp; try with_reducible rfl
      try simp only [Act.put, List.getElem_toArray, List.getElem_cons_zero, List.getElem_cons_succ, List.setIfInBounds_toArray, List.set_cons_zero, List.set_cons_succ]
      refine wpAnyH_take (i := 2) rfl (by kernel_rfl) (by kernel_rfl) (by kernel_rfl) (fun _ _ _ h => h) (yieldsIf_load_row (by rfl) 82 _ rfl (w.heap.size + 1) rfl 82 ((tmC t).toArray) (0, 0) _ (fun _ h => h.2.2.2.2.1) Try.underlying82 (tmC_info' t)) (by assumption) ?_
      try simp only [Act.put, List.getElem_toArray, List.getElem_cons_zero, List.getElem_cons_succ, List.setIfInBounds_toArray, List.set_cons_zero, List.set_cons_succ]
      refine wpAnyH_take (i := 4) (v := ?_) rfl (by kernel_rfl) (by kernel_rfl) (by kernel_rfl) (fun _ _ _ h => h) (Or.inl ⟨by rfl, ?_⟩) (by assumption) ?_
      rotate_left
      · intro w hSw; (try dsimp only at hSw); go_simp; try with_reducible rfl
      try simp only [Act.put, List.getElem_toArray, List.getElem_cons_zero, List.getElem_cons_succ, List.setIfInBounds_toArray, List.set_cons_zero, List.set_cons_succ]
      refine wpAnyH_take (i := 6) (v := ?_) rfl (by kernel_rfl) (by kernel_rfl) (by kernel_rfl) (fun _ _ _ h => h) (Or.inl ⟨by rfl, ?_⟩) (by assumption) ?_
      rotate_left
      · intro w hSw; (try dsimp only at hSw); go_simp; try with_reducible rfl
      try simp only [Act.put, List.getElem_toArray, List.getElem_cons_zero, List.getElem_cons_succ, List.setIfInBounds_toArray, List.set_cons_zero, List.set_cons_succ]
      refine wpAnyH_take (i := 7) (v := ?_) rfl (by kernel_rfl) (by kernel_rfl) (by kernel_rfl) (fun _ _ _ h => h) (Or.inl ⟨by rfl, ?_⟩) (by assumption) ?_
      rotate_left
      · intro w hSw; (try dsimp only at hSw); go_simp; try with_reducible rfl
      try simp only [Act.put, List.getElem_toArray, List.getElem_cons_zero, List.getElem_cons_succ, List.setIfInBounds_toArray, List.set_cons_zero, List.set_cons_succ]
      refine wpAnyH_take (i := 8) (v := ?_) rfl (by kernel_rfl) (by kernel_rfl) (by kernel_rfl) (fun _ _ _ h => h) (Or.inl ⟨by rfl, ?_⟩) (by assumption) ?_
      rotate_left
      · intro w hSw; (try dsimp only at hSw); go_simp; try with_reducible rfl
      try simp only [Act.put, List.getElem_toArray, List.getElem_cons_zero, List.getElem_cons_succ, List.setIfInBounds_toArray, List.set_cons_zero, List.set_cons_succ]
      refine wpAnyH_ready (rs := [1]) (by kernel_rfl) (by simp) ?_
      refine AllReadyH.cons rfl (fun K hK => ?_) AllReadyH.nil
      go_simp
      refine (laws_toGeometry g _).mono ?_
      rintro e y1 ⟨rfl, hy1⟩
      have sy1 : w8.heap.size ≤ y1.heap.size := hy1.size
      refine hK.out _ _ (KX.out _ (bthenS2 hSx.2.2.2.2.2.2.2.2.2.2.2 hy1)) (fun hSy => ?_)
      clear hSx hK K
      have hSx := hSy; clear hSy
      try simp only [Act.put, List.getElem_toArray, List.getElem_cons_zero, List.getElem_cons_succ, List.setIfInBounds_toArray, List.set_cons_zero, List.set_cons_succ]
      refine wpAnyH_ready (rs := [3]) (by kernel_rfl) (by simp) ?_
      refine AllReadyH.cons rfl (fun K hK => ?_) AllReadyH.nil
      go_simp
      refine (laws_toTiming t _).mono ?_
      rintro e y2 ⟨rfl, hy2⟩
      have sy2 : y1.heap.size ≤ y2.heap.size := hy2.size
      refine hK.out _ _ (KX.out _ (bthenS2 hSx.2.2.2.2.2.2.2.2.2.2.2 hy2)) (fun hSy => ?_)
      clear hSx hK K
      have hSx := hSy; clear hSy
      try simp only [Act.put, List.getElem_toArray, List.getElem_cons_zero, List.getElem_cons_succ, List.setIfInBounds_toArray, List.set_cons_zero, List.set_cons_succ]
      refine wpAnyH_ready (rs := [5]) (by kernel_rfl) (by simp) ?_
      refine AllReadyH.cons rfl (fun K hK => ?_) AllReadyH.nil
      go_simp
      refine (laws_toMapping mo mh _).mono ?_
      rintro e y3 ⟨rfl, hy3⟩
      have sy3 : y2.heap.size ≤ y3.heap.size := hy3.size
      refine hK.out _ _ (KX.out _ (bthenS2 hSx.2.2.2.2.2.2.2.2.2.2.2 hy3)) (fun hSy => ?_)
      clear hSx hK K
      have hSx := hSy; clear hSy
      try simp only [Act.put, List.getElem_toArray, List.getElem_cons_zero, List.getElem_cons_succ, List.setIfInBounds_toArray, List.set_cons_zero, List.set_cons_succ]
      refine wpAnyH_ready (rs := [9]) (by kernel_rfl) (by simp) ?_
      refine AllReadyH.cons rfl (fun K hK => ?_) AllReadyH.nil
      go_simp
      refine (impl_SlotTrace_all (TrA.mk g t mo mh zs l u) ax n1 cx ay n cy es NK ok _ HID.out ((isInts_own X.out.1 hw.out).below hSx.2.2.2.2.2.2.2.2.2.2.2 (Nat.le_refl _)) hs1 ((isStructs_own rqF_len (by omega) Y2.out.1).below hSx.2.2.2.2.2.2.2.2.2.2.2 (Nat.le_refl _)) HKL.out hO.out).mono ?_
      rintro e y4 ⟨ag, cg, rfl, ow, hy4⟩
      have sy4 : y3.heap.size ≤ y4.heap.size := hy4.size; have G := hide (Owned.of_own ow)
      refine hK.out _ _ (KX.out _ (bthenS2 hSx.2.2.2.2.2.2.2.2.2.2.2 hy4)) (fun hSy => ?_)
      clear hSx hK K
      have hSx := hSy; clear hSy
      try simp only [Act.put, List.getElem_toArray, List.getElem_cons_zero, List.getElem_cons_succ, List.setIfInBounds_toArray, List.set_cons_zero, List.set_cons_succ]
      refine wpAnyH_take (i := 10) (v := ?_) rfl (by kernel_rfl) (by kernel_rfl) (by kernel_rfl) (fun _ _ _ h => h) (Or.inl ⟨by rfl, ?_⟩) (by assumption) ?_
      rotate_left
      · intro w hSw; (try dsimp only at hSw); go_simp; try with_reducible rfl
      try simp only [Act.put, List.getElem_toArray, List.getElem_cons_zero, List.getElem_cons_succ, List.setIfInBounds_toArray, List.set_cons_zero, List.set_cons_succ]
      refine wpAnyH_take (i := 11) (v := ?_) rfl (by kernel_rfl) (by kernel_rfl) (by kernel_rfl) (fun _ _ _ h => h) (Or.inl ⟨by rfl, ?_⟩) (by assumption) ?_
      rotate_left
      · intro w hSw; (try dsimp only at hSw); go_simp; try with_reducible rfl
      try simp only [Act.put, List.getElem_toArray, List.getElem_cons_zero, List.getElem_cons_succ, List.setIfInBounds_toArray, List.set_cons_zero, List.set_cons_succ]
      refine wpAnyH_take (i := 12) (v := ?_) rfl (by kernel_rfl) (by kernel_rfl) (by kernel_rfl) (fun _ _ _ h => h) (Or.inl ⟨by rfl, ?_⟩) (by assumption) ?_
      rotate_left
      · intro w hSw; (try dsimp only at hSw); go_simp; try with_reducible rfl
      try simp only [Act.put, List.getElem_toArray, List.getElem_cons_zero, List.getElem_cons_succ, List.setIfInBounds_toArray, List.set_cons_zero, List.set_cons_succ]
      refine wpAnyH_take (i := 13) (v := ?_) rfl (by kernel_rfl) (by kernel_rfl) (by kernel_rfl) (fun _ _ _ h => h) (Or.inl ⟨by rfl, ?_⟩) (by assumption) ?_
      rotate_left
      · intro w hSw; (try dsimp only at hSw); go_simp; try with_reducible rfl
      try simp only [Act.put, List.getElem_toArray, List.getElem_cons_zero, List.getElem_cons_succ, List.setIfInBounds_toArray, List.set_cons_zero, List.set_cons_succ]
      refine wpAnyH_take (i := 14) (v := ?_) rfl (by kernel_rfl) (by kernel_rfl) (by kernel_rfl) (fun _ _ _ h => h) (Or.inl ⟨by rfl, ?_⟩) (by assumption) ?_
      rotate_left
      · intro w hSw; (try dsimp only at hSw); go_simp; try with_reducible rfl
      try simp only [Act.put, List.getElem_toArray, List.getElem_cons_zero, List.getElem_cons_succ, List.setIfInBounds_toArray, List.set_cons_zero, List.set_cons_succ]
      refine wpAnyH_done (by kernel_rfl) ?_ _
      have hyy := hSx.2.2.2.2.2.2.2.2.2.2.2
      obtain ⟨Z, rfl⟩ : ∃ V : World, V = y4 := ⟨_, rfl⟩
      replace R := hide (R.out.below hyy (by omega))
      replace X := hide (X.out.below hyy (by omega))
      replace Y2 := hide (Y2.out.below hyy (by omega))
      replace PX := hide ((hyy.block _ (lt_blk PX.out)).trans PX.out)
      replace HB := hide (bthenS2 HB.out hyy)
      have lb := HB.out.size
      clear hSx KX hyy ow hy1 hy2 hy3 hy4
      go_wp2_with fail
      refine (laws_eqEventS _ _ _ _ _ _ _ (isStructs_own evF_len (by omega) G.out.1) (isStructs_own evF_len (by omega) R.out.1)).mono ?_
      rintro e w9 ⟨rfl, h9⟩
      have s9 : Z.heap.size ≤ w9.heap.size := h9.size
      replace R := hide (R.out.below h9 (by omega))
      replace X := hide (X.out.below h9 (by omega))
      replace Y2 := hide (Y2.out.below h9 (by omega))
      replace G := hide (G.out.below h9 (by omega))
      replace PX := hide ((h9.block _ (lt_blk PX.out)).trans PX.out)
      replace HB := hide (bthenS2 HB.out h9)
      have lb := HB.out.size
      clear h9
      go_wp2_with fail
      have KX := hide (show ∀ v, Below w9.heap.size w9 v → v.cell? ⟨w.heap.size + 3, 0, none⟩ = some (.slice a1 n1 c1) ∧ v.cell? ⟨w.heap.size + 3, 1, none⟩ = some (.int .i64 l) ∧ v.cell? ⟨w7.heap.size, 0, none⟩ = some (.slice ax n1 cx) ∧ v.cell? ⟨w7.heap.size, 1, none⟩ = some (.int .i64 l) ∧ Below w9.heap.size w9 v from fun v hb => by have h := KB.out v (bthenS2 HB.out hb); have hx := (hb.block _ (lt_blk PX.out)).trans PX.out; exact ⟨h.2.2.2.2.2.2.2.1, h.2.2.2.2.2.2.2.2.1, cell_blk hx 0, cell_blk hx 1, hb⟩)
      refine wp_region_held_drew (S := fun v => v.cell? ⟨w.heap.size + 3, 0, none⟩ = some (.slice a1 n1 c1) ∧ v.cell? ⟨w.heap.size + 3, 1, none⟩ = some (.int .i64 l) ∧ v.cell? ⟨w7.heap.size, 0, none⟩ = some (.slice ax n1 cx) ∧ v.cell? ⟨w7.heap.size, 1, none⟩ = some (.int .i64 l) ∧ Below w9.heap.size w9 v) (by kernel_rfl) (KX.out _ (Below.refl _ _).drew) (fun hSx => ?_)
      refine wpAnyH_take (i := 0) (v := ?_) rfl (by kernel_rfl) (by kernel_rfl) (by kernel_rfl) (fun _ _ _ h => h) (Or.inl ⟨by rfl, ?_⟩) (by assumption) ?_
      rotate_left
      · intro w hSw; (try dsimp only at hSw); go_simp; try with_reducible rfl
      try simp only [Act.put, List.getElem_toArray, List.getElem_cons_zero, List.getElem_cons_succ, List.setIfInBounds_toArray, List.set_cons_zero, List.set_cons_succ]
      refine wpAnyH_take (i := 1) (v := ?_) rfl (by kernel_rfl) (by kernel_rfl) (by kernel_rfl) (fun _ _ _ h => h) (Or.inl ⟨by rfl, ?_⟩) (by assumption) ?_
      rotate_left
      · intro w hSw; (try dsimp only at hSw); go_simp; try with_reducible rfl
      try simp only [Act.put, List.getElem_toArray, List.getElem_cons_zero, List.getElem_cons_succ, List.setIfInBounds_toArray, List.set_cons_zero, List.set_cons_succ]
      refine wpAnyH_ready (rs := [2]) (by kernel_rfl) (by simp) ?_
      refine AllReadyH.cons rfl (fun K hK => ?_) AllReadyH.nil
      go_simp
      refine (laws_toSlots a1 n1 c1 zs l _ (HZ.out.below (bthen HB0.out (bthenS2 HB.out hSx.2.2.2.2) HB0.out.size) (Nat.le_refl _)) hs1).mono ?_
      rintro e y1 ⟨ap, cp, rfl, op, hy1⟩
      have sy1 : w9.heap.size ≤ y1.heap.size := hy1.size
      refine hK.out _ _ (KX.out _ (bthenS2 hSx.2.2.2.2 hy1)) (fun hSy => ?_)
      clear hSx hK K
      have hSx := hSy; clear hSy
      try simp only [Act.put, List.getElem_toArray, List.getElem_cons_zero, List.getElem_cons_succ, List.setIfInBounds_toArray, List.set_cons_zero, List.set_cons_succ]
      refine wpAnyH_ready (rs := [3]) (by kernel_rfl) (by simp) ?_
      refine AllReadyH.cons rfl (fun K hK => ?_) AllReadyH.nil
      go_simp
      refine (laws_eqSlots ax ap n1 cx cp zs l _ ((isInts_own X.out.1 hw.out).below hSx.2.2.2.2 (Nat.le_refl _)) (isInts_own op hw.out)).mono ?_
      rintro e y2 ⟨rfl, hy2⟩
      have sy2 : y1.heap.size ≤ y2.heap.size := hy2.size
      refine hK.out _ _ (KX.out _ (bthenS2 hSx.2.2.2.2 hy2)) (fun hSy => ?_)
      clear hSx hK K
      have hSx := hSy; clear hSy
      try simp only [Act.put, List.getElem_toArray, List.getElem_cons_zero, List.getElem_cons_succ, List.setIfInBounds_toArray, List.set_cons_zero, List.set_cons_succ]
      refine wpAnyH_take (i := 4) (v := ?_) rfl (by kernel_rfl) (by kernel_rfl) (by kernel_rfl) (fun _ _ _ h => h) (Or.inl ⟨by rfl, ?_⟩) (by assumption) ?_
      rotate_left
      · intro w hSw; (try dsimp only at hSw); go_simp; try with_reducible rfl
      try simp only [Act.put, List.getElem_toArray, List.getElem_cons_zero, List.getElem_cons_succ, List.setIfInBounds_toArray, List.set_cons_zero, List.set_cons_succ]
      refine wpAnyH_done (by kernel_rfl) ?_ _
      have hyy := hSx.2.2.2.2
      obtain ⟨V, rfl⟩ : ∃ V : World, V = y2 := ⟨_, rfl⟩
      replace R := hide (R.out.below hyy (by omega))
      replace X := hide (X.out.below hyy (by omega))
      replace Y2 := hide (Y2.out.below hyy (by omega))
      replace G := hide (G.out.below hyy (by omega))
      replace PX := hide ((hyy.block _ (lt_blk PX.out)).trans PX.out)
      replace HB := hide (bthenS2 HB.out hyy)
      have lb := HB.out.size
      clear hSx KX hyy op hy1 hy2
      go_wp2_with fail
      refine (laws_toRequestS a n c es _ (HA.out.below (bthen HB0.out HB.out HB0.out.size) (Nat.le_refl _)) (by omega)).mono ?_
      rintro e w10 ⟨a10, c10, rfl, o10, h10⟩
      have s10 : V.heap.size ≤ w10.heap.size := h10.size
      replace R := hide (R.out.below h10 (by omega))
      replace X := hide (X.out.below h10 (by omega))
      replace Y2 := hide (Y2.out.below h10 (by omega))
      replace G := hide (G.out.below h10 (by omega))
      replace PX := hide ((h10.block _ (lt_blk PX.out)).trans PX.out)
      replace HB := hide (bthenS2 HB.out h10)
      have lb := HB.out.size
      have Q2 := hide (Owned.of_own o10)
      clear o10
      clear h10
      go_wp2_with fail
      refine (laws_eqRequestS _ _ _ _ _ _ _ (isStructs_own rqF_len (by omega) Y2.out.1) (isStructs_own rqF_len (by omega) Q2.out.1)).mono ?_
      rintro e w11 ⟨rfl, h11⟩
      have s11 : w10.heap.size ≤ w11.heap.size := h11.size
      replace R := hide (R.out.below h11 (by omega))
      replace X := hide (X.out.below h11 (by omega))
      replace Y2 := hide (Y2.out.below h11 (by omega))
      replace G := hide (G.out.below h11 (by omega))
      replace Q2 := hide (Q2.out.below h11 (by omega))
      replace PX := hide ((h11.block _ (lt_blk PX.out)).trans PX.out)
      replace HB := hide (bthenS2 HB.out h11)
      have lb := HB.out.size
      clear h11
      clear Q2
      have x0 := cell_blk PX.out 0; have x1 := cell_blk PX.out 1
      go_wp2_with fail
      refine (laws_markSlots _ _ _ _ _ _ _ _ _ (by omega) hs1 (by omega) X.out).mono ?_
      rintro e w12 ⟨rfl, o12, v12⟩
      have h12 := Save.below v12 (by omega)
      have s12 : w11.heap.size ≤ w12.heap.size := h12.size
      replace R := hide (R.out.save v12 (by omega))
      replace Y2 := hide (Y2.out.save v12 (by omega))
      replace G := hide (G.out.save v12 (by omega))
      clear X o12
      replace HB := hide (bthen HB.out h12 (by omega))
      have lb := HB.out.size
      clear h12 v12
      clear PX x0 x1
      go_wp2_with fail
      refine (laws_markRequestS _ _ _ _ _ _ _ _ (by omega) (by omega) Y2.out).mono ?_
      rintro e w13 ⟨rfl, o13, v13⟩
      have h13 := Save.below v13 (by omega)
      have s13 : w12.heap.size ≤ w13.heap.size := h13.size
      replace R := hide (R.out.save v13 (by omega))
      replace G := hide (G.out.save v13 (by omega))
      clear Y2 o13
      replace HB := hide (bthen HB.out h13 (by omega))
      have lb := HB.out.size
      clear h13 v13
      go_wp2_with fail
      refine (laws_eqEventS _ _ _ _ _ _ _ (isStructs_own evF_len (by omega) G.out.1) (isStructs_own evF_len (by omega) R.out.1)).mono ?_
      rintro e w14 ⟨rfl, h14⟩
      have s14 : w13.heap.size ≤ w14.heap.size := h14.size
      replace R := hide (R.out.below h14 (by omega))
      replace G := hide (G.out.below h14 (by omega))
      replace HB := hide (bthenS2 HB.out h14)
      have lb := HB.out.size
      clear h14
      go_wp2_with fail
      refine (laws_markEventS _ _ _ _ _ _ _ _ (by omega) (by omega) G.out).mono ?_
      rintro e w15 ⟨rfl, o15, v15⟩
      have h15 := Save.below v15 (by omega)
      have s15 : w14.heap.size ≤ w15.heap.size := h15.size
      replace R := hide (R.out.save v15 (by omega))
      replace G := hide o15
      clear o15
      replace HB := hide (bthen HB.out h15 (by omega))
      have lb := HB.out.size
      clear h15 v15
      go_wp2_with fail
      refine (laws_heldEventS _ _ _ _ _ (by omega) (by omega) (isStructs_own evF_len (by omega) G.out.1)).mono ?_
      rintro e w16 ⟨rfl, h16⟩
      have s16 : w15.heap.size ≤ w16.heap.size := h16.size
      replace R := hide (R.out.below h16 (by omega))
      replace G := hide (G.out.below h16 (by omega))
      replace HB := hide (bthenS2 HB.out h16)
      have lb := HB.out.size
      clear h16
      go_wp2_with fail
      have KB2 := hide (show ∀ v, Below w16.heap.size w16 v → v.cell? ⟨w.heap.size, 0, none⟩ = some (.int .i64 g.gr) ∧ v.cell? ⟨w.heap.size, 1, none⟩ = some (.int .i64 g.bk) ∧ v.cell? ⟨w.heap.size, 2, none⟩ = some (.int .i64 g.rw) ∧ v.cell? ⟨w.heap.size, 3, none⟩ = some (.int .i64 g.cl) ∧ v.heap[w.heap.size + 1]? = some (.cells (tmC t).toArray 82 (0, 0)) ∧ v.cell? ⟨w.heap.size + 2, 0, none⟩ = some (.int .i64 mo) ∧ v.cell? ⟨w.heap.size + 2, 1, none⟩ = some (.bool mh) ∧ v.cell? ⟨w.heap.size + 3, 0, none⟩ = some (.slice a1 n1 c1) ∧ v.cell? ⟨w.heap.size + 3, 1, none⟩ = some (.int .i64 l) ∧ Below W0.heap.size W0 v ∧ Below w16.heap.size w16 v from fun v hb => by have h := KB.out v (bthenS2 HB.out hb); exact ⟨h.1, h.2.1, h.2.2.1, h.2.2.2.1, h.2.2.2.2.1, h.2.2.2.2.2.1, h.2.2.2.2.2.2.1, h.2.2.2.2.2.2.2.1, h.2.2.2.2.2.2.2.2.1, h.2.2.2.2.2.2.2.2.2, hb⟩)
      refine wp_region_held_drew (S := fun v => v.cell? ⟨w.heap.size, 0, none⟩ = some (.int .i64 g.gr) ∧ v.cell? ⟨w.heap.size, 1, none⟩ = some (.int .i64 g.bk) ∧ v.cell? ⟨w.heap.size, 2, none⟩ = some (.int .i64 g.rw) ∧ v.cell? ⟨w.heap.size, 3, none⟩ = some (.int .i64 g.cl) ∧ v.heap[w.heap.size + 1]? = some (.cells (tmC t).toArray 82 (0, 0)) ∧ v.cell? ⟨w.heap.size + 2, 0, none⟩ = some (.int .i64 mo) ∧ v.cell? ⟨w.heap.size + 2, 1, none⟩ = some (.bool mh) ∧ v.cell? ⟨w.heap.size + 3, 0, none⟩ = some (.slice a1 n1 c1) ∧ v.cell? ⟨w.heap.size + 3, 1, none⟩ = some (.int .i64 l) ∧ Below W0.heap.size W0 v ∧ Below w16.heap.size w16 v) (by kernel_rfl) (KB2.out _ (Below.refl _ _).drew) (fun hSx => ?_)
      refine wpAnyH_take (i := 0) (v := ?_) rfl (by kernel_rfl) (by kernel_rfl) (by kernel_rfl) (fun _ _ _ h => h) (Or.inl ⟨by rfl, ?_⟩) (by assumption) ?_
      rotate_left
      · intro w hSw; (try dsimp only at hSw); go_simp; try with_reducible rfl
      try simp only [Act.put, List.getElem_toArray, List.getElem_cons_zero, List.getElem_cons_succ, List.setIfInBounds_toArray, List.set_cons_zero, List.set_cons_succ]
      refine wpAnyH_take (i := 2) rfl (by kernel_rfl) (by kernel_rfl) (by kernel_rfl) (fun _ _ _ h => h) (yieldsIf_load_row (by rfl) 82 _ rfl (w.heap.size + 1) rfl 82 ((tmC t).toArray) (0, 0) _ (fun _ h => h.2.2.2.2.1) Try.underlying82 (tmC_info' t)) (by assumption) ?_
      try simp only [Act.put, List.getElem_toArray, List.getElem_cons_zero, List.getElem_cons_succ, List.setIfInBounds_toArray, List.set_cons_zero, List.set_cons_succ]
      refine wpAnyH_take (i := 4) (v := ?_) rfl (by kernel_rfl) (by kernel_rfl) (by kernel_rfl) (fun _ _ _ h => h) (Or.inl ⟨by rfl, ?_⟩) (by assumption) ?_
      rotate_left
      · intro w hSw; (try dsimp only at hSw); go_simp; try with_reducible rfl
      try simp only [Act.put, List.getElem_toArray, List.getElem_cons_zero, List.getElem_cons_succ, List.setIfInBounds_toArray, List.set_cons_zero, List.set_cons_succ]
      refine wpAnyH_take (i := 6) (v := ?_) rfl (by kernel_rfl) (by kernel_rfl) (by kernel_rfl) (fun _ _ _ h => h) (Or.inl ⟨by rfl, ?_⟩) (by assumption) ?_
      rotate_left
      · intro w hSw; (try dsimp only at hSw); go_simp; try with_reducible rfl
      try simp only [Act.put, List.getElem_toArray, List.getElem_cons_zero, List.getElem_cons_succ, List.setIfInBounds_toArray, List.set_cons_zero, List.set_cons_succ]
      refine wpAnyH_take (i := 8) (v := ?_) rfl (by kernel_rfl) (by kernel_rfl) (by kernel_rfl) (fun _ _ _ h => h) (Or.inl ⟨by rfl, ?_⟩) (by assumption) ?_
      rotate_left
      · intro w hSw; (try dsimp only at hSw); go_simp; try with_reducible rfl
      try simp only [Act.put, List.getElem_toArray, List.getElem_cons_zero, List.getElem_cons_succ, List.setIfInBounds_toArray, List.set_cons_zero, List.set_cons_succ]
      refine wpAnyH_take (i := 9) (v := ?_) rfl (by kernel_rfl) (by kernel_rfl) (by kernel_rfl) (fun _ _ _ h => h) (Or.inl ⟨by rfl, ?_⟩) (by assumption) ?_
      rotate_left
      · intro w hSw; (try dsimp only at hSw); go_simp; try with_reducible rfl
      try simp only [Act.put, List.getElem_toArray, List.getElem_cons_zero, List.getElem_cons_succ, List.setIfInBounds_toArray, List.set_cons_zero, List.set_cons_succ]
      refine wpAnyH_ready (rs := [1]) (by kernel_rfl) (by simp) ?_
      refine AllReadyH.cons rfl (fun K hK => ?_) AllReadyH.nil
      go_simp
      refine (laws_toGeometry g _).mono ?_
      rintro e y1 ⟨rfl, hy1⟩
      have sy1 : w16.heap.size ≤ y1.heap.size := hy1.size
      refine hK.out _ _ (KB2.out _ (bthenS2 hSx.2.2.2.2.2.2.2.2.2.2 hy1)) (fun hSy => ?_)
      clear hSx hK K
      have hSx := hSy; clear hSy
      try simp only [Act.put, List.getElem_toArray, List.getElem_cons_zero, List.getElem_cons_succ, List.setIfInBounds_toArray, List.set_cons_zero, List.set_cons_succ]
      refine wpAnyH_ready (rs := [3]) (by kernel_rfl) (by simp) ?_
      refine AllReadyH.cons rfl (fun K hK => ?_) AllReadyH.nil
      go_simp
      refine (laws_toTiming t _).mono ?_
      rintro e y2 ⟨rfl, hy2⟩
      have sy2 : y1.heap.size ≤ y2.heap.size := hy2.size
      refine hK.out _ _ (KB2.out _ (bthenS2 hSx.2.2.2.2.2.2.2.2.2.2 hy2)) (fun hSy => ?_)
      clear hSx hK K
      have hSx := hSy; clear hSy
      try simp only [Act.put, List.getElem_toArray, List.getElem_cons_zero, List.getElem_cons_succ, List.setIfInBounds_toArray, List.set_cons_zero, List.set_cons_succ]
      refine wpAnyH_ready (rs := [5]) (by kernel_rfl) (by simp) ?_
      refine AllReadyH.cons rfl (fun K hK => ?_) AllReadyH.nil
      go_simp
      refine (laws_toMapping mo mh _).mono ?_
      rintro e y3 ⟨rfl, hy3⟩
      have sy3 : y2.heap.size ≤ y3.heap.size := hy3.size
      refine hK.out _ _ (KB2.out _ (bthenS2 hSx.2.2.2.2.2.2.2.2.2.2 hy3)) (fun hSy => ?_)
      clear hSx hK K
      have hSx := hSy; clear hSy
      try simp only [Act.put, List.getElem_toArray, List.getElem_cons_zero, List.getElem_cons_succ, List.setIfInBounds_toArray, List.set_cons_zero, List.set_cons_succ]
      refine wpAnyH_ready (rs := [7]) (by kernel_rfl) (by simp) ?_
      refine AllReadyH.cons rfl (fun K hK => ?_) AllReadyH.nil
      go_simp
      refine (laws_toSlots a1 n1 c1 zs l _ (HZ.out.below (bthen HB0.out hSx.2.2.2.2.2.2.2.2.2.1 HB0.out.size) (Nat.le_refl _)) hs1).mono ?_
      rintro e y4 ⟨ap, cp, rfl, op, hy4⟩
      have sy4 : y3.heap.size ≤ y4.heap.size := hy4.size; have P := hide (isInts_own op hw.out)
      refine hK.out _ _ (KB2.out _ (bthenS2 hSx.2.2.2.2.2.2.2.2.2.2 hy4)) (fun hSy => ?_)
      clear hSx hK K
      have hSx := hSy; clear hSy
      try simp only [Act.put, List.getElem_toArray, List.getElem_cons_zero, List.getElem_cons_succ, List.setIfInBounds_toArray, List.set_cons_zero, List.set_cons_succ]
      refine wpAnyH_ready (rs := [10]) (by kernel_rfl) (by simp) ?_
      refine AllReadyH.cons rfl (fun K hK => ?_) AllReadyH.nil
      go_simp
      refine (laws_toRequestS a n c es _ (HA.out.below (bthen HB0.out hSx.2.2.2.2.2.2.2.2.2.1 HB0.out.size) (Nat.le_refl _)) (by omega)).mono ?_
      rintro e y5 ⟨aq, cq, rfl, oq, hy5⟩
      have sy5 : y4.heap.size ≤ y5.heap.size := hy5.size; replace P := hide (P.out.below hy5 (Nat.le_refl _)); have Q := hide (isStructs_own rqF_len (by omega) oq)
      refine hK.out _ _ (KB2.out _ (bthenS2 hSx.2.2.2.2.2.2.2.2.2.2 hy5)) (fun hSy => ?_)
      clear hSx hK K
      have hSx := hSy; clear hSy
      try simp only [Act.put, List.getElem_toArray, List.getElem_cons_zero, List.getElem_cons_succ, List.setIfInBounds_toArray, List.set_cons_zero, List.set_cons_succ]
      refine wpAnyH_ready (rs := [11]) (by kernel_rfl) (by simp) ?_
      refine AllReadyH.cons rfl (fun K hK => ?_) AllReadyH.nil
      go_simp
      refine (impl_SlotTrace_all (TrA.mk g t mo mh zs l u) ap n1 cp aq n cq es NK ok _ HID.out P.out hs1 Q.out HKL.out hO.out).mono ?_
      rintro e y6 ⟨ar, cr, rfl, ow, hy6⟩
      have sy6 : y5.heap.size ≤ y6.heap.size := hy6.size; have H := hide (Owned.of_own ow)
      refine hK.out _ _ (KB2.out _ (bthenS2 hSx.2.2.2.2.2.2.2.2.2.2 hy6)) (fun hSy => ?_)
      clear hSx hK K
      have hSx := hSy; clear hSy
      try simp only [Act.put, List.getElem_toArray, List.getElem_cons_zero, List.getElem_cons_succ, List.setIfInBounds_toArray, List.set_cons_zero, List.set_cons_succ]
      refine wpAnyH_take (i := 12) (v := ?_) rfl (by kernel_rfl) (by kernel_rfl) (by kernel_rfl) (fun _ _ _ h => h) (Or.inl ⟨by rfl, ?_⟩) (by assumption) ?_
      rotate_left
      · intro w hSw; (try dsimp only at hSw); go_simp; try with_reducible rfl
      try simp only [Act.put, List.getElem_toArray, List.getElem_cons_zero, List.getElem_cons_succ, List.setIfInBounds_toArray, List.set_cons_zero, List.set_cons_succ]
      refine wpAnyH_take (i := 13) (v := ?_) rfl (by kernel_rfl) (by kernel_rfl) (by kernel_rfl) (fun _ _ _ h => h) (Or.inl ⟨by rfl, ?_⟩) (by assumption) ?_
      rotate_left
      · intro w hSw; (try dsimp only at hSw); go_simp; try with_reducible rfl
      try simp only [Act.put, List.getElem_toArray, List.getElem_cons_zero, List.getElem_cons_succ, List.setIfInBounds_toArray, List.set_cons_zero, List.set_cons_succ]
      refine wpAnyH_take (i := 14) (v := ?_) rfl (by kernel_rfl) (by kernel_rfl) (by kernel_rfl) (fun _ _ _ h => h) (Or.inl ⟨by rfl, ?_⟩) (by assumption) ?_
      rotate_left
      · intro w hSw; (try dsimp only at hSw); go_simp; try with_reducible rfl
      try simp only [Act.put, List.getElem_toArray, List.getElem_cons_zero, List.getElem_cons_succ, List.setIfInBounds_toArray, List.set_cons_zero, List.set_cons_succ]
      refine wpAnyH_take (i := 15) (v := ?_) rfl (by kernel_rfl) (by kernel_rfl) (by kernel_rfl) (fun _ _ _ h => h) (Or.inl ⟨by rfl, ?_⟩) (by assumption) ?_
      rotate_left
      · intro w hSw; (try dsimp only at hSw); go_simp; try with_reducible rfl
      try simp only [Act.put, List.getElem_toArray, List.getElem_cons_zero, List.getElem_cons_succ, List.setIfInBounds_toArray, List.set_cons_zero, List.set_cons_succ]
      refine wpAnyH_take (i := 16) (v := ?_) rfl (by kernel_rfl) (by kernel_rfl) (by kernel_rfl) (fun _ _ _ h => h) (Or.inl ⟨by rfl, ?_⟩) (by assumption) ?_
      rotate_left
      · intro w hSw; (try dsimp only at hSw); go_simp; try with_reducible rfl
      try simp only [Act.put, List.getElem_toArray, List.getElem_cons_zero, List.getElem_cons_succ, List.setIfInBounds_toArray, List.set_cons_zero, List.set_cons_succ]
      refine wpAnyH_done (by kernel_rfl) ?_ _
      have hyy := hSx.2.2.2.2.2.2.2.2.2.2
      obtain ⟨U, rfl⟩ : ∃ V : World, V = y6 := ⟨_, rfl⟩
      replace R := hide (R.out.below hyy (by omega))
      replace G := hide (G.out.below hyy (by omega))
      replace HB := hide (bthenS2 HB.out hyy)
      have lb := HB.out.size
      clear hSx KB2 hyy P Q ow op oq hy1 hy2 hy3 hy4 hy5 hy6
      go_wp2_with fail
      refine (laws_eqEventS _ _ _ _ _ _ _ (isStructs_own evF_len (by omega) H.out.1) (isStructs_own evF_len (by omega) R.out.1)).mono ?_
      rintro e w17 ⟨rfl, h17⟩
      have s17 : U.heap.size ≤ w17.heap.size := h17.size
      replace R := hide (R.out.below h17 (by omega))
      replace G := hide (G.out.below h17 (by omega))
      replace H := hide (H.out.below h17 (by omega))
      replace HB := hide (bthenS2 HB.out h17)
      have lb := HB.out.size
      clear h17
      go_wp2_with fail
      refine (laws_heldEventS _ _ _ _ _ (by omega) (by omega) (isStructs_own evF_len (by omega) G.out.1)).mono ?_
      rintro e w18 ⟨rfl, h18⟩
      have s18 : w17.heap.size ≤ w18.heap.size := h18.size
      replace R := hide (R.out.below h18 (by omega))
      replace G := hide (G.out.below h18 (by omega))
      replace H := hide (H.out.below h18 (by omega))
      replace HB := hide (bthenS2 HB.out h18)
      have lb := HB.out.size
      clear h18
      go_wp2_with fail
      go_ret
      exact ⟨rfl, bthen HB0.out HB.out HB0.out.size⟩
    · have g9 : (0 : Int) ≤ 1048576 - (n1 : Int) := by omega
      clear ha hz
      go_enter Try.func11, Try.ntmps11
      go_wp2_with fail
      refine (laws_szSlots _ _ _ _ _ _ (by omega) (by omega) (by omega)).mono ?_
      rintro e w1 ⟨rfl, h1⟩
      have s1 := h1.size
      simp only [World.size_alloc] at s1
      have H1 := hide (show Below w.heap.size w w1 from bthen (by go_grown) h1 (by simp only [World.size_alloc]; omega))
      clear h1
      go_wp2_with fail
      refine (laws_szRequestS_no _ _ _ _ _ (by omega) (by omega) (by omega) ⟨hc, hm⟩).mono ?_
      rintro e w2 ⟨rfl, h2⟩
      go_wp2_with fail
      go_ret
      exact ⟨rfl, bthen H1.out h2 H1.out.size⟩
  · go_enter Try.func11, Try.ntmps11
    go_wp2_with fail
    refine (laws_szSlots_no _ _ _ _ _ _ (by omega) (by omega) (by omega) ⟨hc1, hm1⟩).mono ?_
    rintro e w1 ⟨rfl, h1⟩
    go_wp2_with fail
    go_ret
    exact ⟨rfl, bthen (by go_grown) h1 (by simp only [World.size_alloc]; omega)⟩
theorem FnExactSlotTrace_walk (x0 x1 x2 x3 : Int) (y0 y1 y2 y3 y4 y5 y6 y7 y8 y9 y10 y11 y12 y13 y14 y15 y16 : Int) (mo : Int) (mh : Bool) (a1 : Option Addr) (n1 c1 : Nat) (zs : List Int) (l u : Int) (a : Option Addr) (n c : Nat) (es : List Rq) (w : World) (hz : IsInts .i64 w a1 n1 c1 zs) (ha : IsStructs rqF 6 w a n c es ∧ ∀ e ∈ es, (Lit.int .i64 e.id).wf = true) :
    Calls Try.prog 11 #[.agg #[.int .i64 x0, .int .i64 x1, .int .i64 x2, .int .i64 x3], .agg #[.int .i64 y0, .int .i64 y1, .int .i64 y2, .int .i64 y3, .int .i64 y4, .int .i64 y5, .int .i64 y6, .int .i64 y7, .int .i64 y8, .int .i64 y9, .int .i64 y10, .int .i64 y11, .int .i64 y12, .int .i64 y13, .int .i64 y14, .int .i64 y15, .int .i64 y16], .agg #[.int .i64 mo, .bool mh], .agg #[.slice a1 n1 c1, .int .i64 l], .int .i64 u, .slice a n c] w fun e w' => e = .returned (.bool true) ∧ Below w.heap.size w w' :=
  FnExactSlotTrace_walk0 ⟨x0, x1, x2, x3⟩ ⟨y0, y1, y2, y3, y4, y5, y6, y7, y8, y9, y10, y11, y12, y13, y14, y15, y16⟩ mo mh a1 n1 c1 zs l u a n c es w hz ha

set_option maxRecDepth 100000 in
theorem FnExactSlotTrace_lifted (os : Os) (started : os.Started) (H : Type) (enc : TypeId × Value → H) :
    ReturnsInHanded {} Try.checked os 11 .any (Rows.fnExactSlotTraceSpec.pre6 enc Try.prog Try.f11 Rows.fnExactSlotTraceRow.domain false) (Rows.fnExactSlotTraceSpec.post enc Try.prog Try.f11 false true false false) := by
  refine returnsInHanded_of_change (C := Try.checked) try_own started (by kernel_rfl) Try.func11
    (ChangeSpec.witness6 (enc := enc) (C := Try.checked) false ⟨#[], #[.agg #[.int .i64 0, .int .i64 0, .int .i64 0, .int .i64 0], .agg #[.int .i64 0, .int .i64 0, .int .i64 0, .int .i64 0, .int .i64 0, .int .i64 0, .int .i64 0, .int .i64 0, .int .i64 0, .int .i64 0, .int .i64 0, .int .i64 0, .int .i64 0, .int .i64 0, .int .i64 0, .int .i64 0, .int .i64 0], .agg #[.int .i64 0, .bool false], .agg #[.slice none 0 0, .int .i64 0], .int .i64 0, .slice none 0 0], []⟩ 8 (by kernel_rfl) (by kernel_rfl) (by kernel_rfl) (by kernel_rfl)) ?_
  intro W base args ds gs before hval0 hW _ _
  have hval : ∀ (j : Nat) t v, Try.f11.params[j]? = some t → args[j]? = some v → Value.okWide Try.prog W .any base t v := hval0
  have hW' := hW
  obtain ⟨p, q, hA0, hV, rfl, hfz, hnd⟩ := hW
  have hA : DataW.TrodAll enc Try.prog W 0 (fun _ => true) true Try.f11.params.toList args.toList ds p := hA0
  rw [Try.params11] at hA hval
  obtain ⟨v0, vs0, d0, ds0, p0, q0, hargs, rfl, rfl, h0, r0⟩ := trodAll_cons hA
  obtain ⟨v1, vs1, d1, ds1, p1, q1, rfl, rfl, rfl, h1, r1⟩ := trodAll_cons r0
  obtain ⟨v2, vs2, d2, ds2, p2, q2, rfl, rfl, rfl, h2, r2⟩ := trodAll_cons r1
  obtain ⟨v3, vs3, d3, ds3, p3, q3, rfl, rfl, rfl, h3, r3⟩ := trodAll_cons r2
  obtain ⟨v4, vs4, d4, ds4, p4, q4, rfl, rfl, rfl, h4, r4⟩ := trodAll_cons r3
  obtain ⟨v5, vs5, d5, ds5, p5, q5, rfl, rfl, rfl, h5, r5⟩ := trodAll_cons r4
  obtain ⟨rfl, rfl, rfl⟩ := trodAll_nil r5
  obtain rfl : args = #[v0, v1, v2, v3, v4, v5] := by cases args; simp_all
  obtain ⟨rfl, rfl⟩ := trodVars_none hV
  have k0 := h0
  have lt0 : ∀ x ∈ p0, x.block < W.heap.size := by obtain ⟨m, hm⟩ := k0; exact DataW.trod_lt m _ _ _ hm
  have k1 := h1
  have lt1 : ∀ x ∈ p1, x.block < W.heap.size := by obtain ⟨m, hm⟩ := k1; exact DataW.trod_lt m _ _ _ hm
  have k2 := h2
  have lt2 : ∀ x ∈ p2, x.block < W.heap.size := by obtain ⟨m, hm⟩ := k2; exact DataW.trod_lt m _ _ _ hm
  have k3 := h3
  have lt3 : ∀ x ∈ p3, x.block < W.heap.size := by obtain ⟨m, hm⟩ := k3; exact DataW.trod_lt m _ _ _ hm
  have k4 := h4
  have lt4 : ∀ x ∈ p4, x.block < W.heap.size := by obtain ⟨m, hm⟩ := k4; exact DataW.trod_lt m _ _ _ hm
  have k5 := h5
  have lt5 : ∀ x ∈ p5, x.block < W.heap.size := by obtain ⟨m, hm⟩ := k5; exact DataW.trod_lt m _ _ _ hm
  obtain ⟨v0_0, v0_1, v0_2, v0_3, y0_0, y0_1, y0_2, y0_3, m0, rfl, rfl, _, hy0_0, hy0_1, hy0_2, hy0_3⟩ := open_agg4 Try.underlying81 (by kernel_rfl) (by kernel_rfl) (hval 0 81 v0 rfl rfl) h0
  obtain ⟨x0_0, e_x0_0, rfl, w_x0_0⟩ := DataW.trod_int Try.underlying3 hy0_0
  obtain ⟨x0_1, e_x0_1, rfl, w_x0_1⟩ := DataW.trod_int Try.underlying3 hy0_1
  obtain ⟨x0_2, e_x0_2, rfl, w_x0_2⟩ := DataW.trod_int Try.underlying3 hy0_2
  obtain ⟨x0_3, e_x0_3, rfl, w_x0_3⟩ := DataW.trod_int Try.underlying3 hy0_3
  obtain ⟨v1_0, v1_1, v1_2, v1_3, v1_4, v1_5, v1_6, v1_7, v1_8, v1_9, v1_10, v1_11, v1_12, v1_13, v1_14, v1_15, v1_16, y1_0, y1_1, y1_2, y1_3, y1_4, y1_5, y1_6, y1_7, y1_8, y1_9, y1_10, y1_11, y1_12, y1_13, y1_14, y1_15, y1_16, m1, rfl, rfl, _, hy1_0, hy1_1, hy1_2, hy1_3, hy1_4, hy1_5, hy1_6, hy1_7, hy1_8, hy1_9, hy1_10, hy1_11, hy1_12, hy1_13, hy1_14, hy1_15, hy1_16⟩ := open_agg17 Try.underlying82 (by kernel_rfl) (by kernel_rfl) (hval 1 82 v1 rfl rfl) h1
  obtain ⟨x1_0, e_x1_0, rfl, w_x1_0⟩ := DataW.trod_int Try.underlying3 hy1_0
  obtain ⟨x1_1, e_x1_1, rfl, w_x1_1⟩ := DataW.trod_int Try.underlying3 hy1_1
  obtain ⟨x1_2, e_x1_2, rfl, w_x1_2⟩ := DataW.trod_int Try.underlying3 hy1_2
  obtain ⟨x1_3, e_x1_3, rfl, w_x1_3⟩ := DataW.trod_int Try.underlying3 hy1_3
  obtain ⟨x1_4, e_x1_4, rfl, w_x1_4⟩ := DataW.trod_int Try.underlying3 hy1_4
  obtain ⟨x1_5, e_x1_5, rfl, w_x1_5⟩ := DataW.trod_int Try.underlying3 hy1_5
  obtain ⟨x1_6, e_x1_6, rfl, w_x1_6⟩ := DataW.trod_int Try.underlying3 hy1_6
  obtain ⟨x1_7, e_x1_7, rfl, w_x1_7⟩ := DataW.trod_int Try.underlying3 hy1_7
  obtain ⟨x1_8, e_x1_8, rfl, w_x1_8⟩ := DataW.trod_int Try.underlying3 hy1_8
  obtain ⟨x1_9, e_x1_9, rfl, w_x1_9⟩ := DataW.trod_int Try.underlying3 hy1_9
  obtain ⟨x1_10, e_x1_10, rfl, w_x1_10⟩ := DataW.trod_int Try.underlying3 hy1_10
  obtain ⟨x1_11, e_x1_11, rfl, w_x1_11⟩ := DataW.trod_int Try.underlying3 hy1_11
  obtain ⟨x1_12, e_x1_12, rfl, w_x1_12⟩ := DataW.trod_int Try.underlying3 hy1_12
  obtain ⟨x1_13, e_x1_13, rfl, w_x1_13⟩ := DataW.trod_int Try.underlying3 hy1_13
  obtain ⟨x1_14, e_x1_14, rfl, w_x1_14⟩ := DataW.trod_int Try.underlying3 hy1_14
  obtain ⟨x1_15, e_x1_15, rfl, w_x1_15⟩ := DataW.trod_int Try.underlying3 hy1_15
  obtain ⟨x1_16, e_x1_16, rfl, w_x1_16⟩ := DataW.trod_int Try.underlying3 hy1_16
  obtain ⟨v2_0, v2_1, y2_0, y2_1, m2, rfl, rfl, _, hy2_0, hy2_1⟩ := open_agg2 Try.underlying83 (by kernel_rfl) (by kernel_rfl) (hval 2 83 v2 rfl rfl) h2
  obtain ⟨x2_0, e_x2_0, rfl, w_x2_0⟩ := DataW.trod_int Try.underlying3 hy2_0
  obtain ⟨x2_1, e_x2_1, rfl⟩ := DataW.trod_bool Try.underlying4 hy2_1
  obtain ⟨v3_0, v3_1, y3_0, y3_1, m3, rfl, rfl, _, hy3_0, hy3_1⟩ := open_agg2 Try.underlying62 (by kernel_rfl) (by kernel_rfl) (hval 3 62 v3 rfl rfl) h3
  obtain ⟨a_x3_0, n_x3_0, c_x3_0, x3_0, e_x3_0, w_x3_0⟩ := isInts_of Try.underlying46 Try.underlying3 (by kernel_rfl) hy3_0
  obtain ⟨x3_1, e_x3_1, rfl, w_x3_1⟩ := DataW.trod_int Try.underlying3 hy3_1
  obtain ⟨x4, rfl, rfl, rfl, w_x4⟩ := open_int Try.underlying3 (hval 4 3 v4 rfl rfl) h4
  obtain ⟨b_x5, m_x5, l_x5, rfl⟩ := okWide_slice Try.underlying63 (hval 5 63 v5 rfl rfl)
  obtain ⟨fu5, h5⟩ := h5
  obtain ⟨a_x5, n_x5, c_x5, x5, e_x5, w_x5⟩ := isRequestWs_of h5
  simp only [List.cons.injEq, and_true] at e_x0_0; subst e_x0_0
  simp only [List.cons.injEq, and_true] at e_x0_1; subst e_x0_1
  simp only [List.cons.injEq, and_true] at e_x0_2; subst e_x0_2
  simp only [List.cons.injEq, and_true] at e_x0_3; subst e_x0_3
  simp only [List.cons.injEq, and_true] at e_x1_0; subst e_x1_0
  simp only [List.cons.injEq, and_true] at e_x1_1; subst e_x1_1
  simp only [List.cons.injEq, and_true] at e_x1_2; subst e_x1_2
  simp only [List.cons.injEq, and_true] at e_x1_3; subst e_x1_3
  simp only [List.cons.injEq, and_true] at e_x1_4; subst e_x1_4
  simp only [List.cons.injEq, and_true] at e_x1_5; subst e_x1_5
  simp only [List.cons.injEq, and_true] at e_x1_6; subst e_x1_6
  simp only [List.cons.injEq, and_true] at e_x1_7; subst e_x1_7
  simp only [List.cons.injEq, and_true] at e_x1_8; subst e_x1_8
  simp only [List.cons.injEq, and_true] at e_x1_9; subst e_x1_9
  simp only [List.cons.injEq, and_true] at e_x1_10; subst e_x1_10
  simp only [List.cons.injEq, and_true] at e_x1_11; subst e_x1_11
  simp only [List.cons.injEq, and_true] at e_x1_12; subst e_x1_12
  simp only [List.cons.injEq, and_true] at e_x1_13; subst e_x1_13
  simp only [List.cons.injEq, and_true] at e_x1_14; subst e_x1_14
  simp only [List.cons.injEq, and_true] at e_x1_15; subst e_x1_15
  simp only [List.cons.injEq, and_true] at e_x1_16; subst e_x1_16
  simp only [List.cons.injEq, and_true] at e_x2_0; subst e_x2_0
  simp only [List.cons.injEq, and_true] at e_x2_1; subst e_x2_1
  simp only [List.cons.injEq, and_true] at e_x3_0; subst e_x3_0
  simp only [List.cons.injEq, and_true] at e_x3_1; subst e_x3_1
  simp only [Value.cells, List.cons.injEq, and_true] at e_x5
  obtain ⟨q1, q2, q3⟩ : b_x5 = a_x5 ∧ m_x5 = n_x5 ∧ l_x5 = c_x5 := by simpa using e_x5
  replace q1 := q1.symm; replace q2 := q2.symm; replace q3 := q3.symm; subst q1 q2 q3
  clear hA0 hval0
  refine (FnExactSlotTrace_walk x0_0 x0_1 x0_2 x0_3 x1_0 x1_1 x1_2 x1_3 x1_4 x1_5 x1_6 x1_7 x1_8 x1_9 x1_10 x1_11 x1_12 x1_13 x1_14 x1_15 x1_16 x2_0 x2_1 a_x3_0 n_x3_0 c_x3_0 x3_0 x3_1 x4 a_x5 n_x5 c_x5 x5 W w_x3_0 w_x5).mono fun e W' ⟨he, bel⟩ => ?_
  subst he
  exact ⟨_, rfl, _, _, _, [], _, [], hW', trodAll_mk1 (shut_bool Try.underlying4 _), (trodAll_cons_mk (Below.trod try_laidOut (by kernel_rfl) (of_decide_eq_true (by kernel_rfl)) k0 bel lt0) (trodAll_cons_mk (Below.trod try_laidOut (by kernel_rfl) (of_decide_eq_true (by kernel_rfl)) k1 bel lt1) (trodAll_cons_mk (Below.trod try_laidOut (by kernel_rfl) (of_decide_eq_true (by kernel_rfl)) k2 bel lt2) (trodAll_cons_mk (Below.trod try_laidOut (by kernel_rfl) (of_decide_eq_true (by kernel_rfl)) k3 bel lt3) (trodAll_cons_mk (Below.trod try_laidOut (by kernel_rfl) (of_decide_eq_true (by kernel_rfl)) k4 bel lt4) (trodAll_cons_mk (Below.trod try_laidOut (by kernel_rfl) (of_decide_eq_true (by kernel_rfl)) k5 bel lt5) trodAll_mk0)))))), rfl, bel.frame _, fun h => by cases h⟩

theorem FnExactSlotTrace_holds : Rows.FnExactSlotTraceSaid :=
  OpenClaim.holds_of_wide 11 Try.f11 rfl rfl rfl rfl rfl rfl rfl ⟨rfl, rfl, rfl, rfl, rfl⟩ rfl rfl rfl rfl rfl (by kernel_rfl) Try.func11 (by kernel_rfl)
    (of_decide_eq_true (by kernel_rfl)) (by unfold Func.isWrapper; rw [if_neg (of_decide_eq_false (by kernel_rfl))]; exact ⟨rfl, rfl⟩)
    (fun os started H enc _ => FnExactSlotTrace_lifted os started H enc)
#print axioms FnExactSlotTrace_holds
end Go.Proofs.Ytahfbhfmhccgoaa
