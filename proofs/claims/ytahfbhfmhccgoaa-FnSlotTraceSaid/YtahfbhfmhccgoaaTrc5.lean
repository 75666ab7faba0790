/- Whether an event comes too early behind the earlier ones, in a trace without rows. -/
import Derived.Test.YtahfbhfmhccgoaaTrc4
set_option linter.unusedSimpArgs false
set_option linter.unusedVariables false
namespace Go.Proofs.Ytahfbhfmhccgoaa
open Go.RowKit Go.ChangeShapes Go.WideShapes Go.ChangeAt Go.Joins Go.Deep
open Go.ChangeMaps (open_string shut_string)
structure Ev where
  tm : Int
  kind : Int
  bank : Int
  row : Int
  col : Int
def evF (e : Ev) : List Value := [.int .i64 e.tm, .int .i64 e.kind, .int .i64 e.bank, .int .i64 e.row, .int .i64 e.col]
theorem evF_len (e : Ev) : (evF e).length = 5 := rfl
theorem info_Ev : (Try.prog.info? 100).map (fun i => (i.zero, i.size, i.bytes)) = some (some (.agg #[.int .i64 0, .int .i64 0, .int .i64 0, .int .i64 0, .int .i64 0]), 5, 40) := by kernel_rfl
theorem spec_l07Gap_is (g : Ge) (t : Tm) (a b v m x1 x2 x3 z1 z2 z3 : Int) (w : World) (hok : tmOk t = true) (h : GapIs t a b v) (hm : max v 1 = m) :
    Calls Try.prog 141 #[.agg #[.int .i64 g.gr, .int .i64 g.bk, .int .i64 g.rw, .int .i64 g.cl], .agg (tmC t).toArray, .agg #[.int .i64 a, .int .i64 x1, .int .i64 x2, .int .i64 x3], .agg #[.int .i64 b, .int .i64 z1, .int .i64 z2, .int .i64 z3]] w fun e w' => e = .returned (.int .i64 m) ∧ Below w.heap.size w w' := by subst hm; exact spec_l07Gap g t a b v x1 x2 x3 z1 z2 z3 w hok h
def gapV (t : Tm) (a b : Int) : Int := if a = 7 then t.xp else if a = 9 then t.xs else if b = 5 then 0 else t.cke
/-- Two commands of one trace: down and up, sleep and wake, or any of them and a refresh. -/
def Pair (a b : Int) : Prop := (a = 6 ∧ b = 7) ∨ (a = 8 ∧ b = 9) ∨ ((a = 6 ∨ a = 7 ∨ a = 8 ∨ a = 9) ∧ b = 5)
theorem gapIs_of {t : Tm} {a b : Int} (h : Pair a b) : GapIs t a b (gapV t a b) := by
  unfold GapIs gapV
  rcases h with ⟨rfl, rfl⟩ | ⟨rfl, rfl⟩ | ⟨rfl | rfl | rfl | rfl, rfl⟩ <;> simp
def early (t : Tm) (e f : Ev) : Bool := decide (e.tm - f.tm < max (gapV t f.kind e.kind) 1)
theorem keep_close {W v : World} {t : Tm} {g : Ge} {e f : Ev} {p q b o : Nat} (kt : W.heap[p + 1]? = some (.cells (tmC t).toArray 73 (0, 0))) (kg : W.heap[p]? = some (.cells #[.int .i64 g.gr, .int .i64 g.bk, .int .i64 g.rw, .int .i64 g.cl] 43 (0, 0))) (ke : W.heap[p + 1 + 1]? = some (.cells #[.int .i64 e.tm, .int .i64 e.kind, .int .i64 e.bank, .int .i64 e.row, .int .i64 e.col] 100 (0, 0)))
    (hf : ∀ j u, (evF f)[j]? = some u → W.cell? ⟨b, o + (q * 5 + j), none⟩ = some u) (hb2 : b < W.heap.size) (hb : Below W.heap.size W v) :
    v.heap[p + 1]? = some (.cells (tmC t).toArray 73 (0, 0)) ∧ v.cell? ⟨p, 0, none⟩ = some (.int .i64 g.gr) ∧ v.cell? ⟨p, 1, none⟩ = some (.int .i64 g.bk) ∧ v.cell? ⟨p, 2, none⟩ = some (.int .i64 g.rw) ∧ v.cell? ⟨p, 3, none⟩ = some (.int .i64 g.cl) ∧ v.cell? ⟨p + 1 + 1, 0, none⟩ = some (.int .i64 e.tm) ∧ v.cell? ⟨p + 1 + 1, 1, none⟩ = some (.int .i64 e.kind) ∧ v.cell? ⟨p + 1 + 1, 2, none⟩ = some (.int .i64 e.bank) ∧ v.cell? ⟨p + 1 + 1, 3, none⟩ = some (.int .i64 e.row) ∧ v.cell? ⟨p + 1 + 1, 4, none⟩ = some (.int .i64 e.col) ∧
    v.cell? ⟨b, o + q * 5, none⟩ = some (.int .i64 f.tm) ∧ v.cell? ⟨b, o + q * 5 + 1, none⟩ = some (.int .i64 f.kind) ∧ v.cell? ⟨b, o + q * 5 + 1 + 1, none⟩ = some (.int .i64 f.bank) ∧ v.cell? ⟨b, o + q * 5 + 1 + 2, none⟩ = some (.int .i64 f.row) ∧ v.cell? ⟨b, o + q * 5 + 1 + 3, none⟩ = some (.int .i64 f.col) ∧ Below W.heap.size W v :=
  have hg := (hb.block p (lt_blk kg)).trans kg
  have he := (hb.block (p + 1 + 1) (lt_blk ke)).trans ke
  have hc := fun j u hj => ((bcell hb).1 b (o + (q * 5 + j)) hb2).trans (hf j u hj)
  ⟨(hb.block (p + 1) (lt_blk kt)).trans kt, cell_blk hg 0, cell_blk hg 1, cell_blk hg 2, cell_blk hg 3, cell_blk he 0, cell_blk he 1, cell_blk he 2, cell_blk he 3, cell_blk he 4, hc 0 _ rfl, hc 1 _ rfl, hc 2 _ rfl, hc 3 _ rfl, hc 4 _ rfl, hb⟩
set_option maxRecDepth 100000 in
set_option maxHeartbeats 4000000 in
theorem spec_l09Close (g : Ge) (t : Tm) (a : Option Addr) (n c : Nat) (evs : List Ev) (e : Ev) (cl : Bool) (w : World) (ha : IsStructs evF 5 w a n c evs) (hok : tmOk t = true) (hn : n ≤ 1000) (hev : ∀ f ∈ evs, (0 ≤ f.tm ∧ f.tm ≤ 1000000) ∧ Pair f.kind e.kind) (hb : 0 ≤ e.tm ∧ e.tm ≤ 1000000) (hcl : evs.any (early t e) = cl) :
    Calls Try.prog 116 #[.agg #[.int .i64 g.gr, .int .i64 g.bk, .int .i64 g.rw, .int .i64 g.cl], .agg (tmC t).toArray, .slice a n c, .agg #[.int .i64 e.tm, .int .i64 e.kind, .int .i64 e.bank, .int .i64 e.row, .int .i64 e.col]] w fun r w' => r = .returned (.bool cl) ∧ Below w.heap.size w w' := by
  have HA := hide ha; have HEV := hide hev; have HCL := hide hcl
  have hlen := ha.1
  clear ha hev hcl
  go_enter Try.func116, Try.ntmps116
  go_wp2_with fail
  go_loopw [9] (fun i wr => ∃ k : Nat, k ≤ n ∧ i = .int .i64 k ∧ Hid ((evs.take k).any (early t e) = false) ∧ wr.heap[w.heap.size]? = some (.cells #[.int .i64 g.gr, .int .i64 g.bk, .int .i64 g.rw, .int .i64 g.cl] 43 (0, 0)) ∧ wr.heap[w.heap.size + 1]? = some (.cells (tmC t).toArray 73 (0, 0)) ∧ wr.heap[w.heap.size + 1 + 1]? = some (.cells #[.int .i64 e.tm, .int .i64 e.kind, .int .i64 e.bank, .int .i64 e.row, .int .i64 e.col] 100 (0, 0)) ∧ Below w.heap.size w wr) (fun i _ => n - (intOf i).toNat)
  case atStart => exact ⟨0, by omega, rfl, hide rfl, by rw [alloc_lt _ _ _ (by simp only [World.size_alloc]; omega), alloc_lt _ _ _ (by simp only [World.size_alloc]; omega), alloc_at _ _ _ rfl], by rw [alloc_lt _ _ _ (by simp only [World.size_alloc]; omega), alloc_at _ _ _ (by first | rfl | simp only [World.size_alloc])], alloc_at _ _ _ (by first | rfl | simp only [World.size_alloc]), by go_grown⟩
  case round =>
    obtain ⟨k, hk, rfl, HNO, kg, kt, ke, hB⟩ := hrel
    by_cases hlt : k < n
    · obtain ⟨f, b, o, hf, rfl, hlb, hcell⟩ := HA.out.get evF_len (by omega) hlt
      obtain ⟨⟨hf0, hf1⟩, hpr⟩ := HEV.out f (List.mem_of_getElem? hf)
      have hcl2 := fun j u hj => (hB.cell (p := ⟨b, o + (k * 5 + j), none⟩) hlb).trans (hcell j u hj)
      have KEEP := hide (fun (v : World) (hb : Below wr.heap.size wr v) => keep_close (q := k) kt kg ke hcl2 (by have := hB.size; omega) hb)
      obtain ⟨m, hm⟩ : ∃ m, max (gapV t f.kind e.kind) 1 = m := ⟨_, rfl⟩
      have HM := hide hm; clear hm
      have HF := hide hf; have HP := hide (gapIs_of (t := t) hpr)
      have HK := hide (And.intro kg (And.intro kt ke)); have HB := hide hB
      have i0 : (0 : Int) ≤ (k : Int) := by omega
      have i1 : (k : Int) < (n : Int) := by omega
      have hs1 := hB.size
      have hb1 := hb.1; have hb2 := hb.2
      have wq : IntKind.i64.wrap (e.tm - f.tm) = e.tm - f.tm := IntWalk.i64_in _ (by omega)
      clear hf hpr kg kt ke hcl2 hcell hB
      go_wp2_with fail
      refine wp_region_held_drew (S := fun v => v.heap[w.heap.size + 1]? = some (.cells (tmC t).toArray 73 (0, 0)) ∧ v.cell? ⟨w.heap.size, 0, none⟩ = some (.int .i64 g.gr) ∧ v.cell? ⟨w.heap.size, 1, none⟩ = some (.int .i64 g.bk) ∧ v.cell? ⟨w.heap.size, 2, none⟩ = some (.int .i64 g.rw) ∧ v.cell? ⟨w.heap.size, 3, none⟩ = some (.int .i64 g.cl) ∧ v.cell? ⟨w.heap.size + 1 + 1, 0, none⟩ = some (.int .i64 e.tm) ∧ v.cell? ⟨w.heap.size + 1 + 1, 1, none⟩ = some (.int .i64 e.kind) ∧ v.cell? ⟨w.heap.size + 1 + 1, 2, none⟩ = some (.int .i64 e.bank) ∧ v.cell? ⟨w.heap.size + 1 + 1, 3, none⟩ = some (.int .i64 e.row) ∧ v.cell? ⟨w.heap.size + 1 + 1, 4, none⟩ = some (.int .i64 e.col) ∧ v.cell? ⟨b, o + k * 5, none⟩ = some (.int .i64 f.tm) ∧ v.cell? ⟨b, o + k * 5 + 1, none⟩ = some (.int .i64 f.kind) ∧ v.cell? ⟨b, o + k * 5 + 1 + 1, none⟩ = some (.int .i64 f.bank) ∧ v.cell? ⟨b, o + k * 5 + 1 + 2, none⟩ = some (.int .i64 f.row) ∧ v.cell? ⟨b, o + k * 5 + 1 + 3, none⟩ = some (.int .i64 f.col) ∧ Below wr.heap.size wr v) (by kernel_rfl) (KEEP.out _ (Below.refl _ _).drew) (fun hSx => ?_)
      refine wpAnyH_take (i := 0) (v := ?_) rfl (by kernel_rfl) (by kernel_rfl) (by kernel_rfl) (fun _ _ _ h => h) (Or.inl ⟨by rfl, ?_⟩) (by assumption) ?_
      rotate_left
      · intro w hSw; (try dsimp only at hSw); go_simp; try with_reducible rfl
      try simp only [Act.put, List.getElem_toArray, List.getElem_cons_zero, List.getElem_cons_succ, List.setIfInBounds_toArray, List.set_cons_zero, List.set_cons_succ]
      refine wpAnyH_take (i := 1) (v := ?_) rfl (by kernel_rfl) (by kernel_rfl) (by kernel_rfl) (fun _ _ _ h => h) (Or.inl ⟨by rfl, ?_⟩) (by assumption) ?_
      rotate_left
      · intro w hSw; (try dsimp only at hSw); go_simp; try with_reducible rfl
      try simp only [Act.put, List.getElem_toArray, List.getElem_cons_zero, List.getElem_cons_succ, List.setIfInBounds_toArray, List.set_cons_zero, List.set_cons_succ]
      refine wpAnyH_take (i := 2) (v := ?_) rfl (by kernel_rfl) (by kernel_rfl) (by kernel_rfl) (fun _ _ _ h => h) (Or.inl ⟨by rfl, ?_⟩) (by assumption) ?_
      rotate_left
      · intro w hSw; (try dsimp only at hSw); go_simp; try with_reducible rfl
      try simp only [Act.put, List.getElem_toArray, List.getElem_cons_zero, List.getElem_cons_succ, List.setIfInBounds_toArray, List.set_cons_zero, List.set_cons_succ]
      refine wpAnyH_take (i := 3) (v := ?_) rfl (by kernel_rfl) (by kernel_rfl) (by kernel_rfl) (fun _ _ _ h => h) (Or.inl ⟨by rfl, ?_⟩) (by assumption) ?_
      rotate_left
      · intro w hSw; (try dsimp only at hSw); go_simp; try with_reducible rfl
      try simp only [Act.put, List.getElem_toArray, List.getElem_cons_zero, List.getElem_cons_succ, List.setIfInBounds_toArray, List.set_cons_zero, List.set_cons_succ]
      refine wpAnyH_take (i := 4) (v := ?_) rfl (by kernel_rfl) (by kernel_rfl) (by kernel_rfl) (fun _ _ _ h => h) (Or.inl ⟨by rfl, ?_⟩) (by assumption) ?_
      rotate_left
      · intro w hSw; (try dsimp only at hSw); go_simp; try with_reducible rfl
      try simp only [Act.put, List.getElem_toArray, List.getElem_cons_zero, List.getElem_cons_succ, List.setIfInBounds_toArray, List.set_cons_zero, List.set_cons_succ]
      refine wpAnyH_take (i := 5) (v := ?_) rfl (by kernel_rfl) (by kernel_rfl) (by kernel_rfl) (fun _ _ _ h => h) (Or.inl ⟨by rfl, ?_⟩) (by assumption) ?_
      rotate_left
      · intro w hSw; (try dsimp only at hSw); go_simp; try with_reducible rfl
      try simp only [Act.put, List.getElem_toArray, List.getElem_cons_zero, List.getElem_cons_succ, List.setIfInBounds_toArray, List.set_cons_zero, List.set_cons_succ]
      refine wpAnyH_take (i := 6) (v := ?_) rfl (by kernel_rfl) (by kernel_rfl) (by kernel_rfl) (fun _ _ _ h => h) (Or.inl ⟨by rfl, ?_⟩) (by assumption) ?_
      rotate_left
      · intro w hSw; (try dsimp only at hSw); go_simp; try with_reducible rfl
      try simp only [Act.put, List.getElem_toArray, List.getElem_cons_zero, List.getElem_cons_succ, List.setIfInBounds_toArray, List.set_cons_zero, List.set_cons_succ]
      refine wpAnyH_take (i := 7) (v := ?_) rfl (by kernel_rfl) (by kernel_rfl) (by kernel_rfl) (fun _ _ _ h => h) (Or.inl ⟨by rfl, ?_⟩) (by assumption) ?_
      rotate_left
      · intro w hSw; (try dsimp only at hSw); go_simp; try with_reducible rfl
      try simp only [Act.put, List.getElem_toArray, List.getElem_cons_zero, List.getElem_cons_succ, List.setIfInBounds_toArray, List.set_cons_zero, List.set_cons_succ]
      refine wpAnyH_take (i := 8) (v := ?_) rfl (by kernel_rfl) (by kernel_rfl) (by kernel_rfl) (fun _ _ _ h => h) (Or.inl ⟨by rfl, ?_⟩) (by assumption) ?_
      rotate_left
      · intro w hSw; (try dsimp only at hSw); go_simp; try with_reducible rfl
      try simp only [Act.put, List.getElem_toArray, List.getElem_cons_zero, List.getElem_cons_succ, List.setIfInBounds_toArray, List.set_cons_zero, List.set_cons_succ]
      refine wpAnyH_take (i := 9) rfl (by kernel_rfl) (by kernel_rfl) (by kernel_rfl) (fun _ _ _ h => h) (yieldsIf_load_row (by rfl) 73 _ rfl (w.heap.size + 1) rfl 73 (tmA t) (0, 0) _ (fun _ h => h.1) Try.underlying73 (tmC_info t)) (by assumption) ?_
      try simp only [Act.put, List.getElem_toArray, List.getElem_cons_zero, List.getElem_cons_succ, List.setIfInBounds_toArray, List.set_cons_zero, List.set_cons_succ]
      refine wpAnyH_take (i := 10) (v := ?_) rfl (by kernel_rfl) (by kernel_rfl) (by kernel_rfl) (fun _ _ _ h => h) (Or.inl ⟨by rfl, ?_⟩) (by assumption) ?_
      rotate_left
      · intro w hSw; (try dsimp only at hSw); go_simp; try with_reducible rfl
      try simp only [Act.put, List.getElem_toArray, List.getElem_cons_zero, List.getElem_cons_succ, List.setIfInBounds_toArray, List.set_cons_zero, List.set_cons_succ]
      refine wpAnyH_take (i := 11) (v := ?_) rfl (by kernel_rfl) (by kernel_rfl) (by kernel_rfl) (fun _ _ _ h => h) (Or.inl ⟨by rfl, ?_⟩) (by assumption) ?_
      rotate_left
      · intro w hSw; (try dsimp only at hSw); go_simp; try with_reducible rfl
      try simp only [Act.put, List.getElem_toArray, List.getElem_cons_zero, List.getElem_cons_succ, List.setIfInBounds_toArray, List.set_cons_zero, List.set_cons_succ]
      refine wpAnyH_take (i := 12) (v := ?_) rfl (by kernel_rfl) (by kernel_rfl) (by kernel_rfl) (fun _ _ _ h => h) (Or.inl ⟨by rfl, ?_⟩) (by assumption) ?_
      rotate_left
      · intro w hSw; (try dsimp only at hSw); go_simp; try with_reducible rfl
      try simp only [Act.put, List.getElem_toArray, List.getElem_cons_zero, List.getElem_cons_succ, List.setIfInBounds_toArray, List.set_cons_zero, List.set_cons_succ]
      refine wpAnyH_take (i := 13) (v := ?_) rfl (by kernel_rfl) (by kernel_rfl) (by kernel_rfl) (fun _ _ _ h => h) (Or.inl ⟨by rfl, ?_⟩) (by assumption) ?_
      rotate_left
      · intro w hSw; (try dsimp only at hSw); go_simp; try with_reducible rfl
      try simp only [Act.put, List.getElem_toArray, List.getElem_cons_zero, List.getElem_cons_succ, List.setIfInBounds_toArray, List.set_cons_zero, List.set_cons_succ]
      refine wpAnyH_take (i := 14) (v := ?_) rfl (by kernel_rfl) (by kernel_rfl) (by kernel_rfl) (fun _ _ _ h => h) (Or.inl ⟨by rfl, ?_⟩) (by assumption) ?_
      rotate_left
      · intro w hSw; (try dsimp only at hSw); go_simp; try with_reducible rfl
      try simp only [Act.put, List.getElem_toArray, List.getElem_cons_zero, List.getElem_cons_succ, List.setIfInBounds_toArray, List.set_cons_zero, List.set_cons_succ]
      refine wpAnyH_take (i := 15) (v := ?_) rfl (by kernel_rfl) (by kernel_rfl) (by kernel_rfl) (fun _ _ _ h => h) (Or.inl ⟨by rfl, ?_⟩) (by assumption) ?_
      rotate_left
      · intro w hSw; (try dsimp only at hSw); go_simp; try with_reducible rfl
      try simp only [Act.put, List.getElem_toArray, List.getElem_cons_zero, List.getElem_cons_succ, List.setIfInBounds_toArray, List.set_cons_zero, List.set_cons_succ]
      refine wpAnyH_take (i := 16) (v := ?_) rfl (by kernel_rfl) (by kernel_rfl) (by kernel_rfl) (fun _ _ _ h => h) (Or.inl ⟨by rfl, ?_⟩) (by assumption) ?_
      rotate_left
      · intro w hSw; (try dsimp only at hSw); go_simp; try with_reducible rfl
      try simp only [Act.put, List.getElem_toArray, List.getElem_cons_zero, List.getElem_cons_succ, List.setIfInBounds_toArray, List.set_cons_zero, List.set_cons_succ]
      refine wpAnyH_ready (rs := [17]) (by kernel_rfl) (by simp) ?_
      refine AllReadyH.cons rfl (fun K hK => ?_) AllReadyH.nil
      go_simp
      refine (spec_l07Gap_is g t f.kind e.kind (gapV t f.kind e.kind) m f.bank f.row f.col e.bank e.row e.col _ hok HP.out HM.out).mono ?_
      rintro e y1 ⟨rfl, hy1⟩
      refine hK.out _ _ (KEEP.out _ (bthenS2 hSx.2.2.2.2.2.2.2.2.2.2.2.2.2.2.2 hy1)) (fun hSy => ?_)
      clear hSx hK K
      have hSx := hSy; clear hSy
      try simp only [Act.put, List.getElem_toArray, List.getElem_cons_zero, List.getElem_cons_succ, List.setIfInBounds_toArray, List.set_cons_zero, List.set_cons_succ]
      refine wpAnyH_take (i := 18) (v := ?_) rfl (by kernel_rfl) (by kernel_rfl) (by kernel_rfl) (fun _ _ _ h => h) (Or.inl ⟨by rfl, ?_⟩) (by assumption) ?_
      rotate_left
      · intro w hSw; (try dsimp only at hSw); go_simp; try with_reducible rfl
      try simp only [Act.put, List.getElem_toArray, List.getElem_cons_zero, List.getElem_cons_succ, List.setIfInBounds_toArray, List.set_cons_zero, List.set_cons_succ]
      refine wpAnyH_done (by kernel_rfl) ?_ _
      have HY := hide hSx.2.2.2.2.2.2.2.2.2.2.2.2.2.2.2
      clear hSx
      cases hq : early t e f with
      | true =>
        have hd : e.tm - f.tm < m := by rw [← HM.out]; exact of_decide_eq_true hq
        have HV := hide (show cl = true by rw [← HCL.out]; exact List.any_eq_true.2 ⟨f, List.mem_of_getElem? HF.out, hq⟩)
        clear hq
        go_wp2_with fail
        go_ret
        exact ⟨ret_bool HV.out.symm, bthen HB.out HY.out hs1⟩
      | false =>
        have hd : ¬ e.tm - f.tm < m := by rw [← HM.out]; exact of_decide_eq_false hq
        have HN := hide (show (evs.take (k + 1)).any (early t e) = false by rw [take_snoc HF.out, List.any_append, HNO.out]; simp [hq])
        clear hq
        go_wp2_with fail
        go_roundw
        case rel => exact ⟨k + 1, by omega, by go_num, HN, (HY.out.block _ (lt_blk HK.out.1)).trans HK.out.1, (HY.out.block _ (lt_blk HK.out.2.1)).trans HK.out.2.1, (HY.out.block _ (lt_blk HK.out.2.2)).trans HK.out.2.2, bthen HB.out HY.out hs1⟩
        case measure => simp [intOf]; omega
    · obtain rfl : k = n := by omega
      have HV := hide (show cl = false by rw [← HCL.out, ← HNO.out, List.take_of_length_le (by omega)])
      go_wp2_with fail
      go_ret
      exact ⟨ret_bool HV.out.symm, hB⟩
end Go.Proofs.Ytahfbhfmhccgoaa
