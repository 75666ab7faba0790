/- The program's TraceFault finds no fault in a trace without faults. -/
import Derived.Test.YtahfbhfmhccgoaaFltR
import Derived.Test.YtahfbhfmhccgoaaFltT
set_option linter.unusedSimpArgs false
set_option linter.unusedVariables false
namespace Go.Proofs.Ytahfbhfmhccgoaa
open Go.RowKit Go.ChangeShapes Go.WideShapes Go.ChangeAt Go.Joins Go.Deep
open Go.ChangeMaps (open_string shut_string)
theorem isStructs_takeF {α : Type} {f : α → List Value} {sz : Nat} {w : World} {a : Option Addr} {n c k : Nat} {xs : List α} (h : IsStructs f sz w a n c xs) (hk : k ≤ n) : IsStructs f sz w a k c (xs.take k) :=
  ⟨by rw [List.length_take, h.1]; omega, by have := h.2.1; omega, h.2.2.1, fun i v hv => h.2.2.2 i v (by
    have e1 : xs.flatMap f = (xs.take k).flatMap f ++ (xs.drop k).flatMap f := by rw [← List.flatMap_append, List.take_append_drop]
    rw [e1, List.getElem?_append_left (List.getElem?_eq_some_iff.1 hv).1]; exact hv)⟩
/-- The load of a whole struct in a guarded operation that is wanted. -/
theorem wpList_load_onF {ops : Array Oper} {rest : List Oper} {o : Oper} {a : Act} {w : World} {Q : Exit → Act → World → Prop} (hw : Region.wanted o (yielded ops a.tmps) = true) (ty : TypeId) (x : Operand) (ho : o.op = .load ty x)
    (g : Nat) (hx : a.eval x = .pointer (some ⟨g, 0, none⟩)) (t : TypeId) (cs : Array Value) (fr : Nat × Nat) (fs : Array Field) (hg : w.heap[g]? = some (.cells cs t fr))
    (hu : Try.prog.underlying ty = some (.struct fs)) (hi : (Try.prog.info? ty).map (·.size) = some cs.size)
    (h : wpList Try.prog ops Q rest (a.put o.dst (.agg cs)) w) : wpList Try.prog ops Q (o :: rest) a w :=
  wpList_step fun K hK => by simp only [hw, if_true]; exact wp_load_row ty x ho g hx t cs fr _ hg hu rfl hi (hK _ _ h)
theorem acts_mem {P : List Ev} {z : Int} {i : Nat} (h : (acts P)[i]? = some z) : ∃ f ∈ P, f.tm = z := by
  have h1 := List.mem_of_getElem? h
  unfold acts at h1
  rw [List.mem_map] at h1
  obtain ⟨f, hf, e⟩ := h1
  exact ⟨f, (List.mem_filter.1 hf).1, e⟩
theorem cmd_frm {g : Ge} {nb : Nat} {e : Ev} (hnb : bankCnt g = (nb : Int)) (h : CmdIs nb g.rw g.cl e.kind e.bank e.row e.col) : Frm g e := by
  refine ⟨?_, by rw [hnb]; exact h.1⟩
  rcases h.2 with ⟨h, _⟩ | ⟨h, _⟩ | ⟨h, _⟩ | ⟨h, _⟩ <;> omega
set_option maxRecDepth 100000 in
set_option maxHeartbeats 8000000 in
theorem impl_TraceFault (g : Ge) (t : Tm) (a : Option Addr) (n c nb : Nat) (evs : List Ev) (w : World) (ha : IsStructs evF 5 w a n c evs) (hg : geoOk g = true) (hnb : bankCnt g = (nb : Int)) (hok : tmOk t = true) (hn : n ≤ 2000) (hcl : CleanTr g t nb evs) :
    Calls Try.prog 51 #[.agg #[.int .i64 g.gr, .int .i64 g.bk, .int .i64 g.rw, .int .i64 g.cl], .agg (tmC t).toArray, .slice a n c] w fun r w' => r = .returned (.tuple #[.int .i64 0, .int .i64 (-1)]) ∧ Below w.heap.size w w' := by
  have HA := hide ha; have HC := hide hcl; have HG := hide hg; have HN := hide hnb
  have hlen := hide ha.1
  have hgb := geoOk_bd hg
  have HRW := hide (show 0 < g.rw by omega)
  have hb8 := bankCnt_bd g
  have nb8 : nb ≤ 8 := by omega
  have hnc := ha.2.1
  clear ha hcl hgb hb8 hnb
  go_enter Try.func51, Try.ntmps51
  go_wp2_with fail
  have kt0 : ((w.alloc (.cells #[.int .i64 g.gr, .int .i64 g.bk, .int .i64 g.rw, .int .i64 g.cl] 43)).alloc (.cells (tmC t).toArray 73)).heap[w.heap.size + 1]? = some (.cells (tmC t).toArray 73 (0, 0)) := alloc_at _ _ _ (by simp only [World.size_alloc])
  have kg0 : ((w.alloc (.cells #[.int .i64 g.gr, .int .i64 g.bk, .int .i64 g.rw, .int .i64 g.cl] 43)).alloc (.cells (tmC t).toArray 73)).heap[w.heap.size]? = some (.cells #[.int .i64 g.gr, .int .i64 g.bk, .int .i64 g.rw, .int .i64 g.cl] 43 (0, 0)) := by rw [alloc_lt _ _ _ (by simp only [World.size_alloc]; omega), alloc_at _ _ _ rfl]
  have hB0 : Below w.heap.size w ((w.alloc (.cells #[.int .i64 g.gr, .int .i64 g.bk, .int .i64 g.rw, .int .i64 g.cl] 43)).alloc (.cells (tmC t).toArray 73)) := by go_grown
  refine (impl_GeometryOk_is g true hg _).mono ?_
  rintro e w1 ⟨rfl, h1⟩
  have kt1 := (h1.block _ (lt_blk kt0)).trans kt0
  have kg1 := (h1.block _ (lt_blk kg0)).trans kg0
  have hB1 := bthen hB0 h1 hB0.size
  clear kt0 kg0 hB0 h1
  have KT1 := hide kt1; have KG1 := hide kg1; have HB1 := hide hB1
  clear kt1 kg1 hB1
  go_wp2_with (refine wpList_load_onF (by rfl) 73 _ rfl (w.heap.size + 1) rfl 73 (tmC t).toArray (0, 0) _ KT1.out Try.underlying73 (tmC_info t) ?_)
  refine (impl_TimingOk_is t true hok _).mono ?_
  rintro e w2 ⟨rfl, h2⟩
  have KT2 := hide ((h2.block _ (lt_blk KT1.out)).trans KT1.out)
  have KG2 := hide ((h2.block _ (lt_blk KG1.out)).trans KG1.out)
  have HB2 := hide (bthen HB1.out h2 HB1.out.size)
  clear h2 KT1 KG1 HB1
  have n2000 : ¬ (2000 : Int) < (n : Int) := by omega
  have g0 := cell_blk KG2.out 0; have g1 := cell_blk KG2.out 1; have g2 := cell_blk KG2.out 2; have g3 := cell_blk KG2.out 3
  go_wp2_with fail
  refine (impl_RankNew g nb _ hg HN.out).mono ?_
  rintro e w3 ⟨aR, cR, rfl, hR, h3⟩
  have KT3 := hide ((h3.block _ (lt_blk KT2.out)).trans KT2.out)
  have KG3 := hide ((h3.block _ (lt_blk KG2.out)).trans KG2.out)
  have HB3 := hide (bthen HB2.out h3 HB2.out.size)
  have HR := hide (isStructs_own bkF_len (by omega) hR)
  have s3 := HB3.out.size
  have l3 := lt_blk KT3.out
  clear h3 hR KT2 KG2 HB2 g0 g1 g2 g3
  go_wp2_with fail
  have hA3 : Below w3.heap.size w3 (w3.alloc (.cells #[.slice aR nb cR, .int .i64 0] 143)) := Below.alloc (Below.refl _ _) (Nat.le_refl _) _
  have HA3 := hide hA3
  clear hA3
  go_loopw [30] (fun i wr => ∃ (k : Nat) (ak : Option Addr) (ck : Nat), k ≤ n ∧ i = .int .i64 k ∧ wr.heap[w.heap.size]? = some (.cells #[.int .i64 g.gr, .int .i64 g.bk, .int .i64 g.rw, .int .i64 g.cl] 43 (0, 0)) ∧ wr.heap[w.heap.size + 1]? = some (.cells (tmC t).toArray 73 (0, 0)) ∧ wr.heap[w3.heap.size]? = some (.cells #[.slice ak nb ck, .int .i64 0] 143 (0, 0)) ∧ Hid (IsStructs bkF 2 wr ak nb ck (bkOf nb (evs.take k))) ∧ Below w.heap.size w wr) (fun i _ => n - (intOf i).toNat)
  case atStart => exact ⟨0, aR, cR, by omega, rfl, (HA3.out.block _ (by omega)).trans KG3.out, (HA3.out.block _ l3).trans KT3.out, alloc_at _ _ _ rfl, hide (HR.out.below HA3.out (Nat.le_refl _)), bthen HB3.out HA3.out s3⟩
  case round =>
    obtain ⟨k, ak, ck, hk, rfl, kg, kt, kr, HS, hB⟩ := hrel
    have sr := hB.size
    have lr := lt_blk kr
    have HB := hide hB; have KR := hide kr; have KG := hide kg; have KT := hide kt
    clear hB kr kg kt KT3 KG3 HB3 HR HA3
    by_cases hlt : k < n
    · obtain ⟨e, b, o, he, rfl, hlb, hcell⟩ := HA.out.get evF_len (by omega) hlt
      have hF := HC.out k e he
      have hcr := fun j u hj => (HB.out.cell (p := ⟨b, o + (k * 5 + j), none⟩) hlb).trans (hcell j u hj)
      have q0 : wr.cell? ⟨b, o + k * 5, none⟩ = some (.int .i64 e.tm) := hcr 0 _ rfl
      have q1 : wr.cell? ⟨b, o + k * 5 + 1, none⟩ = some (.int .i64 e.kind) := hcr 1 _ rfl
      have q2 : wr.cell? ⟨b, o + k * 5 + 2, none⟩ = some (.int .i64 e.bank) := hcr 2 _ rfl
      have q3 : wr.cell? ⟨b, o + k * 5 + 3, none⟩ = some (.int .i64 e.row) := hcr 3 _ rfl
      have q4 : wr.cell? ⟨b, o + k * 5 + 4, none⟩ = some (.int .i64 e.col) := hcr 4 _ rfl
      have i0 : (0 : Int) ≤ (k : Int) := by omega
      have i1 : (k : Int) < (n : Int) := by omega
      have HE := hide he; have HF := hide hF; have HFm := hide hF.form
      have hbt : btw e.tm 0 1000000 = true := btw_mk hF.lo hF.hi
      have HBTW := hide hbt
      have ht0 := hF.lo; have ht1 := hF.hi
      obtain ⟨bk, hbk, hop⟩ := hF.opn
      have HBK := hide hbk; have HOP := hide hop
      have HBO := hide (clean_banks HRW.out HC.out k (by rw [hlen.out]; omega))
      clear he hF hcr hcell hbk hop hbt
      go_upto_region 7 with fail
      clear q0 q1 q2 q3 q4
      have ke : (wr.alloc (.cells #[.int .i64 e.tm, .int .i64 e.kind, .int .i64 e.bank, .int .i64 e.row, .int .i64 e.col] 100)).heap[wr.heap.size]? = some (.cells #[.int .i64 e.tm, .int .i64 e.kind, .int .i64 e.bank, .int .i64 e.row, .int .i64 e.col] 100 (0, 0)) := alloc_at _ _ _ rfl
      have hA8 : Below wr.heap.size wr (wr.alloc (.cells #[.int .i64 e.tm, .int .i64 e.kind, .int .i64 e.bank, .int .i64 e.row, .int .i64 e.col] 100)) := Below.alloc (Below.refl _ _) (Nat.le_refl _) _
      generalize (wr.alloc (.cells #[.int .i64 e.tm, .int .i64 e.kind, .int .i64 e.bank, .int .i64 e.row, .int .i64 e.col] 100)) = W8 at *
      have s8 := hA8.size
      have l8 := lt_blk ke
      have KG8 := hide ((hA8.block _ (lt_blk KG.out)).trans KG.out)
      have KT8 := hide ((hA8.block _ (lt_blk KT.out)).trans KT.out)
      have KR8 := hide ((hA8.block _ lr).trans KR.out)
      have HS8 := hide (HS.out.below hA8 (Nat.le_refl _))
      have HB8 := hide (bthen HB.out hA8 sr); have KE8 := hide ke
      clear ke hA8 KG KT KR HS HB
      rcases Nat.eq_zero_or_pos k with h0 | h0
      rotate_left
      obtain ⟨kp, hkp⟩ : ∃ x : Nat, k = x + 1 := ⟨k - 1, by omega⟩
      obtain ⟨f, b', o', hf, hbo, hlb', hcell'⟩ := HA.out.get evF_len (by omega) (show kp < n by omega)
      obtain ⟨rfl, rfl⟩ : b = b' ∧ o = o' := by injection hbo with hbo; injection hbo with hb1 hb2; exact ⟨hb1, hb2⟩
      have hz := (HB8.out.cell (p := ⟨b, o + (kp * 5 + 0), none⟩) hlb).trans (hcell' 0 _ rfl)
      have hge : ¬ e.tm ≤ f.tm := by
        have := HF.out.after f (by rw [hkp, take_snoc hf, List.getLast?_concat])
        omega
      have lb8 : b < W8.heap.size := by have := HB8.out.size; omega
      have KEEP := hide (show ∀ v, Below W8.heap.size W8 v → v.cell? ⟨w.heap.size, 0, none⟩ = some (.int .i64 g.gr) ∧ v.cell? ⟨w.heap.size, 1, none⟩ = some (.int .i64 g.bk) ∧ v.cell? ⟨w.heap.size, 2, none⟩ = some (.int .i64 g.rw) ∧ v.cell? ⟨w.heap.size, 3, none⟩ = some (.int .i64 g.cl) ∧ v.cell? ⟨wr.heap.size, 0, none⟩ = some (.int .i64 e.tm) ∧ v.cell? ⟨wr.heap.size, 1, none⟩ = some (.int .i64 e.kind) ∧ v.cell? ⟨wr.heap.size, 2, none⟩ = some (.int .i64 e.bank) ∧ v.cell? ⟨wr.heap.size, 3, none⟩ = some (.int .i64 e.row) ∧ v.cell? ⟨wr.heap.size, 4, none⟩ = some (.int .i64 e.col) ∧ v.cell? ⟨b, o + kp * 5, none⟩ = some (.int .i64 f.tm) ∧ Below W8.heap.size W8 v from fun v hb =>
        have h1 := (hb.block _ (lt_blk KG8.out)).trans KG8.out
        have h2 := (hb.block _ l8).trans KE8.out
        ⟨cell_blk h1 0, cell_blk h1 1, cell_blk h1 2, cell_blk h1 3, cell_blk h2 0, cell_blk h2 1, cell_blk h2 2, cell_blk h2 3, cell_blk h2 4, ((bcell hb).1 b (o + kp * 5) lb8).trans hz, hb⟩)
      have hk0 : (0 : Int) < (k : Int) := by omega
      have wsub : IntKind.i64.wrap ((k : Int) - 1) = (kp : Int) := (IntWalk.i64_in _ (by omega)).trans (by omega)
      have p0 : (0 : Int) ≤ (kp : Int) := by omega
      have p1 : (kp : Int) < (n : Int) := by omega
      have wkp : IntKind.i64.wrap (kp : Int) = (kp : Int) := IntWalk.i64_in _ (by omega)
      clear hkp hz hf hlb' hcell' hbo
      refine wp_region_held_drew (S := fun v => v.cell? ⟨w.heap.size, 0, none⟩ = some (.int .i64 g.gr) ∧ v.cell? ⟨w.heap.size, 1, none⟩ = some (.int .i64 g.bk) ∧ v.cell? ⟨w.heap.size, 2, none⟩ = some (.int .i64 g.rw) ∧ v.cell? ⟨w.heap.size, 3, none⟩ = some (.int .i64 g.cl) ∧ v.cell? ⟨wr.heap.size, 0, none⟩ = some (.int .i64 e.tm) ∧ v.cell? ⟨wr.heap.size, 1, none⟩ = some (.int .i64 e.kind) ∧ v.cell? ⟨wr.heap.size, 2, none⟩ = some (.int .i64 e.bank) ∧ v.cell? ⟨wr.heap.size, 3, none⟩ = some (.int .i64 e.row) ∧ v.cell? ⟨wr.heap.size, 4, none⟩ = some (.int .i64 e.col) ∧ v.cell? ⟨b, o + kp * 5, none⟩ = some (.int .i64 f.tm) ∧ Below W8.heap.size W8 v) (by kernel_rfl) (KEEP.out _ (Below.refl _ _).drew) (fun hSx => ?_)
      refine wpAnyH_take (i := 0) (v := ?_) rfl (by kernel_rfl) (by kernel_rfl) (by kernel_rfl) (fun _ _ _ h => h) (Or.inl ⟨by rfl, ?_⟩) (by assumption) ?_
      rotate_left
      · intro w hSw; (try dsimp only at hSw); go_simp; try with_reducible rfl
      try simp only [Act.put, List.getElem_toArray, List.getElem_cons_zero, List.getElem_cons_succ, List.setIfInBounds_toArray, List.set_cons_zero, List.set_cons_succ]
      refine wpAnyH_take (i := 1) (v := ?_) rfl (by kernel_rfl) (by kernel_rfl) (by kernel_rfl) (fun _ _ _ h => h) (Or.inl ⟨by rfl, ?_⟩) (by assumption) ?_
      rotate_left
      · intro w hSw; (try dsimp only at hSw); go_simp; try with_reducible rfl
      try simp only [Act.put, List.getElem_toArray, List.getElem_cons_zero, List.getElem_cons_succ, List.setIfInBounds_toArray, List.set_cons_zero, List.set_cons_succ]
      refine wpAnyH_take (i := 2) (v := ?_) rfl (by kernel_rfl) (by kernel_rfl) (by kernel_rfl) (fun _ _ _ h => h) (Or.inl ⟨by rfl, ?_⟩) (by assumption) ?_
      rotate_left
      · intro w hSw; (try dsimp only at hSw); go_simp; try with_reducible rfl
      try simp only [Act.put, List.getElem_toArray, List.getElem_cons_zero, List.getElem_cons_succ, List.setIfInBounds_toArray, List.set_cons_zero, List.set_cons_succ]
      refine wpAnyH_ready (rs := [3]) (by kernel_rfl) (by simp) ?_
      refine AllReadyH.cons rfl (fun K hK => ?_) AllReadyH.nil
      go_simp
      refine (impl_CommandOk g nb e.kind e.bank e.row e.col _ HG.out HN.out HFm.out).mono ?_
      rintro e y1 ⟨rfl, hy1⟩
      refine hK.out _ _ (KEEP.out _ (bthenS2 hSx.2.2.2.2.2.2.2.2.2.2 hy1)) (fun hSy => ?_)
      clear hSx hK K
      have hSx := hSy; clear hSy
      try simp only [Act.put, List.getElem_toArray, List.getElem_cons_zero, List.getElem_cons_succ, List.setIfInBounds_toArray, List.set_cons_zero, List.set_cons_succ]
      refine wpAnyH_take (i := 4) (v := ?_) rfl (by kernel_rfl) (by kernel_rfl) (by kernel_rfl) (fun _ _ _ h => h) (Or.inl ⟨by rfl, ?_⟩) (by assumption) ?_
      rotate_left
      · intro w hSw; (try dsimp only at hSw); go_simp; try with_reducible rfl
      try simp only [Act.put, List.getElem_toArray, List.getElem_cons_zero, List.getElem_cons_succ, List.setIfInBounds_toArray, List.set_cons_zero, List.set_cons_succ]
      refine wpAnyH_take (i := 5) (v := ?_) rfl (by kernel_rfl) (by kernel_rfl) (by kernel_rfl) (fun _ _ _ h => h) (Or.inl ⟨by rfl, ?_⟩) (by assumption) ?_
      rotate_left
      · intro w hSw; (try dsimp only at hSw); go_simp; try with_reducible rfl
      try simp only [Act.put, List.getElem_toArray, List.getElem_cons_zero, List.getElem_cons_succ, List.setIfInBounds_toArray, List.set_cons_zero, List.set_cons_succ]
      refine wpAnyH_take (i := 6) (v := ?_) rfl (by kernel_rfl) (by kernel_rfl) (by kernel_rfl) (fun _ _ _ h => h) (Or.inl ⟨by rfl, ?_⟩) (by assumption) ?_
      rotate_left
      · intro w hSw; (try dsimp only at hSw); go_simp; try with_reducible rfl
      try simp only [Act.put, List.getElem_toArray, List.getElem_cons_zero, List.getElem_cons_succ, List.setIfInBounds_toArray, List.set_cons_zero, List.set_cons_succ]
      refine wpAnyH_take (i := 7) (v := ?_) rfl (by kernel_rfl) (by kernel_rfl) (by kernel_rfl) (fun _ _ _ h => h) (Or.inl ⟨by rfl, ?_⟩) (by assumption) ?_
      rotate_left
      · intro w hSw; (try dsimp only at hSw); go_simp; try with_reducible rfl
      try simp only [Act.put, List.getElem_toArray, List.getElem_cons_zero, List.getElem_cons_succ, List.setIfInBounds_toArray, List.set_cons_zero, List.set_cons_succ]
      refine wpAnyH_ready (rs := [8]) (by kernel_rfl) (by simp) ?_
      refine AllReadyH.cons rfl (fun K hK => ?_) AllReadyH.nil
      go_simp
      refine (btw_is 77 e.tm 0 1000000 true _ HBTW.out (impl_between _ _ _ _)).mono ?_
      rintro e y2 ⟨rfl, hy2⟩
      refine hK.out _ _ (KEEP.out _ (bthenS2 hSx.2.2.2.2.2.2.2.2.2.2 hy2)) (fun hSy => ?_)
      clear hSx hK K
      have hSx := hSy; clear hSy
      try simp only [Act.put, List.getElem_toArray, List.getElem_cons_zero, List.getElem_cons_succ, List.setIfInBounds_toArray, List.set_cons_zero, List.set_cons_succ]
      refine wpAnyH_take (i := 9) (v := ?_) rfl (by kernel_rfl) (by kernel_rfl) (by kernel_rfl) (fun _ _ _ h => h) (Or.inl ⟨by rfl, ?_⟩) (by assumption) ?_
      rotate_left
      · intro w hSw; (try dsimp only at hSw); go_simp; try with_reducible rfl
      try simp only [Act.put, List.getElem_toArray, List.getElem_cons_zero, List.getElem_cons_succ, List.setIfInBounds_toArray, List.set_cons_zero, List.set_cons_succ]
      refine wpAnyH_take (i := 10) (v := ?_) rfl (by kernel_rfl) (by kernel_rfl) (by kernel_rfl) (fun _ _ _ h => h) (Or.inl ⟨by rfl, ?_⟩) (by assumption) ?_
      rotate_left
      · intro w hSw; (try dsimp only at hSw); go_simp; try with_reducible rfl
      try simp only [Act.put, List.getElem_toArray, List.getElem_cons_zero, List.getElem_cons_succ, List.setIfInBounds_toArray, List.set_cons_zero, List.set_cons_succ]
      refine wpAnyH_take (i := 11) (v := ?_) rfl (by kernel_rfl) (by kernel_rfl) (by kernel_rfl) (fun _ _ _ h => h) (Or.inl ⟨by rfl, ?_⟩) (by assumption) ?_
      rotate_left
      · intro w hSw; (try dsimp only at hSw); go_simp; try with_reducible rfl
      try simp only [Act.put, List.getElem_toArray, List.getElem_cons_zero, List.getElem_cons_succ, List.setIfInBounds_toArray, List.set_cons_zero, List.set_cons_succ]
      refine wpAnyH_take (i := 12) (v := ?_) rfl (by kernel_rfl) (by kernel_rfl) (by kernel_rfl) (fun _ _ _ h => h) (Or.inl ⟨by rfl, ?_⟩) (by assumption) ?_
      rotate_left
      · intro w hSw; (try dsimp only at hSw); go_simp; try with_reducible rfl
      try simp only [Act.put, List.getElem_toArray, List.getElem_cons_zero, List.getElem_cons_succ, List.setIfInBounds_toArray, List.set_cons_zero, List.set_cons_succ]
      refine wpAnyH_take (i := 13) (v := ?_) rfl (by kernel_rfl) (by kernel_rfl) (by kernel_rfl) (fun _ _ _ h => h) (Or.inl ⟨by rfl, ?_⟩) (by assumption) ?_
      rotate_left
      · intro w hSw; (try dsimp only at hSw); go_simp; try with_reducible rfl
      try simp only [Act.put, List.getElem_toArray, List.getElem_cons_zero, List.getElem_cons_succ, List.setIfInBounds_toArray, List.set_cons_zero, List.set_cons_succ]
      refine wpAnyH_take (i := 14) (v := ?_) rfl (by kernel_rfl) (by kernel_rfl) (by kernel_rfl) (fun _ _ _ h => h) (Or.inl ⟨by rfl, ?_⟩) (by assumption) ?_
      rotate_left
      · intro w hSw; (try dsimp only at hSw); go_simp; try with_reducible rfl
      try simp only [Act.put, List.getElem_toArray, List.getElem_cons_zero, List.getElem_cons_succ, List.setIfInBounds_toArray, List.set_cons_zero, List.set_cons_succ]
      refine wpAnyH_take (i := 15) (v := ?_) rfl (by kernel_rfl) (by kernel_rfl) (by kernel_rfl) (fun _ _ _ h => h) (Or.inl ⟨by rfl, ?_⟩) (by assumption) ?_
      rotate_left
      · intro w hSw; (try dsimp only at hSw); go_simp; try with_reducible rfl
      try simp only [Act.put, List.getElem_toArray, List.getElem_cons_zero, List.getElem_cons_succ, List.setIfInBounds_toArray, List.set_cons_zero, List.set_cons_succ]
      refine wpAnyH_take (i := 16) (v := ?_) rfl (by kernel_rfl) (by kernel_rfl) (by kernel_rfl) (fun _ _ _ h => h) (Or.inl ⟨by rfl, ?_⟩) (by assumption) ?_
      rotate_left
      · intro w hSw; (try dsimp only at hSw); go_simp; try with_reducible rfl
      try simp only [Act.put, List.getElem_toArray, List.getElem_cons_zero, List.getElem_cons_succ, List.setIfInBounds_toArray, List.set_cons_zero, List.set_cons_succ]
      refine wpAnyH_take (i := 17) (v := ?_) rfl (by kernel_rfl) (by kernel_rfl) (by kernel_rfl) (fun _ _ _ h => h) (Or.inl ⟨by rfl, ?_⟩) (by assumption) ?_
      rotate_left
      · intro w hSw; (try dsimp only at hSw); go_simp; try with_reducible rfl
      try simp only [Act.put, List.getElem_toArray, List.getElem_cons_zero, List.getElem_cons_succ, List.setIfInBounds_toArray, List.set_cons_zero, List.set_cons_succ]
      refine wpAnyH_take (i := 18) (v := ?_) rfl (by kernel_rfl) (by kernel_rfl) (by kernel_rfl) (fun _ _ _ h => h) (Or.inl ⟨by rfl, ?_⟩) (by assumption) ?_
      rotate_left
      · intro w hSw; (try dsimp only at hSw); go_simp; try with_reducible rfl
      try simp only [Act.put, List.getElem_toArray, List.getElem_cons_zero, List.getElem_cons_succ, List.setIfInBounds_toArray, List.set_cons_zero, List.set_cons_succ]
      refine wpAnyH_take (i := 19) (v := ?_) rfl (by kernel_rfl) (by kernel_rfl) (by kernel_rfl) (fun _ _ _ h => h) (Or.inl ⟨by rfl, ?_⟩) (by assumption) ?_
      rotate_left
      · intro w hSw; (try dsimp only at hSw); go_simp; try with_reducible rfl
      try simp only [Act.put, List.getElem_toArray, List.getElem_cons_zero, List.getElem_cons_succ, List.setIfInBounds_toArray, List.set_cons_zero, List.set_cons_succ]
      refine wpAnyH_take (i := 20) (v := ?_) rfl (by kernel_rfl) (by kernel_rfl) (by kernel_rfl) (fun _ _ _ h => h) (Or.inl ⟨by rfl, ?_⟩) (by assumption) ?_
      rotate_left
      · intro w hSw; (try dsimp only at hSw); go_simp; try with_reducible rfl
      try simp only [Act.put, List.getElem_toArray, List.getElem_cons_zero, List.getElem_cons_succ, List.setIfInBounds_toArray, List.set_cons_zero, List.set_cons_succ]
      refine wpAnyH_take (i := 21) (v := ?_) rfl (by kernel_rfl) (by kernel_rfl) (by kernel_rfl) (fun _ _ _ h => h) (Or.inl ⟨by rfl, ?_⟩) (by assumption) ?_
      rotate_left
      · intro w hSw; (try dsimp only at hSw); go_simp; try with_reducible rfl
      try simp only [Act.put, List.getElem_toArray, List.getElem_cons_zero, List.getElem_cons_succ, List.setIfInBounds_toArray, List.set_cons_zero, List.set_cons_succ]
      refine wpAnyH_take (i := 22) (v := ?_) rfl (by kernel_rfl) (by kernel_rfl) (by kernel_rfl) (fun _ _ _ h => h) (Or.inl ⟨by rfl, ?_⟩) (by assumption) ?_
      rotate_left
      · intro w hSw; (try dsimp only at hSw); go_simp; try with_reducible rfl
      try simp only [Act.put, List.getElem_toArray, List.getElem_cons_zero, List.getElem_cons_succ, List.setIfInBounds_toArray, List.set_cons_zero, List.set_cons_succ]
      refine wpAnyH_take (i := 23) (v := ?_) rfl (by kernel_rfl) (by kernel_rfl) (by kernel_rfl) (fun _ _ _ h => h) (Or.inl ⟨by rfl, ?_⟩) (by assumption) ?_
      rotate_left
      · intro w hSw; (try dsimp only at hSw); go_simp; try with_reducible rfl
      try simp only [Act.put, List.getElem_toArray, List.getElem_cons_zero, List.getElem_cons_succ, List.setIfInBounds_toArray, List.set_cons_zero, List.set_cons_succ]
      refine wpAnyH_take (i := 24) (v := ?_) rfl (by kernel_rfl) (by kernel_rfl) (by kernel_rfl) (fun _ _ _ h => h) (Or.inl ⟨by rfl, ?_⟩) (by assumption) ?_
      rotate_left
      · intro w hSw; (try dsimp only at hSw); go_simp; try with_reducible rfl
      try simp only [Act.put, List.getElem_toArray, List.getElem_cons_zero, List.getElem_cons_succ, List.setIfInBounds_toArray, List.set_cons_zero, List.set_cons_succ]
      refine wpAnyH_take (i := 25) (v := ?_) rfl (by kernel_rfl) (by kernel_rfl) (by kernel_rfl) (fun _ _ _ h => h) (Or.inl ⟨by rfl, ?_⟩) (by assumption) ?_
      rotate_left
      · intro w hSw; (try dsimp only at hSw); go_simp; try with_reducible rfl
      try simp only [Act.put, List.getElem_toArray, List.getElem_cons_zero, List.getElem_cons_succ, List.setIfInBounds_toArray, List.set_cons_zero, List.set_cons_succ]
      refine wpAnyH_done (by kernel_rfl) ?_ _
      rotate_left
      have KEEP := hide (show ∀ v, Below W8.heap.size W8 v → v.cell? ⟨w.heap.size, 0, none⟩ = some (.int .i64 g.gr) ∧ v.cell? ⟨w.heap.size, 1, none⟩ = some (.int .i64 g.bk) ∧ v.cell? ⟨w.heap.size, 2, none⟩ = some (.int .i64 g.rw) ∧ v.cell? ⟨w.heap.size, 3, none⟩ = some (.int .i64 g.cl) ∧ v.cell? ⟨wr.heap.size, 0, none⟩ = some (.int .i64 e.tm) ∧ v.cell? ⟨wr.heap.size, 1, none⟩ = some (.int .i64 e.kind) ∧ v.cell? ⟨wr.heap.size, 2, none⟩ = some (.int .i64 e.bank) ∧ v.cell? ⟨wr.heap.size, 3, none⟩ = some (.int .i64 e.row) ∧ v.cell? ⟨wr.heap.size, 4, none⟩ = some (.int .i64 e.col) ∧ v.cell? ⟨wr.heap.size, 0, none⟩ = some (.int .i64 e.tm) ∧ Below W8.heap.size W8 v from fun v hb =>
        have h1 := (hb.block _ (lt_blk KG8.out)).trans KG8.out
        have h2 := (hb.block _ l8).trans KE8.out
        ⟨cell_blk h1 0, cell_blk h1 1, cell_blk h1 2, cell_blk h1 3, cell_blk h2 0, cell_blk h2 1, cell_blk h2 2, cell_blk h2 3, cell_blk h2 4, cell_blk h2 0, hb⟩)
      have hk0 : ¬ (0 : Int) < (k : Int) := by omega
      have hk0n : ¬ 0 < k := by omega
      clear h0
      refine wp_region_held_drew (S := fun v => v.cell? ⟨w.heap.size, 0, none⟩ = some (.int .i64 g.gr) ∧ v.cell? ⟨w.heap.size, 1, none⟩ = some (.int .i64 g.bk) ∧ v.cell? ⟨w.heap.size, 2, none⟩ = some (.int .i64 g.rw) ∧ v.cell? ⟨w.heap.size, 3, none⟩ = some (.int .i64 g.cl) ∧ v.cell? ⟨wr.heap.size, 0, none⟩ = some (.int .i64 e.tm) ∧ v.cell? ⟨wr.heap.size, 1, none⟩ = some (.int .i64 e.kind) ∧ v.cell? ⟨wr.heap.size, 2, none⟩ = some (.int .i64 e.bank) ∧ v.cell? ⟨wr.heap.size, 3, none⟩ = some (.int .i64 e.row) ∧ v.cell? ⟨wr.heap.size, 4, none⟩ = some (.int .i64 e.col) ∧ v.cell? ⟨wr.heap.size, 0, none⟩ = some (.int .i64 e.tm) ∧ Below W8.heap.size W8 v) (by kernel_rfl) (KEEP.out _ (Below.refl _ _).drew) (fun hSx => ?_)
      refine wpAnyH_take (i := 0) (v := ?_) rfl (by kernel_rfl) (by kernel_rfl) (by kernel_rfl) (fun _ _ _ h => h) (Or.inl ⟨by rfl, ?_⟩) (by assumption) ?_
      rotate_left
      · intro w hSw; (try dsimp only at hSw); go_simp; try with_reducible rfl
      try simp only [Act.put, List.getElem_toArray, List.getElem_cons_zero, List.getElem_cons_succ, List.setIfInBounds_toArray, List.set_cons_zero, List.set_cons_succ]
      refine wpAnyH_take (i := 1) (v := ?_) rfl (by kernel_rfl) (by kernel_rfl) (by kernel_rfl) (fun _ _ _ h => h) (Or.inl ⟨by rfl, ?_⟩) (by assumption) ?_
      rotate_left
      · intro w hSw; (try dsimp only at hSw); go_simp; try with_reducible rfl
      try simp only [Act.put, List.getElem_toArray, List.getElem_cons_zero, List.getElem_cons_succ, List.setIfInBounds_toArray, List.set_cons_zero, List.set_cons_succ]
      refine wpAnyH_take (i := 2) (v := ?_) rfl (by kernel_rfl) (by kernel_rfl) (by kernel_rfl) (fun _ _ _ h => h) (Or.inl ⟨by rfl, ?_⟩) (by assumption) ?_
      rotate_left
      · intro w hSw; (try dsimp only at hSw); go_simp; try with_reducible rfl
      try simp only [Act.put, List.getElem_toArray, List.getElem_cons_zero, List.getElem_cons_succ, List.setIfInBounds_toArray, List.set_cons_zero, List.set_cons_succ]
      refine wpAnyH_ready (rs := [3]) (by kernel_rfl) (by simp) ?_
      refine AllReadyH.cons rfl (fun K hK => ?_) AllReadyH.nil
      go_simp
      refine (impl_CommandOk g nb e.kind e.bank e.row e.col _ HG.out HN.out HFm.out).mono ?_
      rintro e y1 ⟨rfl, hy1⟩
      refine hK.out _ _ (KEEP.out _ (bthenS2 hSx.2.2.2.2.2.2.2.2.2.2 hy1)) (fun hSy => ?_)
      clear hSx hK K
      have hSx := hSy; clear hSy
      try simp only [Act.put, List.getElem_toArray, List.getElem_cons_zero, List.getElem_cons_succ, List.setIfInBounds_toArray, List.set_cons_zero, List.set_cons_succ]
      refine wpAnyH_take (i := 4) (v := ?_) rfl (by kernel_rfl) (by kernel_rfl) (by kernel_rfl) (fun _ _ _ h => h) (Or.inl ⟨by rfl, ?_⟩) (by assumption) ?_
      rotate_left
      · intro w hSw; (try dsimp only at hSw); go_simp; try with_reducible rfl
      try simp only [Act.put, List.getElem_toArray, List.getElem_cons_zero, List.getElem_cons_succ, List.setIfInBounds_toArray, List.set_cons_zero, List.set_cons_succ]
      refine wpAnyH_take (i := 5) (v := ?_) rfl (by kernel_rfl) (by kernel_rfl) (by kernel_rfl) (fun _ _ _ h => h) (Or.inl ⟨by rfl, ?_⟩) (by assumption) ?_
      rotate_left
      · intro w hSw; (try dsimp only at hSw); go_simp; try with_reducible rfl
      try simp only [Act.put, List.getElem_toArray, List.getElem_cons_zero, List.getElem_cons_succ, List.setIfInBounds_toArray, List.set_cons_zero, List.set_cons_succ]
      refine wpAnyH_take (i := 6) (v := ?_) rfl (by kernel_rfl) (by kernel_rfl) (by kernel_rfl) (fun _ _ _ h => h) (Or.inl ⟨by rfl, ?_⟩) (by assumption) ?_
      rotate_left
      · intro w hSw; (try dsimp only at hSw); go_simp; try with_reducible rfl
      try simp only [Act.put, List.getElem_toArray, List.getElem_cons_zero, List.getElem_cons_succ, List.setIfInBounds_toArray, List.set_cons_zero, List.set_cons_succ]
      refine wpAnyH_take (i := 7) (v := ?_) rfl (by kernel_rfl) (by kernel_rfl) (by kernel_rfl) (fun _ _ _ h => h) (Or.inl ⟨by rfl, ?_⟩) (by assumption) ?_
      rotate_left
      · intro w hSw; (try dsimp only at hSw); go_simp; try with_reducible rfl
      try simp only [Act.put, List.getElem_toArray, List.getElem_cons_zero, List.getElem_cons_succ, List.setIfInBounds_toArray, List.set_cons_zero, List.set_cons_succ]
      refine wpAnyH_ready (rs := [8]) (by kernel_rfl) (by simp) ?_
      refine AllReadyH.cons rfl (fun K hK => ?_) AllReadyH.nil
      go_simp
      refine (btw_is 77 e.tm 0 1000000 true _ HBTW.out (impl_between _ _ _ _)).mono ?_
      rintro e y2 ⟨rfl, hy2⟩
      refine hK.out _ _ (KEEP.out _ (bthenS2 hSx.2.2.2.2.2.2.2.2.2.2 hy2)) (fun hSy => ?_)
      clear hSx hK K
      have hSx := hSy; clear hSy
      try simp only [Act.put, List.getElem_toArray, List.getElem_cons_zero, List.getElem_cons_succ, List.setIfInBounds_toArray, List.set_cons_zero, List.set_cons_succ]
      refine wpAnyH_take (i := 9) (v := ?_) rfl (by kernel_rfl) (by kernel_rfl) (by kernel_rfl) (fun _ _ _ h => h) (Or.inl ⟨by rfl, ?_⟩) (by assumption) ?_
      rotate_left
      · intro w hSw; (try dsimp only at hSw); go_simp; try with_reducible rfl
      try simp only [Act.put, List.getElem_toArray, List.getElem_cons_zero, List.getElem_cons_succ, List.setIfInBounds_toArray, List.set_cons_zero, List.set_cons_succ]
      refine wpAnyH_take (i := 10) (v := ?_) rfl (by kernel_rfl) (by kernel_rfl) (by kernel_rfl) (fun _ _ _ h => h) (Or.inl ⟨by rfl, ?_⟩) (by assumption) ?_
      rotate_left
      · intro w hSw; (try dsimp only at hSw); go_simp; try with_reducible rfl
      try simp only [Act.put, List.getElem_toArray, List.getElem_cons_zero, List.getElem_cons_succ, List.setIfInBounds_toArray, List.set_cons_zero, List.set_cons_succ]
      refine wpAnyH_take (i := 11) (v := ?_) rfl (by kernel_rfl) (by kernel_rfl) (by kernel_rfl) (fun _ _ _ h => h) (Or.inl ⟨by rfl, ?_⟩) (by assumption) ?_
      rotate_left
      · intro w hSw; (try dsimp only at hSw); go_simp; try with_reducible rfl
      try simp only [Act.put, List.getElem_toArray, List.getElem_cons_zero, List.getElem_cons_succ, List.setIfInBounds_toArray, List.set_cons_zero, List.set_cons_succ]
      refine wpAnyH_take (i := 12) (v := ?_) rfl (by kernel_rfl) (by kernel_rfl) (by kernel_rfl) (fun _ _ _ h => h) (Or.inl ⟨by rfl, ?_⟩) (by assumption) ?_
      rotate_left
      · intro w hSw; (try dsimp only at hSw); go_simp; try with_reducible rfl
      try simp only [Act.put, List.getElem_toArray, List.getElem_cons_zero, List.getElem_cons_succ, List.setIfInBounds_toArray, List.set_cons_zero, List.set_cons_succ]
      refine wpAnyH_take (i := 13) (v := ?_) rfl (by kernel_rfl) (by kernel_rfl) (by kernel_rfl) (fun _ _ _ h => h) (Or.inl ⟨by rfl, ?_⟩) (by assumption) ?_
      rotate_left
      · intro w hSw; (try dsimp only at hSw); go_simp; try with_reducible rfl
      try simp only [Act.put, List.getElem_toArray, List.getElem_cons_zero, List.getElem_cons_succ, List.setIfInBounds_toArray, List.set_cons_zero, List.set_cons_succ]
      refine wpAnyH_take (i := 14) (v := ?_) rfl (by kernel_rfl) (by kernel_rfl) (by kernel_rfl) (fun _ _ _ h => h) (Or.inl ⟨by rfl, ?_⟩) (by assumption) ?_
      rotate_left
      · intro w hSw; (try dsimp only at hSw); go_simp; try with_reducible rfl
      try simp only [Act.put, List.getElem_toArray, List.getElem_cons_zero, List.getElem_cons_succ, List.setIfInBounds_toArray, List.set_cons_zero, List.set_cons_succ]
      refine wpAnyH_take (i := 15) (v := undef) rfl (by kernel_rfl) (by kernel_rfl) (by kernel_rfl) (fun _ _ _ h => h) (Or.inr ⟨by rfl, rfl⟩) (by assumption) ?_
      try simp only [Act.put, List.getElem_toArray, List.getElem_cons_zero, List.getElem_cons_succ, List.setIfInBounds_toArray, List.set_cons_zero, List.set_cons_succ]
      refine wpAnyH_take (i := 16) (v := undef) rfl (by kernel_rfl) (by kernel_rfl) (by kernel_rfl) (fun _ _ _ h => h) (Or.inr ⟨by rfl, rfl⟩) (by assumption) ?_
      try simp only [Act.put, List.getElem_toArray, List.getElem_cons_zero, List.getElem_cons_succ, List.setIfInBounds_toArray, List.set_cons_zero, List.set_cons_succ]
      refine wpAnyH_take (i := 17) (v := undef) rfl (by kernel_rfl) (by kernel_rfl) (by kernel_rfl) (fun _ _ _ h => h) (Or.inr ⟨by rfl, rfl⟩) (by assumption) ?_
      try simp only [Act.put, List.getElem_toArray, List.getElem_cons_zero, List.getElem_cons_succ, List.setIfInBounds_toArray, List.set_cons_zero, List.set_cons_succ]
      refine wpAnyH_take (i := 18) (v := undef) rfl (by kernel_rfl) (by kernel_rfl) (by kernel_rfl) (fun _ _ _ h => h) (Or.inr ⟨by rfl, rfl⟩) (by assumption) ?_
      try simp only [Act.put, List.getElem_toArray, List.getElem_cons_zero, List.getElem_cons_succ, List.setIfInBounds_toArray, List.set_cons_zero, List.set_cons_succ]
      refine wpAnyH_take (i := 19) (v := undef) rfl (by kernel_rfl) (by kernel_rfl) (by kernel_rfl) (fun _ _ _ h => h) (Or.inr ⟨by rfl, rfl⟩) (by assumption) ?_
      try simp only [Act.put, List.getElem_toArray, List.getElem_cons_zero, List.getElem_cons_succ, List.setIfInBounds_toArray, List.set_cons_zero, List.set_cons_succ]
      refine wpAnyH_take (i := 20) (v := undef) rfl (by kernel_rfl) (by kernel_rfl) (by kernel_rfl) (fun _ _ _ h => h) (Or.inr ⟨by rfl, rfl⟩) (by assumption) ?_
      try simp only [Act.put, List.getElem_toArray, List.getElem_cons_zero, List.getElem_cons_succ, List.setIfInBounds_toArray, List.set_cons_zero, List.set_cons_succ]
      refine wpAnyH_take (i := 21) (v := undef) rfl (by kernel_rfl) (by kernel_rfl) (by kernel_rfl) (fun _ _ _ h => h) (Or.inr ⟨by rfl, rfl⟩) (by assumption) ?_
      try simp only [Act.put, List.getElem_toArray, List.getElem_cons_zero, List.getElem_cons_succ, List.setIfInBounds_toArray, List.set_cons_zero, List.set_cons_succ]
      refine wpAnyH_take (i := 22) (v := undef) rfl (by kernel_rfl) (by kernel_rfl) (by kernel_rfl) (fun _ _ _ h => h) (Or.inr ⟨by rfl, rfl⟩) (by assumption) ?_
      try simp only [Act.put, List.getElem_toArray, List.getElem_cons_zero, List.getElem_cons_succ, List.setIfInBounds_toArray, List.set_cons_zero, List.set_cons_succ]
      refine wpAnyH_take (i := 23) (v := undef) rfl (by kernel_rfl) (by kernel_rfl) (by kernel_rfl) (fun _ _ _ h => h) (Or.inr ⟨by rfl, rfl⟩) (by assumption) ?_
      try simp only [Act.put, List.getElem_toArray, List.getElem_cons_zero, List.getElem_cons_succ, List.setIfInBounds_toArray, List.set_cons_zero, List.set_cons_succ]
      refine wpAnyH_take (i := 24) (v := ?_) rfl (by kernel_rfl) (by kernel_rfl) (by kernel_rfl) (fun _ _ _ h => h) (Or.inl ⟨by rfl, ?_⟩) (by assumption) ?_
      rotate_left
      · intro w hSw; (try dsimp only at hSw); go_simp; try with_reducible rfl
      try simp only [Act.put, List.getElem_toArray, List.getElem_cons_zero, List.getElem_cons_succ, List.setIfInBounds_toArray, List.set_cons_zero, List.set_cons_succ]
      refine wpAnyH_take (i := 25) (v := ?_) rfl (by kernel_rfl) (by kernel_rfl) (by kernel_rfl) (fun _ _ _ h => h) (Or.inl ⟨by rfl, ?_⟩) (by assumption) ?_
      rotate_left
      · intro w hSw; (try dsimp only at hSw); go_simp; try with_reducible rfl
      try simp only [Act.put, List.getElem_toArray, List.getElem_cons_zero, List.getElem_cons_succ, List.setIfInBounds_toArray, List.set_cons_zero, List.set_cons_succ]
      refine wpAnyH_done (by kernel_rfl) ?_ _
      all_goals
        have HY := hide hSx.2.2.2.2.2.2.2.2.2.2
        clear hSx KEEP
        obtain ⟨Y, rfl⟩ : ∃ V : World, V = y2 := ⟨_, rfl⟩
        have ly := HY.out.size
        have KR2 := hide ((HY.out.block _ (lt_blk KR8.out)).trans KR8.out)
        have KE2 := hide ((HY.out.block _ (lt_blk KE8.out)).trans KE8.out)
        have KG2 := hide ((HY.out.block _ (lt_blk KG8.out)).trans KG8.out)
        have KT2 := hide ((HY.out.block _ (lt_blk KT8.out)).trans KT8.out)
        have HS2 := hide (HS8.out.below HY.out (Nat.le_refl _))
        have HB2 := hide (bthen HB8.out HY.out HB8.out.size)
        have r0 := cell_blk KR2.out 0; have r1 := cell_blk KR2.out 1
        have x1 := cell_blk KE2.out 1; have x2 := cell_blk KE2.out 2; have x3 := cell_blk KE2.out 3; have x4 := cell_blk KE2.out 4
        have g0 := cell_blk KG2.out 0; have g1 := cell_blk KG2.out 1; have g2 := cell_blk KG2.out 2; have g3 := cell_blk KG2.out 3
        clear KR8 KE8 KG8 KT8 HS8 HB8 HY
        go_wp2_with fail
        refine (impl_RankAfter g ak nb ck (bkOf nb (evs.take k)) e bk _ HS2.out HG.out HN.out HBO.out HFm.out HBK.out HOP.out).mono ?_
        rintro x w4 ⟨an, cn, rfl, on, h4⟩
        have s4 := h4.size
        clear r0 r1 x1 x2 x3 x4 g0 g1 g2 g3
        have kx : (w4.alloc (.cells #[.slice an nb cn, .int .i64 0] 143)).heap[w4.heap.size]? = some (.cells #[.slice an nb cn, .int .i64 0] 143 (0, 0)) := alloc_at _ _ _ rfl
        have hA4 : Below Y.heap.size Y (w4.alloc (.cells #[.slice an nb cn, .int .i64 0] 143)) := h4.alloc s4 _
        have HON := hide (on.alloc (.cells #[.slice an nb cn, .int .i64 0] 143))
        have lV : w4.heap.size + 1 ≤ (w4.alloc (.cells #[.slice an nb cn, .int .i64 0] 143)).heap.size := by simp
        clear on h4
        go_upto_region 12 with fail
        generalize (w4.alloc (.cells #[.slice an nb cn, .int .i64 0] 143)) = V at *
        have KR4 := hide ((hA4.block _ (lt_blk KR2.out)).trans KR2.out)
        have KE4 := hide ((hA4.block _ (lt_blk KE2.out)).trans KE2.out)
        have KG4 := hide ((hA4.block _ (lt_blk KG2.out)).trans KG2.out)
        have KT4 := hide ((hA4.block _ (lt_blk KT2.out)).trans KT2.out)
        have KX4 := hide kx
        have HB4 := hide (bthen HB2.out hA4 HB2.out.size)
        have lyr := lt_blk KR2.out
        clear hA4 kx KR2 KE2 KG2 KT2 HS2 HB2
        have hca : (0 : Int) ≤ (k : Int) := by omega
        have hcb : (k : Int) ≤ (c : Int) := by omega
        have HTK := hide (fun (v : World) (hb : Below V.heap.size V v) => (isStructs_takeF HA.out (show k ≤ n by omega)).below (bthen HB4.out hb HB4.out.size) (Nat.le_refl _))
        have HEV := hide (show ∀ f ∈ evs.take k, Frm g f ∧ 0 ≤ f.tm ∧ f.tm + gapG g t f e ≤ e.tm from fun f hf => by
          obtain ⟨j, hj⟩ := List.getElem?_of_mem (List.mem_of_mem_take hf)
          have h := HC.out j f hj
          exact ⟨cmd_frm HN.out h.form, h.lo, HF.out.gap f hf⟩)
        have HFE := hide (cmd_frm HN.out HFm.out)
        have KEEP := hide (show ∀ v, Below V.heap.size V v → v.heap[w.heap.size + 1]? = some (.cells (tmC t).toArray 73 (0, 0)) ∧ v.cell? ⟨w.heap.size, 0, none⟩ = some (.int .i64 g.gr) ∧ v.cell? ⟨w.heap.size, 1, none⟩ = some (.int .i64 g.bk) ∧ v.cell? ⟨w.heap.size, 2, none⟩ = some (.int .i64 g.rw) ∧ v.cell? ⟨w.heap.size, 3, none⟩ = some (.int .i64 g.cl) ∧ v.cell? ⟨wr.heap.size, 0, none⟩ = some (.int .i64 e.tm) ∧ v.cell? ⟨wr.heap.size, 1, none⟩ = some (.int .i64 e.kind) ∧ v.cell? ⟨wr.heap.size, 2, none⟩ = some (.int .i64 e.bank) ∧ v.cell? ⟨wr.heap.size, 3, none⟩ = some (.int .i64 e.row) ∧ v.cell? ⟨wr.heap.size, 4, none⟩ = some (.int .i64 e.col) ∧ Below V.heap.size V v from fun v hb =>
          have h1 := (hb.block _ (lt_blk KG4.out)).trans KG4.out
          have h2 := (hb.block _ (lt_blk KE4.out)).trans KE4.out
          ⟨(hb.block _ (lt_blk KT4.out)).trans KT4.out, cell_blk h1 0, cell_blk h1 1, cell_blk h1 2, cell_blk h1 3, cell_blk h2 0, cell_blk h2 1, cell_blk h2 2, cell_blk h2 3, cell_blk h2 4, hb⟩)
        refine wp_region_held_drew (S := fun v => v.heap[w.heap.size + 1]? = some (.cells (tmC t).toArray 73 (0, 0)) ∧ v.cell? ⟨w.heap.size, 0, none⟩ = some (.int .i64 g.gr) ∧ v.cell? ⟨w.heap.size, 1, none⟩ = some (.int .i64 g.bk) ∧ v.cell? ⟨w.heap.size, 2, none⟩ = some (.int .i64 g.rw) ∧ v.cell? ⟨w.heap.size, 3, none⟩ = some (.int .i64 g.cl) ∧ v.cell? ⟨wr.heap.size, 0, none⟩ = some (.int .i64 e.tm) ∧ v.cell? ⟨wr.heap.size, 1, none⟩ = some (.int .i64 e.kind) ∧ v.cell? ⟨wr.heap.size, 2, none⟩ = some (.int .i64 e.bank) ∧ v.cell? ⟨wr.heap.size, 3, none⟩ = some (.int .i64 e.row) ∧ v.cell? ⟨wr.heap.size, 4, none⟩ = some (.int .i64 e.col) ∧ Below V.heap.size V v) (by kernel_rfl) (KEEP.out _ (Below.refl _ _).drew) (fun hSx => ?_)
        refine wpAnyH_take (i := 0) (v := ?_) rfl (by kernel_rfl) (by kernel_rfl) (by kernel_rfl) (fun _ _ _ h => h) (Or.inl ⟨by rfl, ?_⟩) (by assumption) ?_
        rotate_left
        · intro w hSw; (try dsimp only at hSw); go_simp; try with_reducible rfl
        try simp only [Act.put, List.getElem_toArray, List.getElem_cons_zero, List.getElem_cons_succ, List.setIfInBounds_toArray, List.set_cons_zero, List.set_cons_succ]
        refine wpAnyH_take (i := 1) (v := ?_) rfl (by kernel_rfl) (by kernel_rfl) (by kernel_rfl) (fun _ _ _ h => h) (Or.inl ⟨by rfl, ?_⟩) (by assumption) ?_
        rotate_left
        · intro w hSw; (try dsimp only at hSw); go_simp; try with_reducible rfl
        try simp only [Act.put, List.getElem_toArray, List.getElem_cons_zero, List.getElem_cons_succ, List.setIfInBounds_toArray, List.set_cons_zero, List.set_cons_succ]
        refine wpAnyH_take (i := 2) (v := ?_) rfl (by kernel_rfl) (by kernel_rfl) (by kernel_rfl) (fun _ _ _ h => h) (Or.inl ⟨by rfl, ?_⟩) (by assumption) ?_
        rotate_left
        · intro w hSw; (try dsimp only at hSw); go_simp; try with_reducible rfl
        try simp only [Act.put, List.getElem_toArray, List.getElem_cons_zero, List.getElem_cons_succ, List.setIfInBounds_toArray, List.set_cons_zero, List.set_cons_succ]
        refine wpAnyH_take (i := 3) rfl (by kernel_rfl) (by kernel_rfl) (by kernel_rfl) (fun _ _ _ h => h) (yieldsIf_load_row (by rfl) 73 _ rfl (w.heap.size + 1) rfl 73 ((tmC t).toArray) (0, 0) _ (fun _ h => h.1) Try.underlying73 (tmC_info t)) (by assumption) ?_
        try simp only [Act.put, List.getElem_toArray, List.getElem_cons_zero, List.getElem_cons_succ, List.setIfInBounds_toArray, List.set_cons_zero, List.set_cons_succ]
        refine wpAnyH_take (i := 4) (v := ?_) rfl (by kernel_rfl) (by kernel_rfl) (by kernel_rfl) (fun _ _ _ h => h) (Or.inl ⟨by rfl, ?_⟩) (by assumption) ?_
        rotate_left
        · intro w hSw; (try dsimp only at hSw); go_simp; try with_reducible rfl
        try simp only [Act.put, List.getElem_toArray, List.getElem_cons_zero, List.getElem_cons_succ, List.setIfInBounds_toArray, List.set_cons_zero, List.set_cons_succ]
        refine wpAnyH_take (i := 5) (v := ?_) rfl (by kernel_rfl) (by kernel_rfl) (by kernel_rfl) (fun _ _ _ h => h) (Or.inl ⟨by rfl, ?_⟩) (by assumption) ?_
        rotate_left
        · intro w hSw; (try dsimp only at hSw); go_simp; try with_reducible rfl
        try simp only [Act.put, List.getElem_toArray, List.getElem_cons_zero, List.getElem_cons_succ, List.setIfInBounds_toArray, List.set_cons_zero, List.set_cons_succ]
        refine wpAnyH_take (i := 6) (v := ?_) rfl (by kernel_rfl) (by kernel_rfl) (by kernel_rfl) (fun _ _ _ h => h) (Or.inl ⟨by rfl, ?_⟩) (by assumption) ?_
        rotate_left
        · intro w hSw; (try dsimp only at hSw); go_simp; try with_reducible rfl
        try simp only [Act.put, List.getElem_toArray, List.getElem_cons_zero, List.getElem_cons_succ, List.setIfInBounds_toArray, List.set_cons_zero, List.set_cons_succ]
        refine wpAnyH_take (i := 7) (v := ?_) rfl (by kernel_rfl) (by kernel_rfl) (by kernel_rfl) (fun _ _ _ h => h) (Or.inl ⟨by rfl, ?_⟩) (by assumption) ?_
        rotate_left
        · intro w hSw; (try dsimp only at hSw); go_simp; try with_reducible rfl
        try simp only [Act.put, List.getElem_toArray, List.getElem_cons_zero, List.getElem_cons_succ, List.setIfInBounds_toArray, List.set_cons_zero, List.set_cons_succ]
        refine wpAnyH_take (i := 8) (v := ?_) rfl (by kernel_rfl) (by kernel_rfl) (by kernel_rfl) (fun _ _ _ h => h) (Or.inl ⟨by rfl, ?_⟩) (by assumption) ?_
        rotate_left
        · intro w hSw; (try dsimp only at hSw); go_simp; try with_reducible rfl
        try simp only [Act.put, List.getElem_toArray, List.getElem_cons_zero, List.getElem_cons_succ, List.setIfInBounds_toArray, List.set_cons_zero, List.set_cons_succ]
        refine wpAnyH_ready (rs := [9]) (by kernel_rfl) (by simp) ?_
        refine AllReadyH.cons rfl (fun K hK => ?_) AllReadyH.nil
        go_simp
        refine (impl_earliest g t (some ⟨b, o, none⟩) k c (evs.take k) e e.tm _ (HTK.out _ hSx.2.2.2.2.2.2.2.2.2.2) HG.out hok (by omega) HFE.out ⟨ht0, ht1⟩ HEV.out).mono ?_
        rintro e y1 ⟨v, rfl, hv, hy1⟩
        have hvd : decide (e.tm < v) = false := decide_eq_false (by omega)
        refine hK.out _ _ (KEEP.out _ (bthenS2 hSx.2.2.2.2.2.2.2.2.2.2 hy1)) (fun hSy => ?_)
        clear hSx hK K
        have hSx := hSy; clear hSy
        try simp only [Act.put, List.getElem_toArray, List.getElem_cons_zero, List.getElem_cons_succ, List.setIfInBounds_toArray, List.set_cons_zero, List.set_cons_succ]
        refine wpAnyH_take (i := 10) (v := ?_) rfl (by kernel_rfl) (by kernel_rfl) (by kernel_rfl) (fun _ _ _ h => h) (Or.inl ⟨by rfl, ?_⟩) (by assumption) ?_
        rotate_left
        · intro w hSw; (try dsimp only at hSw); go_simp; try with_reducible rfl
        try simp only [Act.put, List.getElem_toArray, List.getElem_cons_zero, List.getElem_cons_succ, List.setIfInBounds_toArray, List.set_cons_zero, List.set_cons_succ]
        refine wpAnyH_take (i := 11) (v := ?_) rfl (by kernel_rfl) (by kernel_rfl) (by kernel_rfl) (fun _ _ _ h => h) (Or.inl ⟨by rfl, ?_⟩) (by assumption) ?_
        rotate_left
        · intro w hSw; (try dsimp only at hSw); go_simp; try with_reducible rfl
        try simp only [Act.put, List.getElem_toArray, List.getElem_cons_zero, List.getElem_cons_succ, List.setIfInBounds_toArray, List.set_cons_zero, List.set_cons_succ]
        refine wpAnyH_done (by kernel_rfl) ?_ _
        have HY5 := hide hSx.2.2.2.2.2.2.2.2.2.2
        clear hSx hvd hv hy1
        obtain ⟨Y5, rfl⟩ : ∃ V : World, V = y1 := ⟨_, rfl⟩
        have KEEP5 := hide (fun (v : World) (hb : Below Y5.heap.size Y5 v) => KEEP.out v (bthenS2 HY5.out hb))
        go_wp2_with fail
        by_cases hk1 : e.kind = 1
        · have hkq : (e.kind == 1) = true := by simp [hk1]
          have HFW := hide (show ∀ z, 4 ≤ (acts (evs.take k)).length → (acts (evs.take k))[(acts (evs.take k)).length - 4]? = some z → (0 ≤ z ∧ z ≤ 1000000) ∧ z + t.faw ≤ e.tm from fun z h4 hz => by
            obtain ⟨f, hf, rfl⟩ := acts_mem hz
            obtain ⟨j, hj⟩ := List.getElem?_of_mem (List.mem_of_mem_take hf)
            have h := HC.out j f hj
            exact ⟨⟨h.lo, h.hi⟩, HF.out.faw hk1 _ h4 hz⟩)
          clear hk1
          refine wp_region_held_drew (S := fun v => v.heap[w.heap.size + 1]? = some (.cells (tmC t).toArray 73 (0, 0)) ∧ v.cell? ⟨w.heap.size, 0, none⟩ = some (.int .i64 g.gr) ∧ v.cell? ⟨w.heap.size, 1, none⟩ = some (.int .i64 g.bk) ∧ v.cell? ⟨w.heap.size, 2, none⟩ = some (.int .i64 g.rw) ∧ v.cell? ⟨w.heap.size, 3, none⟩ = some (.int .i64 g.cl) ∧ v.cell? ⟨wr.heap.size, 0, none⟩ = some (.int .i64 e.tm) ∧ v.cell? ⟨wr.heap.size, 1, none⟩ = some (.int .i64 e.kind) ∧ v.cell? ⟨wr.heap.size, 2, none⟩ = some (.int .i64 e.bank) ∧ v.cell? ⟨wr.heap.size, 3, none⟩ = some (.int .i64 e.row) ∧ v.cell? ⟨wr.heap.size, 4, none⟩ = some (.int .i64 e.col) ∧ Below V.heap.size V v) (by kernel_rfl) (KEEP.out _ HY5.out.drew) (fun hSx => ?_)
          refine wpAnyH_take (i := 0) (v := ?_) rfl (by kernel_rfl) (by kernel_rfl) (by kernel_rfl) (fun _ _ _ h => h) (Or.inl ⟨by rfl, ?_⟩) (by assumption) ?_
          rotate_left
          · intro w hSw; (try dsimp only at hSw); go_simp; try with_reducible rfl
          try simp only [Act.put, List.getElem_toArray, List.getElem_cons_zero, List.getElem_cons_succ, List.setIfInBounds_toArray, List.set_cons_zero, List.set_cons_succ]
          refine wpAnyH_take (i := 1) (v := ?_) rfl (by kernel_rfl) (by kernel_rfl) (by kernel_rfl) (fun _ _ _ h => h) (Or.inl ⟨by rfl, ?_⟩) (by assumption) ?_
          rotate_left
          · intro w hSw; (try dsimp only at hSw); go_simp; try with_reducible rfl
          try simp only [Act.put, List.getElem_toArray, List.getElem_cons_zero, List.getElem_cons_succ, List.setIfInBounds_toArray, List.set_cons_zero, List.set_cons_succ]
          refine wpAnyH_take (i := 2) (v := ?_) rfl (by kernel_rfl) (by kernel_rfl) (by kernel_rfl) (fun _ _ _ h => h) (Or.inl ⟨by rfl, ?_⟩) (by assumption) ?_
          rotate_left
          · intro w hSw; (try dsimp only at hSw); go_simp; try with_reducible rfl
          try simp only [Act.put, List.getElem_toArray, List.getElem_cons_zero, List.getElem_cons_succ, List.setIfInBounds_toArray, List.set_cons_zero, List.set_cons_succ]
          refine wpAnyH_take (i := 3) (v := ?_) rfl (by kernel_rfl) (by kernel_rfl) (by kernel_rfl) (fun _ _ _ h => h) (Or.inl ⟨by rfl, ?_⟩) (by assumption) ?_
          rotate_left
          · intro w hSw; (try dsimp only at hSw); go_simp; try with_reducible rfl
          try simp only [Act.put, List.getElem_toArray, List.getElem_cons_zero, List.getElem_cons_succ, List.setIfInBounds_toArray, List.set_cons_zero, List.set_cons_succ]
          refine wpAnyH_take (i := 4) (v := ?_) rfl (by kernel_rfl) (by kernel_rfl) (by kernel_rfl) (fun _ _ _ h => h) (Or.inl ⟨by rfl, ?_⟩) (by assumption) ?_
          rotate_left
          · intro w hSw; (try dsimp only at hSw); go_simp; try with_reducible rfl
          try simp only [Act.put, List.getElem_toArray, List.getElem_cons_zero, List.getElem_cons_succ, List.setIfInBounds_toArray, List.set_cons_zero, List.set_cons_succ]
          refine wpAnyH_take (i := 5) (v := ?_) rfl (by kernel_rfl) (by kernel_rfl) (by kernel_rfl) (fun _ _ _ h => h) (Or.inl ⟨by rfl, ?_⟩) (by assumption) ?_
          rotate_left
          · intro w hSw; (try dsimp only at hSw); go_simp; try with_reducible rfl
          try simp only [Act.put, List.getElem_toArray, List.getElem_cons_zero, List.getElem_cons_succ, List.setIfInBounds_toArray, List.set_cons_zero, List.set_cons_succ]
          refine wpAnyH_take (i := 6) (v := ?_) rfl (by kernel_rfl) (by kernel_rfl) (by kernel_rfl) (fun _ _ _ h => h) (Or.inl ⟨by rfl, ?_⟩) (by assumption) ?_
          rotate_left
          · intro w hSw; (try dsimp only at hSw); go_simp; try with_reducible rfl
          try simp only [Act.put, List.getElem_toArray, List.getElem_cons_zero, List.getElem_cons_succ, List.setIfInBounds_toArray, List.set_cons_zero, List.set_cons_succ]
          refine wpAnyH_take (i := 7) rfl (by kernel_rfl) (by kernel_rfl) (by kernel_rfl) (fun _ _ _ h => h) (yieldsIf_load_row (by rfl) 73 _ rfl (w.heap.size + 1) rfl 73 ((tmC t).toArray) (0, 0) _ (fun _ h => h.1) Try.underlying73 (tmC_info t)) (by assumption) ?_
          try simp only [Act.put, List.getElem_toArray, List.getElem_cons_zero, List.getElem_cons_succ, List.setIfInBounds_toArray, List.set_cons_zero, List.set_cons_succ]
          refine wpAnyH_take (i := 8) (v := ?_) rfl (by kernel_rfl) (by kernel_rfl) (by kernel_rfl) (fun _ _ _ h => h) (Or.inl ⟨by rfl, ?_⟩) (by assumption) ?_
          rotate_left
          · intro w hSw; (try dsimp only at hSw); go_simp; try with_reducible rfl
          try simp only [Act.put, List.getElem_toArray, List.getElem_cons_zero, List.getElem_cons_succ, List.setIfInBounds_toArray, List.set_cons_zero, List.set_cons_succ]
          refine wpAnyH_take (i := 9) (v := ?_) rfl (by kernel_rfl) (by kernel_rfl) (by kernel_rfl) (fun _ _ _ h => h) (Or.inl ⟨by rfl, ?_⟩) (by assumption) ?_
          rotate_left
          · intro w hSw; (try dsimp only at hSw); go_simp; try with_reducible rfl
          try simp only [Act.put, List.getElem_toArray, List.getElem_cons_zero, List.getElem_cons_succ, List.setIfInBounds_toArray, List.set_cons_zero, List.set_cons_succ]
          refine wpAnyH_take (i := 10) (v := ?_) rfl (by kernel_rfl) (by kernel_rfl) (by kernel_rfl) (fun _ _ _ h => h) (Or.inl ⟨by rfl, ?_⟩) (by assumption) ?_
          rotate_left
          · intro w hSw; (try dsimp only at hSw); go_simp; try with_reducible rfl
          try simp only [Act.put, List.getElem_toArray, List.getElem_cons_zero, List.getElem_cons_succ, List.setIfInBounds_toArray, List.set_cons_zero, List.set_cons_succ]
          refine wpAnyH_ready (rs := [11]) (by kernel_rfl) (by simp) ?_
          refine AllReadyH.cons rfl (fun K hK => ?_) AllReadyH.nil
          go_simp
          refine (impl_fawTime t (some ⟨b, o, none⟩) k c (evs.take k) e.tm _ (HTK.out _ hSx.2.2.2.2.2.2.2.2.2.2) hok (by omega) ht0 HFW.out).mono ?_
          rintro e y1 ⟨v, rfl, hv, hy1⟩
          have hvd : decide (e.tm < v) = false := decide_eq_false (by omega)
          refine hK.out _ _ (KEEP.out _ (bthenS2 hSx.2.2.2.2.2.2.2.2.2.2 hy1)) (fun hSy => ?_)
          clear hSx hK K
          have hSx := hSy; clear hSy
          try simp only [Act.put, List.getElem_toArray, List.getElem_cons_zero, List.getElem_cons_succ, List.setIfInBounds_toArray, List.set_cons_zero, List.set_cons_succ]
          refine wpAnyH_take (i := 12) (v := ?_) rfl (by kernel_rfl) (by kernel_rfl) (by kernel_rfl) (fun _ _ _ h => h) (Or.inl ⟨by rfl, ?_⟩) (by assumption) ?_
          rotate_left
          · intro w hSw; (try dsimp only at hSw); go_simp; try with_reducible rfl
          try simp only [Act.put, List.getElem_toArray, List.getElem_cons_zero, List.getElem_cons_succ, List.setIfInBounds_toArray, List.set_cons_zero, List.set_cons_succ]
          refine wpAnyH_take (i := 13) (v := ?_) rfl (by kernel_rfl) (by kernel_rfl) (by kernel_rfl) (fun _ _ _ h => h) (Or.inl ⟨by rfl, ?_⟩) (by assumption) ?_
          rotate_left
          · intro w hSw; (try dsimp only at hSw); go_simp; try with_reducible rfl
          try simp only [Act.put, List.getElem_toArray, List.getElem_cons_zero, List.getElem_cons_succ, List.setIfInBounds_toArray, List.set_cons_zero, List.set_cons_succ]
          refine wpAnyH_take (i := 14) (v := ?_) rfl (by kernel_rfl) (by kernel_rfl) (by kernel_rfl) (fun _ _ _ h => h) (Or.inl ⟨by rfl, ?_⟩) (by assumption) ?_
          rotate_left
          · intro w hSw; (try dsimp only at hSw); go_simp; try with_reducible rfl
          try simp only [Act.put, List.getElem_toArray, List.getElem_cons_zero, List.getElem_cons_succ, List.setIfInBounds_toArray, List.set_cons_zero, List.set_cons_succ]
          refine wpAnyH_done (by kernel_rfl) ?_ _
          have HY6 := hide hSx.2.2.2.2.2.2.2.2.2.2
          clear hSx hvd hv hy1
          obtain ⟨Y6, rfl⟩ : ∃ V : World, V = y1 := ⟨_, rfl⟩
          have ky := (HY6.out.block _ (lt_blk KX4.out)).trans KX4.out
          have kr := (HY6.out.block _ (lt_blk KR4.out)).trans KR4.out
          have n0 := cell_blk ky 0; have n1 := cell_blk ky 1
          have r0 := cell_blk kr 0; have r1 := cell_blk kr 1; have rf := fun o => free_blk kr o
          have KR6 := hide kr
          have KG6 := hide ((HY6.out.block _ (lt_blk KG4.out)).trans KG4.out)
          have KT6 := hide ((HY6.out.block _ (lt_blk KT4.out)).trans KT4.out)
          have HO6 := hide (own_below HON.out HY6.out (fun q hq => (HON.out.lt q hq).2))
          have HB6 := hide (bthen HB4.out HY6.out HB4.out.size)
          have hbn := hide (by have h := bkOf_snoc nb (evs.take k) e; rw [← take_snoc HE.out] at h; exact h)
          clear KEEP KEEP5 HTK HEV HY5 HY6 HON KR4 KE4 KG4 KT4 KX4 HB4 ky kr
          go_wp2_with fail
          go_roundw
          case rel =>
            have hne := own_ne HO6.out (b := w3.heap.size) (by omega)
            have hO7 := (HO6.out.kept (only_set (b := w3.heap.size) (o := 0) (only_refl _ _) (.slice an nb cn)) hne).kept (only_set (b := w3.heap.size) (o := 1) (only_refl _ _) (.int .i64 0)) hne
            exact ⟨k + 1, an, cn, by omega, by go_num, (heap_set_other _ _ _ _ _ (by omega)).trans ((heap_set_other _ _ _ _ _ (by omega)).trans KG6.out), (heap_set_other _ _ _ _ _ (by omega)).trans ((heap_set_other _ _ _ _ _ (by omega)).trans KT6.out), set_lit (set_lit KR6.out rfl) rfl, hide (by rw [hbn.out]; exact isStructs_own bkF_len (by omega) hO7), (HB6.out.setCell (p := ⟨w3.heap.size, 0, none⟩) (by simp; omega) _).setCell (p := ⟨w3.heap.size, 1, none⟩) (by simp; omega) _⟩
          case measure => simp [intOf]; omega
        · have hkq : (e.kind == 1) = false := by simp [hk1]
          clear hk1
          refine wp_region_held_drew (S := fun v => v.heap[w.heap.size + 1]? = some (.cells (tmC t).toArray 73 (0, 0)) ∧ v.cell? ⟨w.heap.size, 0, none⟩ = some (.int .i64 g.gr) ∧ v.cell? ⟨w.heap.size, 1, none⟩ = some (.int .i64 g.bk) ∧ v.cell? ⟨w.heap.size, 2, none⟩ = some (.int .i64 g.rw) ∧ v.cell? ⟨w.heap.size, 3, none⟩ = some (.int .i64 g.cl) ∧ v.cell? ⟨wr.heap.size, 0, none⟩ = some (.int .i64 e.tm) ∧ v.cell? ⟨wr.heap.size, 1, none⟩ = some (.int .i64 e.kind) ∧ v.cell? ⟨wr.heap.size, 2, none⟩ = some (.int .i64 e.bank) ∧ v.cell? ⟨wr.heap.size, 3, none⟩ = some (.int .i64 e.row) ∧ v.cell? ⟨wr.heap.size, 4, none⟩ = some (.int .i64 e.col) ∧ Below V.heap.size V v) (by kernel_rfl) (KEEP.out _ HY5.out.drew) (fun hSx => ?_)
          refine wpAnyH_take (i := 0) (v := ?_) rfl (by kernel_rfl) (by kernel_rfl) (by kernel_rfl) (fun _ _ _ h => h) (Or.inl ⟨by rfl, ?_⟩) (by assumption) ?_
          rotate_left
          · intro w hSw; (try dsimp only at hSw); go_simp; try with_reducible rfl
          try simp only [Act.put, List.getElem_toArray, List.getElem_cons_zero, List.getElem_cons_succ, List.setIfInBounds_toArray, List.set_cons_zero, List.set_cons_succ]
          refine wpAnyH_take (i := 1) (v := ?_) rfl (by kernel_rfl) (by kernel_rfl) (by kernel_rfl) (fun _ _ _ h => h) (Or.inl ⟨by rfl, ?_⟩) (by assumption) ?_
          rotate_left
          · intro w hSw; (try dsimp only at hSw); go_simp; try with_reducible rfl
          try simp only [Act.put, List.getElem_toArray, List.getElem_cons_zero, List.getElem_cons_succ, List.setIfInBounds_toArray, List.set_cons_zero, List.set_cons_succ]
          refine wpAnyH_take (i := 2) (v := ?_) rfl (by kernel_rfl) (by kernel_rfl) (by kernel_rfl) (fun _ _ _ h => h) (Or.inl ⟨by rfl, ?_⟩) (by assumption) ?_
          rotate_left
          · intro w hSw; (try dsimp only at hSw); go_simp; try with_reducible rfl
          try simp only [Act.put, List.getElem_toArray, List.getElem_cons_zero, List.getElem_cons_succ, List.setIfInBounds_toArray, List.set_cons_zero, List.set_cons_succ]
          refine wpAnyH_take (i := 3) (v := ?_) rfl (by kernel_rfl) (by kernel_rfl) (by kernel_rfl) (fun _ _ _ h => h) (Or.inl ⟨by rfl, ?_⟩) (by assumption) ?_
          rotate_left
          · intro w hSw; (try dsimp only at hSw); go_simp; try with_reducible rfl
          try simp only [Act.put, List.getElem_toArray, List.getElem_cons_zero, List.getElem_cons_succ, List.setIfInBounds_toArray, List.set_cons_zero, List.set_cons_succ]
          refine wpAnyH_take (i := 4) (v := ?_) rfl (by kernel_rfl) (by kernel_rfl) (by kernel_rfl) (fun _ _ _ h => h) (Or.inl ⟨by rfl, ?_⟩) (by assumption) ?_
          rotate_left
          · intro w hSw; (try dsimp only at hSw); go_simp; try with_reducible rfl
          try simp only [Act.put, List.getElem_toArray, List.getElem_cons_zero, List.getElem_cons_succ, List.setIfInBounds_toArray, List.set_cons_zero, List.set_cons_succ]
          refine wpAnyH_take (i := 5) (v := undef) rfl (by kernel_rfl) (by kernel_rfl) (by kernel_rfl) (fun _ _ _ h => h) (Or.inr ⟨by rfl, rfl⟩) (by assumption) ?_
          try simp only [Act.put, List.getElem_toArray, List.getElem_cons_zero, List.getElem_cons_succ, List.setIfInBounds_toArray, List.set_cons_zero, List.set_cons_succ]
          refine wpAnyH_take (i := 6) (v := undef) rfl (by kernel_rfl) (by kernel_rfl) (by kernel_rfl) (fun _ _ _ h => h) (Or.inr ⟨by rfl, rfl⟩) (by assumption) ?_
          try simp only [Act.put, List.getElem_toArray, List.getElem_cons_zero, List.getElem_cons_succ, List.setIfInBounds_toArray, List.set_cons_zero, List.set_cons_succ]
          refine wpAnyH_take (i := 7) (v := undef) rfl (by kernel_rfl) (by kernel_rfl) (by kernel_rfl) (fun _ _ _ h => h) (Or.inr ⟨by rfl, rfl⟩) (by assumption) ?_
          try simp only [Act.put, List.getElem_toArray, List.getElem_cons_zero, List.getElem_cons_succ, List.setIfInBounds_toArray, List.set_cons_zero, List.set_cons_succ]
          refine wpAnyH_take (i := 8) (v := undef) rfl (by kernel_rfl) (by kernel_rfl) (by kernel_rfl) (fun _ _ _ h => h) (Or.inr ⟨by rfl, rfl⟩) (by assumption) ?_
          try simp only [Act.put, List.getElem_toArray, List.getElem_cons_zero, List.getElem_cons_succ, List.setIfInBounds_toArray, List.set_cons_zero, List.set_cons_succ]
          refine wpAnyH_take (i := 9) (v := undef) rfl (by kernel_rfl) (by kernel_rfl) (by kernel_rfl) (fun _ _ _ h => h) (Or.inr ⟨by rfl, rfl⟩) (by assumption) ?_
          try simp only [Act.put, List.getElem_toArray, List.getElem_cons_zero, List.getElem_cons_succ, List.setIfInBounds_toArray, List.set_cons_zero, List.set_cons_succ]
          refine wpAnyH_take (i := 10) (v := undef) rfl (by kernel_rfl) (by kernel_rfl) (by kernel_rfl) (fun _ _ _ h => h) (Or.inr ⟨by rfl, rfl⟩) (by assumption) ?_
          try simp only [Act.put, List.getElem_toArray, List.getElem_cons_zero, List.getElem_cons_succ, List.setIfInBounds_toArray, List.set_cons_zero, List.set_cons_succ]
          refine wpAnyH_take (i := 11) (v := undef) rfl (by kernel_rfl) (by kernel_rfl) (by kernel_rfl) (fun _ _ _ h => h) (Or.inr ⟨by rfl, rfl⟩) (by assumption) ?_
          try simp only [Act.put, List.getElem_toArray, List.getElem_cons_zero, List.getElem_cons_succ, List.setIfInBounds_toArray, List.set_cons_zero, List.set_cons_succ]
          refine wpAnyH_take (i := 12) (v := undef) rfl (by kernel_rfl) (by kernel_rfl) (by kernel_rfl) (fun _ _ _ h => h) (Or.inr ⟨by rfl, rfl⟩) (by assumption) ?_
          try simp only [Act.put, List.getElem_toArray, List.getElem_cons_zero, List.getElem_cons_succ, List.setIfInBounds_toArray, List.set_cons_zero, List.set_cons_succ]
          refine wpAnyH_take (i := 13) (v := ?_) rfl (by kernel_rfl) (by kernel_rfl) (by kernel_rfl) (fun _ _ _ h => h) (Or.inl ⟨by rfl, ?_⟩) (by assumption) ?_
          rotate_left
          · intro w hSw; (try dsimp only at hSw); go_simp; try with_reducible rfl
          try simp only [Act.put, List.getElem_toArray, List.getElem_cons_zero, List.getElem_cons_succ, List.setIfInBounds_toArray, List.set_cons_zero, List.set_cons_succ]
          refine wpAnyH_take (i := 14) (v := ?_) rfl (by kernel_rfl) (by kernel_rfl) (by kernel_rfl) (fun _ _ _ h => h) (Or.inl ⟨by rfl, ?_⟩) (by assumption) ?_
          rotate_left
          · intro w hSw; (try dsimp only at hSw); go_simp; try with_reducible rfl
          try simp only [Act.put, List.getElem_toArray, List.getElem_cons_zero, List.getElem_cons_succ, List.setIfInBounds_toArray, List.set_cons_zero, List.set_cons_succ]
          refine wpAnyH_done (by kernel_rfl) ?_ _
          have HY6 := hide (show Below V.heap.size V Y5.drew from HY5.out.drew)
          clear hSx
          have hY6 : Y5.heap.size ≤ (World.drew Y5).heap.size := Nat.le_refl _
          generalize World.drew Y5 = Y6 at *
          have ky := (HY6.out.block _ (lt_blk KX4.out)).trans KX4.out
          have kr := (HY6.out.block _ (lt_blk KR4.out)).trans KR4.out
          have n0 := cell_blk ky 0; have n1 := cell_blk ky 1
          have r0 := cell_blk kr 0; have r1 := cell_blk kr 1; have rf := fun o => free_blk kr o
          have KR6 := hide kr
          have KG6 := hide ((HY6.out.block _ (lt_blk KG4.out)).trans KG4.out)
          have KT6 := hide ((HY6.out.block _ (lt_blk KT4.out)).trans KT4.out)
          have HO6 := hide (own_below HON.out HY6.out (fun q hq => (HON.out.lt q hq).2))
          have HB6 := hide (bthen HB4.out HY6.out HB4.out.size)
          have hbn := hide (by have h := bkOf_snoc nb (evs.take k) e; rw [← take_snoc HE.out] at h; exact h)
          clear KEEP KEEP5 HTK HEV HY5 HY6 HON KR4 KE4 KG4 KT4 KX4 HB4 ky kr
          go_wp2_with fail
          go_roundw
          case rel =>
            have hne := own_ne HO6.out (b := w3.heap.size) (by omega)
            have hO7 := (HO6.out.kept (only_set (b := w3.heap.size) (o := 0) (only_refl _ _) (.slice an nb cn)) hne).kept (only_set (b := w3.heap.size) (o := 1) (only_refl _ _) (.int .i64 0)) hne
            exact ⟨k + 1, an, cn, by omega, by go_num, (heap_set_other _ _ _ _ _ (by omega)).trans ((heap_set_other _ _ _ _ _ (by omega)).trans KG6.out), (heap_set_other _ _ _ _ _ (by omega)).trans ((heap_set_other _ _ _ _ _ (by omega)).trans KT6.out), set_lit (set_lit KR6.out rfl) rfl, hide (by rw [hbn.out]; exact isStructs_own bkF_len (by omega) hO7), (HB6.out.setCell (p := ⟨w3.heap.size, 0, none⟩) (by simp; omega) _).setCell (p := ⟨w3.heap.size, 1, none⟩) (by simp; omega) _⟩
          case measure => simp [intOf]; omega
    · obtain rfl : k = n := by omega
      go_wp2_with fail
      go_returns
      exact ⟨rfl, HB.out⟩
end Go.Proofs.Ytahfbhfmhccgoaa
