/- TraceFault of the reference, of a trace without rows. -/
import Derived.Test.YtahfbhfmhccgoaaTrc5
set_option linter.unusedSimpArgs false
set_option linter.unusedVariables false
namespace Go.Proofs.Ytahfbhfmhccgoaa
open Go.RowKit Go.ChangeShapes Go.WideShapes Go.ChangeAt Go.Joins Go.Deep
open Go.ChangeMaps (open_string shut_string)
def pwAt (evs : List Ev) (k : Nat) : Int := (evs.take k).foldl (fun p e => pwTo p e.kind) 0
theorem pwAt_next {evs : List Ev} {k : Nat} {e : Ev} (h : evs[k]? = some e) : pwAt evs (k + 1) = pwTo (pwAt evs k) e.kind := by
  unfold pwAt; rw [take_snoc h, List.foldl_append]; rfl
/-- A trace without rows whose commands are valid, in order, and allowed. -/
structure Fine (g : Ge) (nb : Nat) (evs : List Ev) (k : Nat) (e : Ev) : Prop where
  row : e.row = 0
  col : e.col = 0
  form : NoRow g e.kind e.bank
  lo : 0 ≤ e.tm
  hi : e.tm ≤ 1000000
  may : May nb (pwAt evs k) e.kind e.bank
  pair : ∀ f ∈ evs.take k, Pair f.kind e.kind
  after : ∀ f, 0 < k → evs[k - 1]? = some f → f.tm < e.tm
theorem keep_tr {W v : World} {g : Ge} {e : Ev} {z : Int} {p q b o : Nat} (kg : W.heap[p]? = some (.cells #[.int .i64 g.gr, .int .i64 g.bk, .int .i64 g.rw, .int .i64 g.cl] 43 (0, 0))) (ke : W.heap[q]? = some (.cells #[.int .i64 e.tm, .int .i64 e.kind, .int .i64 e.bank, .int .i64 0, .int .i64 0] 100 (0, 0)))
    (hf : W.cell? ⟨b, o, none⟩ = some (.int .i64 z)) (hb2 : b < W.heap.size) (hb : Below W.heap.size W v) :
    v.cell? ⟨p, 0, none⟩ = some (.int .i64 g.gr) ∧ v.cell? ⟨p, 1, none⟩ = some (.int .i64 g.bk) ∧ v.cell? ⟨p, 2, none⟩ = some (.int .i64 g.rw) ∧ v.cell? ⟨p, 3, none⟩ = some (.int .i64 g.cl) ∧ v.cell? ⟨q, 0, none⟩ = some (.int .i64 e.tm) ∧ v.cell? ⟨q, 1, none⟩ = some (.int .i64 e.kind) ∧ v.cell? ⟨q, 2, none⟩ = some (.int .i64 e.bank) ∧ v.cell? ⟨q, 3, none⟩ = some (.int .i64 0) ∧ v.cell? ⟨q, 4, none⟩ = some (.int .i64 0) ∧ v.cell? ⟨b, o, none⟩ = some (.int .i64 z) ∧ Below W.heap.size W v :=
  have hg := (hb.block p (lt_blk kg)).trans kg
  have he := (hb.block q (lt_blk ke)).trans ke
  ⟨cell_blk hg 0, cell_blk hg 1, cell_blk hg 2, cell_blk hg 3, cell_blk he 0, cell_blk he 1, cell_blk he 2, cell_blk he 3, cell_blk he 4, ((bcell hb).1 b o hb2).trans hf, hb⟩
theorem isStructs_take {α : Type} {f : α → List Value} {sz : Nat} {w : World} {a : Option Addr} {n c k : Nat} {xs : List α} (h : IsStructs f sz w a n c xs) (hk : k ≤ n) : IsStructs f sz w a k c (xs.take k) :=
  ⟨by rw [List.length_take, h.1]; omega, by have := h.2.1; omega, h.2.2.1, fun i v hv => h.2.2.2 i v (by
    have e1 : xs.flatMap f = (xs.take k).flatMap f ++ (xs.drop k).flatMap f := by rw [← List.flatMap_append, List.take_append_drop]
    rw [e1, List.getElem?_append_left (List.getElem?_eq_some_iff.1 hv).1]; exact hv)⟩
theorem keep_ev {W v : World} {t : Tm} {g : Ge} {e : Ev} {p q : Nat} (kt : W.heap[p + 1]? = some (.cells (tmC t).toArray 73 (0, 0))) (kg : W.heap[p]? = some (.cells #[.int .i64 g.gr, .int .i64 g.bk, .int .i64 g.rw, .int .i64 g.cl] 43 (0, 0))) (ke : W.heap[q]? = some (.cells #[.int .i64 e.tm, .int .i64 e.kind, .int .i64 e.bank, .int .i64 0, .int .i64 0] 100 (0, 0))) (hb : Below W.heap.size W v) :
    v.heap[p + 1]? = some (.cells (tmC t).toArray 73 (0, 0)) ∧ v.cell? ⟨p, 0, none⟩ = some (.int .i64 g.gr) ∧ v.cell? ⟨p, 1, none⟩ = some (.int .i64 g.bk) ∧ v.cell? ⟨p, 2, none⟩ = some (.int .i64 g.rw) ∧ v.cell? ⟨p, 3, none⟩ = some (.int .i64 g.cl) ∧ v.cell? ⟨q, 0, none⟩ = some (.int .i64 e.tm) ∧ v.cell? ⟨q, 1, none⟩ = some (.int .i64 e.kind) ∧ v.cell? ⟨q, 2, none⟩ = some (.int .i64 e.bank) ∧ v.cell? ⟨q, 3, none⟩ = some (.int .i64 0) ∧ v.cell? ⟨q, 4, none⟩ = some (.int .i64 0) ∧ Below W.heap.size W v :=
  have hg := (hb.block p (lt_blk kg)).trans kg
  have he := (hb.block q (lt_blk ke)).trans ke
  ⟨(hb.block (p + 1) (lt_blk kt)).trans kt, cell_blk hg 0, cell_blk hg 1, cell_blk hg 2, cell_blk hg 3, cell_blk he 0, cell_blk he 1, cell_blk he 2, cell_blk he 3, cell_blk he 4, hb⟩
/-- The load of a whole struct in a guarded operation that is wanted. -/
theorem wpList_load_on {ops : Array Oper} {rest : List Oper} {o : Oper} {a : Act} {w : World} {Q : Exit → Act → World → Prop} (hw : Region.wanted o (yielded ops a.tmps) = true) (ty : TypeId) (x : Operand) (ho : o.op = .load ty x)
    (g : Nat) (hx : a.eval x = .pointer (some ⟨g, 0, none⟩)) (t : TypeId) (cs : Array Value) (fr : Nat × Nat) (fs : Array Field) (hg : w.heap[g]? = some (.cells cs t fr))
    (hu : Try.prog.underlying ty = some (.struct fs)) (hi : (Try.prog.info? ty).map (·.size) = some cs.size)
    (h : wpList Try.prog ops Q rest (a.put o.dst (.agg cs)) w) : wpList Try.prog ops Q (o :: rest) a w :=
  wpList_step fun K hK => by simp only [hw, if_true]; exact wp_load_row ty x ho g hx t cs fr _ hg hu rfl hi (hK _ _ h)
set_option maxRecDepth 100000 in
set_option maxHeartbeats 8000000 in
theorem spec_TraceFault (g : Ge) (t : Tm) (a : Option Addr) (n c nb m : Nat) (evs : List Ev) (code : Int) (w : World) (ha : IsStructs evF 5 w a n c evs) (hg : geoOk g = true) (hnb : bankCnt g = (nb : Int)) (hok : tmOk t = true) (hn : n ≤ 1000)
    (hev : ∀ k e, evs[k]? = some e → Fine g nb evs k e) (hno : ∀ k e, k < m → evs[k]? = some e → (evs.take k).any (early t e) = false) (hm : (m = n ∧ code = 0) ∨ (m < n ∧ code = 3 ∧ ∀ e, evs[m]? = some e → (evs.take m).any (early t e) = true)) :
    Calls Try.prog 62 #[.agg #[.int .i64 g.gr, .int .i64 g.bk, .int .i64 g.rw, .int .i64 g.cl], .agg (tmC t).toArray, .slice a n c] w fun r w' => (∃ x : Int, r = .returned (.tuple #[.int .i64 code, .int .i64 x])) ∧ Below w.heap.size w w' := by
  have HA := hide ha; have HEV := hide hev; have HNO := hide hno; have HM := hide hm
  have hlen := ha.1
  have hb8 := bankCnt_bd g
  have nb8 : nb ≤ 8 := by omega
  have hmn : m ≤ n := by rcases hm with ⟨h, _⟩ | ⟨h, _⟩ <;> omega
  clear ha hev hno hm
  go_enter Try.func62, Try.ntmps62
  go_wp2_with fail
  have kt0 : ((w.alloc (.cells #[.int .i64 g.gr, .int .i64 g.bk, .int .i64 g.rw, .int .i64 g.cl] 43)).alloc (.cells (tmC t).toArray 73)).heap[w.heap.size + 1]? = some (.cells (tmC t).toArray 73 (0, 0)) := alloc_at _ _ _ (by simp only [World.size_alloc])
  have kg0 : ((w.alloc (.cells #[.int .i64 g.gr, .int .i64 g.bk, .int .i64 g.rw, .int .i64 g.cl] 43)).alloc (.cells (tmC t).toArray 73)).heap[w.heap.size]? = some (.cells #[.int .i64 g.gr, .int .i64 g.bk, .int .i64 g.rw, .int .i64 g.cl] 43 (0, 0)) := by rw [alloc_lt _ _ _ (by simp only [World.size_alloc]; omega), alloc_at _ _ _ rfl]
  have hB0 : Below w.heap.size w ((w.alloc (.cells #[.int .i64 g.gr, .int .i64 g.bk, .int .i64 g.rw, .int .i64 g.cl] 43)).alloc (.cells (tmC t).toArray 73)) := by go_grown
  refine (spec_GeometryOk_is g true hg _).mono ?_
  rintro e w1 ⟨rfl, h1⟩
  have kt1 := (h1.block _ (lt_blk kt0)).trans kt0
  have kg1 := (h1.block _ (lt_blk kg0)).trans kg0
  have hB1 := bthen hB0 h1 hB0.size
  clear kt0 kg0 hB0 h1
  have KT1 := hide kt1; have KG1 := hide kg1; have HB1 := hide hB1
  clear kt1 kg1 hB1
  go_wp2_with (refine wpList_load_on (by rfl) 73 _ rfl (w.heap.size + 1) rfl 73 (tmC t).toArray (0, 0) _ KT1.out Try.underlying73 (tmC_info t) ?_)
  refine (spec_TimingOk_is t true hok _).mono ?_
  rintro e w2 ⟨rfl, h2⟩
  have KT2 := hide ((h2.block _ (lt_blk KT1.out)).trans KT1.out)
  have KG2 := hide ((h2.block _ (lt_blk KG1.out)).trans KG1.out)
  have HB2 := hide (bthen HB1.out h2 HB1.out.size)
  clear h2 KT1 KG1 HB1
  have n2000 : ¬ (2000 : Int) < (n : Int) := by omega
  have g0 := cell_blk KG2.out 0; have g1 := cell_blk KG2.out 1; have g2 := cell_blk KG2.out 2; have g3 := cell_blk KG2.out 3
  go_wp2_with fail
  refine (spec_RankNew g nb _ hnb).mono ?_
  rintro e w3 ⟨aR, cR, rfl, hR, h3⟩
  have KT3 := hide ((h3.block _ (lt_blk KT2.out)).trans KT2.out)
  have KG3 := hide ((h3.block _ (lt_blk KG2.out)).trans KG2.out)
  have HB3 := hide (bthen HB2.out h3 HB2.out.size)
  have HR := hide (isStructs_own bkF_len (by omega) hR)
  have s3 := HB3.out.size
  have l3 := lt_blk KT3.out
  clear h3 hR KT2 KG2 HB2 g0 g1 g2 g3
  go_wp2_with fail
  go_loopw [10, 9] (fun i acts wr => ∃ k : Nat, k ≤ m ∧ i = .int .i64 k ∧ acts = .slice (some ⟨w3.heap.size + 1, 0, none⟩) 0 0 ∧ wr.heap[w3.heap.size]? = some (.cells #[.slice aR nb cR, .int .i64 (pwAt evs k)] 143 (0, 0)) ∧ Below w3.heap.size w3 wr) (fun i _ _ => n - (intOf i).toNat)
  case atStart => exact ⟨0, by omega, rfl, rfl, by rw [alloc_lt _ _ _ (by simp only [World.size_alloc]; omega), alloc_at _ _ _ rfl]; rfl, by go_grown⟩
  case round =>
    obtain ⟨k, hk, rfl, rfl, kr, hB⟩ := hrel
    have sr := hB.size
    have lr := lt_blk kr
    have HB := hide hB; have KR := hide kr
    clear hB kr
    by_cases hlt : k < n
    · obtain ⟨e, b, o, he, rfl, hlb, hcell⟩ := HA.out.get evF_len (by omega) hlt
      have hF := HEV.out k e he
      have hBw := bthen HB3.out HB.out s3
      have hcr := fun j u hj => (hBw.cell (p := ⟨b, o + (k * 5 + j), none⟩) hlb).trans (hcell j u hj)
      have q0 : wr.cell? ⟨b, o + k * 5, none⟩ = some (.int .i64 e.tm) := hcr 0 _ rfl
      have q1 : wr.cell? ⟨b, o + k * 5 + 1, none⟩ = some (.int .i64 e.kind) := hcr 1 _ rfl
      have q2 : wr.cell? ⟨b, o + k * 5 + 2, none⟩ = some (.int .i64 e.bank) := hcr 2 _ rfl
      have q3 : wr.cell? ⟨b, o + k * 5 + 3, none⟩ = some (.int .i64 0) := by rw [← hF.row]; exact hcr 3 _ rfl
      have q4 : wr.cell? ⟨b, o + k * 5 + 4, none⟩ = some (.int .i64 0) := by rw [← hF.col]; exact hcr 4 _ rfl
      have i0 : (0 : Int) ≤ (k : Int) := by omega
      have i1 : (k : Int) < (n : Int) := by omega
      have HE := hide he; have HF := hide hF; have HBw := hide hBw; have HFm := hide hF.form
      have hbt : btw e.tm 0 1000000 = true := btw_mk hF.lo hF.hi
      have sw := hBw.size
      have hek : e.kind = 5 ∨ e.kind = 6 ∨ e.kind = 7 ∨ e.kind = 8 ∨ e.kind = 9 := by rcases hF.form with ⟨h, _⟩ | ⟨h, _⟩ <;> omega
      clear he hF hBw hcr hcell
      go_upto_region 9 with fail
      clear q0 q1 q2 q3 q4
      have ke : (wr.alloc (.cells #[.int .i64 e.tm, .int .i64 e.kind, .int .i64 e.bank, .int .i64 0, .int .i64 0] 100)).heap[wr.heap.size]? = some (.cells #[.int .i64 e.tm, .int .i64 e.kind, .int .i64 e.bank, .int .i64 0, .int .i64 0] 100 (0, 0)) := alloc_at _ _ _ rfl
      have hA8 : Below wr.heap.size wr (wr.alloc (.cells #[.int .i64 e.tm, .int .i64 e.kind, .int .i64 e.bank, .int .i64 0, .int .i64 0] 100)) := Below.alloc (Below.refl _ _) (Nat.le_refl _) _
      generalize (wr.alloc (.cells #[.int .i64 e.tm, .int .i64 e.kind, .int .i64 e.bank, .int .i64 0, .int .i64 0] 100)) = W8 at *
      have s8 := hA8.size
      have l8 := lt_blk ke
      have kg8 := (hA8.block _ (by omega)).trans ((HB.out.block _ (lt_blk KG3.out)).trans KG3.out)
      have KR8 := hide ((hA8.block _ lr).trans KR.out)
      have HBW8 := hide (bthen HBw.out hA8 sw); have HA8 := hide hA8; have KE8 := hide ke
      rcases Nat.eq_zero_or_pos k with h0 | h0
      rotate_left
      obtain ⟨kp, hkp⟩ : ∃ x : Nat, k = x + 1 := ⟨k - 1, by omega⟩
      obtain ⟨f, b', o', hf, hbo, hlb', hcell'⟩ := HA.out.get evF_len (by omega) (show kp < n by omega)
      obtain ⟨rfl, rfl⟩ : b = b' ∧ o = o' := by injection hbo with hbo; injection hbo with hb1 hb2; exact ⟨hb1, hb2⟩
      have hz := (HBW8.out.cell (p := ⟨b, o + (kp * 5 + 0), none⟩) hlb).trans (hcell' 0 _ rfl)
      have hge : ¬ e.tm ≤ f.tm := by
        have := HF.out.after f h0 (by rw [show k - 1 = kp by omega]; exact hf)
        omega
      have KEEP := hide (fun (v : World) (hb : Below W8.heap.size W8 v) => keep_tr kg8 ke hz (by have := HBW8.out.size; omega) hb)
      have hk0 : (0 : Int) < (k : Int) := by omega
      have wsub : IntKind.i64.wrap ((k : Int) - 1) = (kp : Int) := (IntWalk.i64_in _ (by omega)).trans (by omega)
      have p0 : (0 : Int) ≤ (kp : Int) := by omega
      have p1 : (kp : Int) < (n : Int) := by omega
      have wkp : IntKind.i64.wrap (kp : Int) = (kp : Int) := IntWalk.i64_in _ (by omega)
      clear hkp kg8 ke hA8 hz hf hlb' hcell'
      refine wp_region_held_drew (S := fun v => v.cell? ⟨w.heap.size, 0, none⟩ = some (.int .i64 g.gr) ∧ v.cell? ⟨w.heap.size, 1, none⟩ = some (.int .i64 g.bk) ∧ v.cell? ⟨w.heap.size, 2, none⟩ = some (.int .i64 g.rw) ∧ v.cell? ⟨w.heap.size, 3, none⟩ = some (.int .i64 g.cl) ∧ v.cell? ⟨wr.heap.size, 0, none⟩ = some (.int .i64 e.tm) ∧ v.cell? ⟨wr.heap.size, 1, none⟩ = some (.int .i64 e.kind) ∧ v.cell? ⟨wr.heap.size, 2, none⟩ = some (.int .i64 e.bank) ∧ v.cell? ⟨wr.heap.size, 3, none⟩ = some (.int .i64 0) ∧ v.cell? ⟨wr.heap.size, 4, none⟩ = some (.int .i64 0) ∧ v.cell? ⟨b, o + kp * 5, none⟩ = some (.int .i64 f.tm) ∧ Below W8.heap.size W8 v) (by kernel_rfl) (KEEP.out _ (Below.refl _ _).drew) (fun hSx => ?_)
      refine wpAnyH_take (i := 0) (v := ?_) rfl (by kernel_rfl) (by kernel_rfl) (by kernel_rfl) (fun _ _ _ h => h) (Or.inl ⟨by rfl, ?_⟩) (by assumption) ?_
      rotate_left
      · intro w hSw; (try dsimp only at hSw); go_simp; try with_reducible rfl
      try simp only [Act.put, List.getElem_toArray, List.getElem_cons_zero, List.getElem_cons_succ, List.setIfInBounds_toArray, List.set_cons_zero, List.set_cons_succ]
      refine wpAnyH_take (i := 1) (v := ?_) rfl (by kernel_rfl) (by kernel_rfl) (by kernel_rfl) (fun _ _ _ h => h) (Or.inl ⟨by rfl, ?_⟩) (by assumption) ?_
      rotate_left
      · intro w hSw; (try dsimp only at hSw); go_simp; try with_reducible rfl
      try simp only [Act.put, List.getElem_toArray, List.getElem_cons_zero, List.getElem_cons_succ, List.setIfInBounds_toArray, List.set_cons_zero, List.set_cons_succ]
      refine wpAnyH_take (i := 2) (v := ?_) rfl (by kernel_rfl) (by kernel_rfl) (by kernel_rfl) (fun _ _ _ h => h) (Or.inl ⟨by rfl, ?_⟩) (by assumption) ?_
      rotate_left
      · intro w hSw; (try dsimp only at hSw); go_simp; try with_reducible rfl
      try simp only [Act.put, List.getElem_toArray, List.getElem_cons_zero, List.getElem_cons_succ, List.setIfInBounds_toArray, List.set_cons_zero, List.set_cons_succ]
      refine wpAnyH_ready (rs := [3]) (by kernel_rfl) (by simp) ?_
      refine AllReadyH.cons rfl (fun K hK => ?_) AllReadyH.nil
      go_simp
      refine (spec_CommandOk g e.kind e.bank _ hg HFm.out).mono ?_
      rintro e y1 ⟨rfl, hy1⟩
      refine hK.out _ _ (KEEP.out _ (bthenS2 hSx.2.2.2.2.2.2.2.2.2.2 hy1)) (fun hSy => ?_)
      clear hSx hK K
      have hSx := hSy; clear hSy
      try simp only [Act.put, List.getElem_toArray, List.getElem_cons_zero, List.getElem_cons_succ, List.setIfInBounds_toArray, List.set_cons_zero, List.set_cons_succ]
      refine wpAnyH_take (i := 4) (v := ?_) rfl (by kernel_rfl) (by kernel_rfl) (by kernel_rfl) (fun _ _ _ h => h) (Or.inl ⟨by rfl, ?_⟩) (by assumption) ?_
      rotate_left
      · intro w hSw; (try dsimp only at hSw); go_simp; try with_reducible rfl
      try simp only [Act.put, List.getElem_toArray, List.getElem_cons_zero, List.getElem_cons_succ, List.setIfInBounds_toArray, List.set_cons_zero, List.set_cons_succ]
      refine wpAnyH_take (i := 5) (v := ?_) rfl (by kernel_rfl) (by kernel_rfl) (by kernel_rfl) (fun _ _ _ h => h) (Or.inl ⟨by rfl, ?_⟩) (by assumption) ?_
      rotate_left
      · intro w hSw; (try dsimp only at hSw); go_simp; try with_reducible rfl
      try simp only [Act.put, List.getElem_toArray, List.getElem_cons_zero, List.getElem_cons_succ, List.setIfInBounds_toArray, List.set_cons_zero, List.set_cons_succ]
      refine wpAnyH_take (i := 6) (v := ?_) rfl (by kernel_rfl) (by kernel_rfl) (by kernel_rfl) (fun _ _ _ h => h) (Or.inl ⟨by rfl, ?_⟩) (by assumption) ?_
      rotate_left
      · intro w hSw; (try dsimp only at hSw); go_simp; try with_reducible rfl
      try simp only [Act.put, List.getElem_toArray, List.getElem_cons_zero, List.getElem_cons_succ, List.setIfInBounds_toArray, List.set_cons_zero, List.set_cons_succ]
      refine wpAnyH_take (i := 7) (v := ?_) rfl (by kernel_rfl) (by kernel_rfl) (by kernel_rfl) (fun _ _ _ h => h) (Or.inl ⟨by rfl, ?_⟩) (by assumption) ?_
      rotate_left
      · intro w hSw; (try dsimp only at hSw); go_simp; try with_reducible rfl
      try simp only [Act.put, List.getElem_toArray, List.getElem_cons_zero, List.getElem_cons_succ, List.setIfInBounds_toArray, List.set_cons_zero, List.set_cons_succ]
      refine wpAnyH_ready (rs := [8]) (by kernel_rfl) (by simp) ?_
      refine AllReadyH.cons rfl (fun K hK => ?_) AllReadyH.nil
      go_simp
      refine (btw_is 78 e.tm 0 1000000 true _ hbt (spec_l01In _ _ _ _)).mono ?_
      rintro e y2 ⟨rfl, hy2⟩
      refine hK.out _ _ (KEEP.out _ (bthenS2 hSx.2.2.2.2.2.2.2.2.2.2 hy2)) (fun hSy => ?_)
      clear hSx hK K
      have hSx := hSy; clear hSy
      try simp only [Act.put, List.getElem_toArray, List.getElem_cons_zero, List.getElem_cons_succ, List.setIfInBounds_toArray, List.set_cons_zero, List.set_cons_succ]
      refine wpAnyH_take (i := 9) (v := ?_) rfl (by kernel_rfl) (by kernel_rfl) (by kernel_rfl) (fun _ _ _ h => h) (Or.inl ⟨by rfl, ?_⟩) (by assumption) ?_
      rotate_left
      · intro w hSw; (try dsimp only at hSw); go_simp; try with_reducible rfl
      try simp only [Act.put, List.getElem_toArray, List.getElem_cons_zero, List.getElem_cons_succ, List.setIfInBounds_toArray, List.set_cons_zero, List.set_cons_succ]
      refine wpAnyH_take (i := 10) (v := ?_) rfl (by kernel_rfl) (by kernel_rfl) (by kernel_rfl) (fun _ _ _ h => h) (Or.inl ⟨by rfl, ?_⟩) (by assumption) ?_
      rotate_left
      · intro w hSw; (try dsimp only at hSw); go_simp; try with_reducible rfl
      try simp only [Act.put, List.getElem_toArray, List.getElem_cons_zero, List.getElem_cons_succ, List.setIfInBounds_toArray, List.set_cons_zero, List.set_cons_succ]
      refine wpAnyH_take (i := 11) (v := ?_) rfl (by kernel_rfl) (by kernel_rfl) (by kernel_rfl) (fun _ _ _ h => h) (Or.inl ⟨by rfl, ?_⟩) (by assumption) ?_
      rotate_left
      · intro w hSw; (try dsimp only at hSw); go_simp; try with_reducible rfl
      try simp only [Act.put, List.getElem_toArray, List.getElem_cons_zero, List.getElem_cons_succ, List.setIfInBounds_toArray, List.set_cons_zero, List.set_cons_succ]
      refine wpAnyH_take (i := 12) (v := ?_) rfl (by kernel_rfl) (by kernel_rfl) (by kernel_rfl) (fun _ _ _ h => h) (Or.inl ⟨by rfl, ?_⟩) (by assumption) ?_
      rotate_left
      · intro w hSw; (try dsimp only at hSw); go_simp; try with_reducible rfl
      try simp only [Act.put, List.getElem_toArray, List.getElem_cons_zero, List.getElem_cons_succ, List.setIfInBounds_toArray, List.set_cons_zero, List.set_cons_succ]
      refine wpAnyH_take (i := 13) (v := ?_) rfl (by kernel_rfl) (by kernel_rfl) (by kernel_rfl) (fun _ _ _ h => h) (Or.inl ⟨by rfl, ?_⟩) (by assumption) ?_
      rotate_left
      · intro w hSw; (try dsimp only at hSw); go_simp; try with_reducible rfl
      try simp only [Act.put, List.getElem_toArray, List.getElem_cons_zero, List.getElem_cons_succ, List.setIfInBounds_toArray, List.set_cons_zero, List.set_cons_succ]
      refine wpAnyH_take (i := 14) (v := ?_) rfl (by kernel_rfl) (by kernel_rfl) (by kernel_rfl) (fun _ _ _ h => h) (Or.inl ⟨by rfl, ?_⟩) (by assumption) ?_
      rotate_left
      · intro w hSw; (try dsimp only at hSw); go_simp; try with_reducible rfl
      try simp only [Act.put, List.getElem_toArray, List.getElem_cons_zero, List.getElem_cons_succ, List.setIfInBounds_toArray, List.set_cons_zero, List.set_cons_succ]
      refine wpAnyH_take (i := 15) (v := ?_) rfl (by kernel_rfl) (by kernel_rfl) (by kernel_rfl) (fun _ _ _ h => h) (Or.inl ⟨by rfl, ?_⟩) (by assumption) ?_
      rotate_left
      · intro w hSw; (try dsimp only at hSw); go_simp; try with_reducible rfl
      try simp only [Act.put, List.getElem_toArray, List.getElem_cons_zero, List.getElem_cons_succ, List.setIfInBounds_toArray, List.set_cons_zero, List.set_cons_succ]
      refine wpAnyH_take (i := 16) (v := ?_) rfl (by kernel_rfl) (by kernel_rfl) (by kernel_rfl) (fun _ _ _ h => h) (Or.inl ⟨by rfl, ?_⟩) (by assumption) ?_
      rotate_left
      · intro w hSw; (try dsimp only at hSw); go_simp; try with_reducible rfl
      try simp only [Act.put, List.getElem_toArray, List.getElem_cons_zero, List.getElem_cons_succ, List.setIfInBounds_toArray, List.set_cons_zero, List.set_cons_succ]
      refine wpAnyH_take (i := 17) (v := ?_) rfl (by kernel_rfl) (by kernel_rfl) (by kernel_rfl) (fun _ _ _ h => h) (Or.inl ⟨by rfl, ?_⟩) (by assumption) ?_
      rotate_left
      · intro w hSw; (try dsimp only at hSw); go_simp; try with_reducible rfl
      try simp only [Act.put, List.getElem_toArray, List.getElem_cons_zero, List.getElem_cons_succ, List.setIfInBounds_toArray, List.set_cons_zero, List.set_cons_succ]
      refine wpAnyH_take (i := 18) (v := ?_) rfl (by kernel_rfl) (by kernel_rfl) (by kernel_rfl) (fun _ _ _ h => h) (Or.inl ⟨by rfl, ?_⟩) (by assumption) ?_
      rotate_left
      · intro w hSw; (try dsimp only at hSw); go_simp; try with_reducible rfl
      try simp only [Act.put, List.getElem_toArray, List.getElem_cons_zero, List.getElem_cons_succ, List.setIfInBounds_toArray, List.set_cons_zero, List.set_cons_succ]
      refine wpAnyH_take (i := 19) (v := ?_) rfl (by kernel_rfl) (by kernel_rfl) (by kernel_rfl) (fun _ _ _ h => h) (Or.inl ⟨by rfl, ?_⟩) (by assumption) ?_
      rotate_left
      · intro w hSw; (try dsimp only at hSw); go_simp; try with_reducible rfl
      try simp only [Act.put, List.getElem_toArray, List.getElem_cons_zero, List.getElem_cons_succ, List.setIfInBounds_toArray, List.set_cons_zero, List.set_cons_succ]
      refine wpAnyH_take (i := 20) (v := ?_) rfl (by kernel_rfl) (by kernel_rfl) (by kernel_rfl) (fun _ _ _ h => h) (Or.inl ⟨by rfl, ?_⟩) (by assumption) ?_
      rotate_left
      · intro w hSw; (try dsimp only at hSw); go_simp; try with_reducible rfl
      try simp only [Act.put, List.getElem_toArray, List.getElem_cons_zero, List.getElem_cons_succ, List.setIfInBounds_toArray, List.set_cons_zero, List.set_cons_succ]
      refine wpAnyH_take (i := 21) (v := ?_) rfl (by kernel_rfl) (by kernel_rfl) (by kernel_rfl) (fun _ _ _ h => h) (Or.inl ⟨by rfl, ?_⟩) (by assumption) ?_
      rotate_left
      · intro w hSw; (try dsimp only at hSw); go_simp; try with_reducible rfl
      try simp only [Act.put, List.getElem_toArray, List.getElem_cons_zero, List.getElem_cons_succ, List.setIfInBounds_toArray, List.set_cons_zero, List.set_cons_succ]
      refine wpAnyH_take (i := 22) (v := ?_) rfl (by kernel_rfl) (by kernel_rfl) (by kernel_rfl) (fun _ _ _ h => h) (Or.inl ⟨by rfl, ?_⟩) (by assumption) ?_
      rotate_left
      · intro w hSw; (try dsimp only at hSw); go_simp; try with_reducible rfl
      try simp only [Act.put, List.getElem_toArray, List.getElem_cons_zero, List.getElem_cons_succ, List.setIfInBounds_toArray, List.set_cons_zero, List.set_cons_succ]
      refine wpAnyH_take (i := 23) (v := ?_) rfl (by kernel_rfl) (by kernel_rfl) (by kernel_rfl) (fun _ _ _ h => h) (Or.inl ⟨by rfl, ?_⟩) (by assumption) ?_
      rotate_left
      · intro w hSw; (try dsimp only at hSw); go_simp; try with_reducible rfl
      try simp only [Act.put, List.getElem_toArray, List.getElem_cons_zero, List.getElem_cons_succ, List.setIfInBounds_toArray, List.set_cons_zero, List.set_cons_succ]
      refine wpAnyH_take (i := 24) (v := ?_) rfl (by kernel_rfl) (by kernel_rfl) (by kernel_rfl) (fun _ _ _ h => h) (Or.inl ⟨by rfl, ?_⟩) (by assumption) ?_
      rotate_left
      · intro w hSw; (try dsimp only at hSw); go_simp; try with_reducible rfl
      try simp only [Act.put, List.getElem_toArray, List.getElem_cons_zero, List.getElem_cons_succ, List.setIfInBounds_toArray, List.set_cons_zero, List.set_cons_succ]
      refine wpAnyH_take (i := 25) (v := ?_) rfl (by kernel_rfl) (by kernel_rfl) (by kernel_rfl) (fun _ _ _ h => h) (Or.inl ⟨by rfl, ?_⟩) (by assumption) ?_
      rotate_left
      · intro w hSw; (try dsimp only at hSw); go_simp; try with_reducible rfl
      try simp only [Act.put, List.getElem_toArray, List.getElem_cons_zero, List.getElem_cons_succ, List.setIfInBounds_toArray, List.set_cons_zero, List.set_cons_succ]
      refine wpAnyH_done (by kernel_rfl) ?_ _
      rotate_left
      have KEEP := hide (fun (v : World) (hb : Below W8.heap.size W8 v) => keep_tr kg8 ke (cell_blk ke 0) l8 hb)
      have hk0 : ¬ (0 : Int) < (k : Int) := by omega
      have hk0n : ¬ 0 < k := by omega
      clear h0 kg8 ke hA8
      refine wp_region_held_drew (S := fun v => v.cell? ⟨w.heap.size, 0, none⟩ = some (.int .i64 g.gr) ∧ v.cell? ⟨w.heap.size, 1, none⟩ = some (.int .i64 g.bk) ∧ v.cell? ⟨w.heap.size, 2, none⟩ = some (.int .i64 g.rw) ∧ v.cell? ⟨w.heap.size, 3, none⟩ = some (.int .i64 g.cl) ∧ v.cell? ⟨wr.heap.size, 0, none⟩ = some (.int .i64 e.tm) ∧ v.cell? ⟨wr.heap.size, 1, none⟩ = some (.int .i64 e.kind) ∧ v.cell? ⟨wr.heap.size, 2, none⟩ = some (.int .i64 e.bank) ∧ v.cell? ⟨wr.heap.size, 3, none⟩ = some (.int .i64 0) ∧ v.cell? ⟨wr.heap.size, 4, none⟩ = some (.int .i64 0) ∧ v.cell? ⟨wr.heap.size, 0, none⟩ = some (.int .i64 e.tm) ∧ Below W8.heap.size W8 v) (by kernel_rfl) (KEEP.out _ (Below.refl _ _).drew) (fun hSx => ?_)
      refine wpAnyH_take (i := 0) (v := ?_) rfl (by kernel_rfl) (by kernel_rfl) (by kernel_rfl) (fun _ _ _ h => h) (Or.inl ⟨by rfl, ?_⟩) (by assumption) ?_
      rotate_left
      · intro w hSw; (try dsimp only at hSw); go_simp; try with_reducible rfl
      try simp only [Act.put, List.getElem_toArray, List.getElem_cons_zero, List.getElem_cons_succ, List.setIfInBounds_toArray, List.set_cons_zero, List.set_cons_succ]
      refine wpAnyH_take (i := 1) (v := ?_) rfl (by kernel_rfl) (by kernel_rfl) (by kernel_rfl) (fun _ _ _ h => h) (Or.inl ⟨by rfl, ?_⟩) (by assumption) ?_
      rotate_left
      · intro w hSw; (try dsimp only at hSw); go_simp; try with_reducible rfl
      try simp only [Act.put, List.getElem_toArray, List.getElem_cons_zero, List.getElem_cons_succ, List.setIfInBounds_toArray, List.set_cons_zero, List.set_cons_succ]
      refine wpAnyH_take (i := 2) (v := ?_) rfl (by kernel_rfl) (by kernel_rfl) (by kernel_rfl) (fun _ _ _ h => h) (Or.inl ⟨by rfl, ?_⟩) (by assumption) ?_
      rotate_left
      · intro w hSw; (try dsimp only at hSw); go_simp; try with_reducible rfl
      try simp only [Act.put, List.getElem_toArray, List.getElem_cons_zero, List.getElem_cons_succ, List.setIfInBounds_toArray, List.set_cons_zero, List.set_cons_succ]
      refine wpAnyH_ready (rs := [3]) (by kernel_rfl) (by simp) ?_
      refine AllReadyH.cons rfl (fun K hK => ?_) AllReadyH.nil
      go_simp
      refine (spec_CommandOk g e.kind e.bank _ hg HFm.out).mono ?_
      rintro e y1 ⟨rfl, hy1⟩
      refine hK.out _ _ (KEEP.out _ (bthenS2 hSx.2.2.2.2.2.2.2.2.2.2 hy1)) (fun hSy => ?_)
      clear hSx hK K
      have hSx := hSy; clear hSy
      try simp only [Act.put, List.getElem_toArray, List.getElem_cons_zero, List.getElem_cons_succ, List.setIfInBounds_toArray, List.set_cons_zero, List.set_cons_succ]
      refine wpAnyH_take (i := 4) (v := ?_) rfl (by kernel_rfl) (by kernel_rfl) (by kernel_rfl) (fun _ _ _ h => h) (Or.inl ⟨by rfl, ?_⟩) (by assumption) ?_
      rotate_left
      · intro w hSw; (try dsimp only at hSw); go_simp; try with_reducible rfl
      try simp only [Act.put, List.getElem_toArray, List.getElem_cons_zero, List.getElem_cons_succ, List.setIfInBounds_toArray, List.set_cons_zero, List.set_cons_succ]
      refine wpAnyH_take (i := 5) (v := ?_) rfl (by kernel_rfl) (by kernel_rfl) (by kernel_rfl) (fun _ _ _ h => h) (Or.inl ⟨by rfl, ?_⟩) (by assumption) ?_
      rotate_left
      · intro w hSw; (try dsimp only at hSw); go_simp; try with_reducible rfl
      try simp only [Act.put, List.getElem_toArray, List.getElem_cons_zero, List.getElem_cons_succ, List.setIfInBounds_toArray, List.set_cons_zero, List.set_cons_succ]
      refine wpAnyH_take (i := 6) (v := ?_) rfl (by kernel_rfl) (by kernel_rfl) (by kernel_rfl) (fun _ _ _ h => h) (Or.inl ⟨by rfl, ?_⟩) (by assumption) ?_
      rotate_left
      · intro w hSw; (try dsimp only at hSw); go_simp; try with_reducible rfl
      try simp only [Act.put, List.getElem_toArray, List.getElem_cons_zero, List.getElem_cons_succ, List.setIfInBounds_toArray, List.set_cons_zero, List.set_cons_succ]
      refine wpAnyH_take (i := 7) (v := ?_) rfl (by kernel_rfl) (by kernel_rfl) (by kernel_rfl) (fun _ _ _ h => h) (Or.inl ⟨by rfl, ?_⟩) (by assumption) ?_
      rotate_left
      · intro w hSw; (try dsimp only at hSw); go_simp; try with_reducible rfl
      try simp only [Act.put, List.getElem_toArray, List.getElem_cons_zero, List.getElem_cons_succ, List.setIfInBounds_toArray, List.set_cons_zero, List.set_cons_succ]
      refine wpAnyH_ready (rs := [8]) (by kernel_rfl) (by simp) ?_
      refine AllReadyH.cons rfl (fun K hK => ?_) AllReadyH.nil
      go_simp
      refine (btw_is 78 e.tm 0 1000000 true _ hbt (spec_l01In _ _ _ _)).mono ?_
      rintro e y2 ⟨rfl, hy2⟩
      refine hK.out _ _ (KEEP.out _ (bthenS2 hSx.2.2.2.2.2.2.2.2.2.2 hy2)) (fun hSy => ?_)
      clear hSx hK K
      have hSx := hSy; clear hSy
      try simp only [Act.put, List.getElem_toArray, List.getElem_cons_zero, List.getElem_cons_succ, List.setIfInBounds_toArray, List.set_cons_zero, List.set_cons_succ]
      refine wpAnyH_take (i := 9) (v := ?_) rfl (by kernel_rfl) (by kernel_rfl) (by kernel_rfl) (fun _ _ _ h => h) (Or.inl ⟨by rfl, ?_⟩) (by assumption) ?_
      rotate_left
      · intro w hSw; (try dsimp only at hSw); go_simp; try with_reducible rfl
      try simp only [Act.put, List.getElem_toArray, List.getElem_cons_zero, List.getElem_cons_succ, List.setIfInBounds_toArray, List.set_cons_zero, List.set_cons_succ]
      refine wpAnyH_take (i := 10) (v := ?_) rfl (by kernel_rfl) (by kernel_rfl) (by kernel_rfl) (fun _ _ _ h => h) (Or.inl ⟨by rfl, ?_⟩) (by assumption) ?_
      rotate_left
      · intro w hSw; (try dsimp only at hSw); go_simp; try with_reducible rfl
      try simp only [Act.put, List.getElem_toArray, List.getElem_cons_zero, List.getElem_cons_succ, List.setIfInBounds_toArray, List.set_cons_zero, List.set_cons_succ]
      refine wpAnyH_take (i := 11) (v := ?_) rfl (by kernel_rfl) (by kernel_rfl) (by kernel_rfl) (fun _ _ _ h => h) (Or.inl ⟨by rfl, ?_⟩) (by assumption) ?_
      rotate_left
      · intro w hSw; (try dsimp only at hSw); go_simp; try with_reducible rfl
      try simp only [Act.put, List.getElem_toArray, List.getElem_cons_zero, List.getElem_cons_succ, List.setIfInBounds_toArray, List.set_cons_zero, List.set_cons_succ]
      refine wpAnyH_take (i := 12) (v := ?_) rfl (by kernel_rfl) (by kernel_rfl) (by kernel_rfl) (fun _ _ _ h => h) (Or.inl ⟨by rfl, ?_⟩) (by assumption) ?_
      rotate_left
      · intro w hSw; (try dsimp only at hSw); go_simp; try with_reducible rfl
      try simp only [Act.put, List.getElem_toArray, List.getElem_cons_zero, List.getElem_cons_succ, List.setIfInBounds_toArray, List.set_cons_zero, List.set_cons_succ]
      refine wpAnyH_take (i := 13) (v := ?_) rfl (by kernel_rfl) (by kernel_rfl) (by kernel_rfl) (fun _ _ _ h => h) (Or.inl ⟨by rfl, ?_⟩) (by assumption) ?_
      rotate_left
      · intro w hSw; (try dsimp only at hSw); go_simp; try with_reducible rfl
      try simp only [Act.put, List.getElem_toArray, List.getElem_cons_zero, List.getElem_cons_succ, List.setIfInBounds_toArray, List.set_cons_zero, List.set_cons_succ]
      refine wpAnyH_take (i := 14) (v := ?_) rfl (by kernel_rfl) (by kernel_rfl) (by kernel_rfl) (fun _ _ _ h => h) (Or.inl ⟨by rfl, ?_⟩) (by assumption) ?_
      rotate_left
      · intro w hSw; (try dsimp only at hSw); go_simp; try with_reducible rfl
      try simp only [Act.put, List.getElem_toArray, List.getElem_cons_zero, List.getElem_cons_succ, List.setIfInBounds_toArray, List.set_cons_zero, List.set_cons_succ]
      refine wpAnyH_take (i := 15) (v := undef) rfl (by kernel_rfl) (by kernel_rfl) (by kernel_rfl) (fun _ _ _ h => h) (Or.inr ⟨by rfl, rfl⟩) (by assumption) ?_
      try simp only [Act.put, List.getElem_toArray, List.getElem_cons_zero, List.getElem_cons_succ, List.setIfInBounds_toArray, List.set_cons_zero, List.set_cons_succ]
      refine wpAnyH_take (i := 16) (v := undef) rfl (by kernel_rfl) (by kernel_rfl) (by kernel_rfl) (fun _ _ _ h => h) (Or.inr ⟨by rfl, rfl⟩) (by assumption) ?_
      try simp only [Act.put, List.getElem_toArray, List.getElem_cons_zero, List.getElem_cons_succ, List.setIfInBounds_toArray, List.set_cons_zero, List.set_cons_succ]
      refine wpAnyH_take (i := 17) (v := undef) rfl (by kernel_rfl) (by kernel_rfl) (by kernel_rfl) (fun _ _ _ h => h) (Or.inr ⟨by rfl, rfl⟩) (by assumption) ?_
      try simp only [Act.put, List.getElem_toArray, List.getElem_cons_zero, List.getElem_cons_succ, List.setIfInBounds_toArray, List.set_cons_zero, List.set_cons_succ]
      refine wpAnyH_take (i := 18) (v := undef) rfl (by kernel_rfl) (by kernel_rfl) (by kernel_rfl) (fun _ _ _ h => h) (Or.inr ⟨by rfl, rfl⟩) (by assumption) ?_
      try simp only [Act.put, List.getElem_toArray, List.getElem_cons_zero, List.getElem_cons_succ, List.setIfInBounds_toArray, List.set_cons_zero, List.set_cons_succ]
      refine wpAnyH_take (i := 19) (v := undef) rfl (by kernel_rfl) (by kernel_rfl) (by kernel_rfl) (fun _ _ _ h => h) (Or.inr ⟨by rfl, rfl⟩) (by assumption) ?_
      try simp only [Act.put, List.getElem_toArray, List.getElem_cons_zero, List.getElem_cons_succ, List.setIfInBounds_toArray, List.set_cons_zero, List.set_cons_succ]
      refine wpAnyH_take (i := 20) (v := undef) rfl (by kernel_rfl) (by kernel_rfl) (by kernel_rfl) (fun _ _ _ h => h) (Or.inr ⟨by rfl, rfl⟩) (by assumption) ?_
      try simp only [Act.put, List.getElem_toArray, List.getElem_cons_zero, List.getElem_cons_succ, List.setIfInBounds_toArray, List.set_cons_zero, List.set_cons_succ]
      refine wpAnyH_take (i := 21) (v := undef) rfl (by kernel_rfl) (by kernel_rfl) (by kernel_rfl) (fun _ _ _ h => h) (Or.inr ⟨by rfl, rfl⟩) (by assumption) ?_
      try simp only [Act.put, List.getElem_toArray, List.getElem_cons_zero, List.getElem_cons_succ, List.setIfInBounds_toArray, List.set_cons_zero, List.set_cons_succ]
      refine wpAnyH_take (i := 22) (v := undef) rfl (by kernel_rfl) (by kernel_rfl) (by kernel_rfl) (fun _ _ _ h => h) (Or.inr ⟨by rfl, rfl⟩) (by assumption) ?_
      try simp only [Act.put, List.getElem_toArray, List.getElem_cons_zero, List.getElem_cons_succ, List.setIfInBounds_toArray, List.set_cons_zero, List.set_cons_succ]
      refine wpAnyH_take (i := 23) (v := undef) rfl (by kernel_rfl) (by kernel_rfl) (by kernel_rfl) (fun _ _ _ h => h) (Or.inr ⟨by rfl, rfl⟩) (by assumption) ?_
      try simp only [Act.put, List.getElem_toArray, List.getElem_cons_zero, List.getElem_cons_succ, List.setIfInBounds_toArray, List.set_cons_zero, List.set_cons_succ]
      refine wpAnyH_take (i := 24) (v := ?_) rfl (by kernel_rfl) (by kernel_rfl) (by kernel_rfl) (fun _ _ _ h => h) (Or.inl ⟨by rfl, ?_⟩) (by assumption) ?_
      rotate_left
      · intro w hSw; (try dsimp only at hSw); go_simp; try with_reducible rfl
      try simp only [Act.put, List.getElem_toArray, List.getElem_cons_zero, List.getElem_cons_succ, List.setIfInBounds_toArray, List.set_cons_zero, List.set_cons_succ]
      refine wpAnyH_take (i := 25) (v := ?_) rfl (by kernel_rfl) (by kernel_rfl) (by kernel_rfl) (fun _ _ _ h => h) (Or.inl ⟨by rfl, ?_⟩) (by assumption) ?_
      rotate_left
      · intro w hSw; (try dsimp only at hSw); go_simp; try with_reducible rfl
      try simp only [Act.put, List.getElem_toArray, List.getElem_cons_zero, List.getElem_cons_succ, List.setIfInBounds_toArray, List.set_cons_zero, List.set_cons_succ]
      refine wpAnyH_done (by kernel_rfl) ?_ _
      all_goals
        have HY := hide hSx.2.2.2.2.2.2.2.2.2.2
        clear hSx KEEP
        have ly := HY.out.size
        have KR2 := hide ((HY.out.block _ (lt_blk KR8.out)).trans KR8.out)
        have KE2 := hide ((HY.out.block _ (lt_blk KE8.out)).trans KE8.out)
        have HB8 := hide (bthen HB.out HA8.out sr)
        have HB9 := hide (bthen HB8.out HY.out (by have := HA8.out.size; omega))
        have HBW9 := hide (bthen HBW8.out HY.out HBW8.out.size)
        have r0 := cell_blk KR2.out 0; have r1 := cell_blk KR2.out 1
        have x1 := cell_blk KE2.out 1; have x2 := cell_blk KE2.out 2; have x3 := cell_blk KE2.out 3; have x4 := cell_blk KE2.out 4
        go_wp2_with fail
        refine (spec_l08May aR nb cR (pwAt evs k) e.kind e.bank _ (HR.out.below HB9.out (Nat.le_refl _)) nb8 HF.out.may).mono ?_
        rintro ex y3 ⟨rfl, hy3⟩
        have l3' := hy3.size
        have KR3 := hide ((hy3.block _ (lt_blk KR2.out)).trans KR2.out)
        have KE3 := hide ((hy3.block _ (lt_blk KE2.out)).trans KE2.out)
        have HB10 := hide (bthen HB9.out hy3 (by omega))
        clear r0 r1 x1 x2 x3 x4 hy3
        have x1 := cell_blk KE3.out 1; have x2 := cell_blk KE3.out 2; have x3 := cell_blk KE3.out 3; have x4 := cell_blk KE3.out 4
        go_wp2_with fail
        refine (spec_l08Do w3.heap.size aR nb cR (pwAt evs k) e.kind e.bank _ KR3.out hek).mono ?_
        rintro ex y4 ⟨rfl, kr4, hy4⟩
        clear x1 x2 x3 x4
        have KR4 := hide kr4
        have l4' := hy4.size
        have KE4 := hide ((hy4.block _ (lt_blk KE3.out) (by simp; omega)).trans KE3.out)
        have HB11 := hide (show Below w3.heap.size w3 y4 from HB10.out.grown hy4 (by omega) (fun q hq => by injection hq with hq; omega))
        clear kr4 hy4
        obtain ⟨cl, hcl⟩ : ∃ cl, (evs.take k).any (early t ⟨e.tm, e.kind, e.bank, 0, 0⟩) = cl := ⟨_, rfl⟩
        have HCL := hide hcl
        have HBY := hide (bthen HB3.out HB11.out s3)
        have hca : k ≤ c := by have := HA.out.2.1; omega
        have KEEP4 := hide (fun (v : World) (hb : Below y4.heap.size y4 v) => keep_ev (g := g) ((HB11.out.block _ (lt_blk KT3.out)).trans KT3.out) ((HB11.out.block _ (lt_blk KG3.out)).trans KG3.out) KE4.out hb)
        have HTK := hide (fun (v : World) (hb : Below y4.heap.size y4 v) => (isStructs_take HA.out (show k ≤ n by omega)).below (bthen HBY.out hb HBY.out.size) (Nat.le_refl _))
        have HPR := hide (show ∀ f ∈ evs.take k, (0 ≤ f.tm ∧ f.tm ≤ 1000000) ∧ Pair f.kind e.kind from fun f hf => by
          obtain ⟨j, hj⟩ := List.getElem?_of_mem (List.mem_of_mem_take hf)
          have := HEV.out j f hj
          exact ⟨⟨this.lo, this.hi⟩, HF.out.pair f hf⟩)
        have HTM := hide (And.intro HF.out.lo HF.out.hi)
        have hk1 : ¬ e.kind = 1 := by omega
        have j0 : (0 : Int) ≤ (k : Int) := by omega
        have j1 : (k : Int) ≤ (c : Int) := by omega
        clear hcl
        go_wp2_with fail
        refine wp_region_held_drew (S := fun v => v.heap[w.heap.size + 1]? = some (.cells (tmC t).toArray 73 (0, 0)) ∧ v.cell? ⟨w.heap.size, 0, none⟩ = some (.int .i64 g.gr) ∧ v.cell? ⟨w.heap.size, 1, none⟩ = some (.int .i64 g.bk) ∧ v.cell? ⟨w.heap.size, 2, none⟩ = some (.int .i64 g.rw) ∧ v.cell? ⟨w.heap.size, 3, none⟩ = some (.int .i64 g.cl) ∧ v.cell? ⟨wr.heap.size, 0, none⟩ = some (.int .i64 e.tm) ∧ v.cell? ⟨wr.heap.size, 1, none⟩ = some (.int .i64 e.kind) ∧ v.cell? ⟨wr.heap.size, 2, none⟩ = some (.int .i64 e.bank) ∧ v.cell? ⟨wr.heap.size, 3, none⟩ = some (.int .i64 0) ∧ v.cell? ⟨wr.heap.size, 4, none⟩ = some (.int .i64 0) ∧ Below y4.heap.size y4 v) (by kernel_rfl) (KEEP4.out _ (Below.refl _ _).drew) (fun hSx => ?_)
        refine wpAnyH_take (i := 0) (v := ?_) rfl (by kernel_rfl) (by kernel_rfl) (by kernel_rfl) (fun _ _ _ h => h) (Or.inl ⟨by rfl, ?_⟩) (by assumption) ?_
        rotate_left
        · intro w hSw; (try dsimp only at hSw); go_simp; try with_reducible rfl
        try simp only [Act.put, List.getElem_toArray, List.getElem_cons_zero, List.getElem_cons_succ, List.setIfInBounds_toArray, List.set_cons_zero, List.set_cons_succ]
        refine wpAnyH_take (i := 1) rfl (by kernel_rfl) (by kernel_rfl) (by kernel_rfl) (fun _ _ _ h => h) (yieldsIf_load_row (by rfl) 73 _ rfl (w.heap.size + 1) rfl 73 (tmA t) (0, 0) _ (fun _ h => h.1) Try.underlying73 (tmC_info t)) (by assumption) ?_
        try simp only [Act.put, List.getElem_toArray, List.getElem_cons_zero, List.getElem_cons_succ, List.setIfInBounds_toArray, List.set_cons_zero, List.set_cons_succ]
        refine wpAnyH_take (i := 2) (v := ?_) rfl (by kernel_rfl) (by kernel_rfl) (by kernel_rfl) (fun _ _ _ h => h) (Or.inl ⟨by rfl, ?_⟩) (by assumption) ?_
        rotate_left
        · intro w hSw; (try dsimp only at hSw); go_simp; try with_reducible rfl
        try simp only [Act.put, List.getElem_toArray, List.getElem_cons_zero, List.getElem_cons_succ, List.setIfInBounds_toArray, List.set_cons_zero, List.set_cons_succ]
        refine wpAnyH_take (i := 3) (v := ?_) rfl (by kernel_rfl) (by kernel_rfl) (by kernel_rfl) (fun _ _ _ h => h) (Or.inl ⟨by rfl, ?_⟩) (by assumption) ?_
        rotate_left
        · intro w hSw; (try dsimp only at hSw); go_simp; try with_reducible rfl
        try simp only [Act.put, List.getElem_toArray, List.getElem_cons_zero, List.getElem_cons_succ, List.setIfInBounds_toArray, List.set_cons_zero, List.set_cons_succ]
        refine wpAnyH_take (i := 4) (v := ?_) rfl (by kernel_rfl) (by kernel_rfl) (by kernel_rfl) (fun _ _ _ h => h) (Or.inl ⟨by rfl, ?_⟩) (by assumption) ?_
        rotate_left
        · intro w hSw; (try dsimp only at hSw); go_simp; try with_reducible rfl
        try simp only [Act.put, List.getElem_toArray, List.getElem_cons_zero, List.getElem_cons_succ, List.setIfInBounds_toArray, List.set_cons_zero, List.set_cons_succ]
        refine wpAnyH_take (i := 5) (v := ?_) rfl (by kernel_rfl) (by kernel_rfl) (by kernel_rfl) (fun _ _ _ h => h) (Or.inl ⟨by rfl, ?_⟩) (by assumption) ?_
        rotate_left
        · intro w hSw; (try dsimp only at hSw); go_simp; try with_reducible rfl
        try simp only [Act.put, List.getElem_toArray, List.getElem_cons_zero, List.getElem_cons_succ, List.setIfInBounds_toArray, List.set_cons_zero, List.set_cons_succ]
        refine wpAnyH_ready (rs := [6]) (by kernel_rfl) (by simp) ?_
        refine AllReadyH.cons rfl (fun K hK => ?_) AllReadyH.nil
        go_simp
        refine (spec_l09Close g t (some ⟨b, o, none⟩) k c (evs.take k) ⟨e.tm, e.kind, e.bank, 0, 0⟩ cl _ (HTK.out _ hSx.2.2.2.2.2.2.2.2.2.2) hok (by omega) HPR.out HTM.out HCL.out).mono ?_
        rintro e y1 ⟨rfl, hy1⟩
        refine hK.out _ _ (KEEP4.out _ (bthenS2 hSx.2.2.2.2.2.2.2.2.2.2 hy1)) (fun hSy => ?_)
        clear hSx hK K
        have hSx := hSy; clear hSy
        try simp only [Act.put, List.getElem_toArray, List.getElem_cons_zero, List.getElem_cons_succ, List.setIfInBounds_toArray, List.set_cons_zero, List.set_cons_succ]
        refine wpAnyH_done (by kernel_rfl) ?_ _
        have HY5 := hide hSx.2.2.2.2.2.2.2.2.2.2
        have ck := hSx.2.2.2.2.2.2.1
        clear hSx KEEP4 HTK
        have KR5 := hide ((HY5.out.block _ (lt_blk KR4.out)).trans KR4.out)
        have HB12 := hide (bthen HB11.out HY5.out HB11.out.size)
        rcases Nat.lt_or_ge k m with hkm | hkm
        · obtain rfl : cl = false := by rw [← HCL.out]; exact HNO.out k e hkm HE.out
          go_wp2_with fail
          go_roundw
          case rel => exact ⟨k + 1, by omega, by go_num, rfl, by rw [pwAt_next HE.out]; exact KR5.out, HB12.out⟩
          case measure => simp [intOf]; omega
        · have hkm2 : k = m := by omega
          rcases HM.out with ⟨hx, _⟩ | ⟨_, hx2, hx3⟩
          · exact absurd hx (by omega)
          · obtain rfl : cl = true := by
              rw [← HCL.out, hkm2]
              exact hx3 e (by rw [← hkm2]; exact HE.out)
            subst hx2
            clear hkm2 hx3 hkm
            go_wp2_with fail
            go_returns
            exact ⟨⟨_, rfl⟩, bthen HB3.out HB12.out s3⟩
    · have hkn : k = n := by omega
      have hc0 : code = 0 := by rcases HM.out with ⟨_, h⟩ | ⟨h, _⟩ <;> omega
      subst hc0
      have HV := hide (bthen HB3.out HB.out s3)
      have hlt2 : ¬ (k : Int) < (n : Int) := by omega
      go_wp2_with fail
      go_returns
      exact ⟨⟨_, rfl⟩, HV.out⟩
end Go.Proofs.Ytahfbhfmhccgoaa
