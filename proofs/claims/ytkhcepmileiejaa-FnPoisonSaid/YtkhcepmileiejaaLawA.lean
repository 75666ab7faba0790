/- Small words for the exact laws over a geometry and an array. -/
import Derived.Test.YtkhcepmileiejaaGets
import Derived.Test.YtkhcepmileiejaaCellsH
set_option linter.unusedSimpArgs false
set_option linter.unusedVariables false
namespace Go.Proofs.Ytkhcepmileiejaa
open Go.RowKit Go.ChangeShapes Go.WideShapes Go.ChangeAt Go.Joins Go.Deep
open Go.ChangeMaps (open_string shut_string)
set_option maxHeartbeats 400000 in
theorem laws_toGeometry (g : Ge) (w : World) :
    Calls Try.prog 12 #[.agg #[.int .i64 g.gr, .int .i64 g.bk, .int .i64 g.rw, .int .i64 g.cl]] w fun e w' => e = .returned (.agg #[.int .i64 g.gr, .int .i64 g.bk, .int .i64 g.rw, .int .i64 g.cl]) ∧ Below w.heap.size w w' := by
  go_enter Try.func12, Try.ntmps12
  go_wp2_with fail
  refine bodyPost_ret (by simp [results, Try.results12, go_sem, *]; try rfl) rfl ?_
  exact ⟨rfl, by go_grown⟩
set_option maxHeartbeats 400000 in
theorem laws_toAddr (x : Ad) (w : World) :
    Calls Try.prog 21 #[.agg #[.int .i64 x.b, .int .i64 x.r, .int .i64 x.c]] w fun e w' => e = .returned (.agg #[.int .i64 x.b, .int .i64 x.r, .int .i64 x.c]) ∧ Below w.heap.size w w' := by
  go_enter Try.func21, Try.ntmps21
  go_wp2_with fail
  refine bodyPost_ret (by simp [results, Try.results21, go_sem, *]; try rfl) rfl ?_
  exact ⟨rfl, by go_grown⟩
/-- How much there is in an array, told by its contents. -/
def conTot (C : Con) : Nat := C.cs.length + (C.cs.map (fun c => c.1.length)).sum + C.ag.length + C.ht.length
theorem tot_con {w : World} {A : Ar} (hA : IsAr w A) : A.tot = conTot A.con := by
  have h1 : sumC A.es = (A.con.cs.map (fun c => c.1.length)).sum := by
    unfold sumC Ar.con
    rw [List.map_map]
    congr 1
    apply List.map_congr_left
    intro e he
    exact (hA.1.2 e he).1.symm
  have h2 : A.con.cs.length = A.n := by simp only [Ar.con, List.length_map]; exact hA.1.1.1
  have h3 : A.con.ag.length = A.ag.1.n := hA.2.1.1
  have h4 : A.con.ht.length = A.ht.1.n := hA.2.2.1
  unfold Ar.tot conTot
  rw [h1, h2, h3, h4]
theorem sum_set {xs : List Nat} {k v : Nat} (h : xs[k]? = some v) : (xs.set k v).sum = xs.sum := by rw [set_same h]
theorem conTot_set {C : Con} {k : Nat} {c : List Int × Bool} (h : ∀ d, C.cs[k]? = some d → d.1.length = c.1.length) : conTot (setC C k c) = conTot C := by
  unfold conTot setC
  simp only [List.length_set, List.map_set]
  cases hk : C.cs[k]? with
  | none => rw [List.set_eq_of_length_le (by rw [List.length_map]; exact List.getElem?_eq_none_iff.1 hk)]
  | some d => rw [sum_set (by rw [List.getElem?_map, hk, ← h d hk]; rfl)]
theorem getC_len (c : List Int × Bool) (h : symOkB c.1 11 = true) : (getC c).1.1.length = c.1.length := by
  obtain ⟨h1, h2, h3, h4⟩ := symOk_of (n := 11) h
  obtain ⟨g1, g2, _⟩ := corrW_good h2 h3
  unfold getC
  split
  · rfl
  · split
    · rfl
    · simp only [ints_len, g2, h4]
theorem rdAt_tot {g : Ge} {C : Con} (hok : arOk g C = true) {k : Nat} (hk : k < C.cs.length) : conTot (rdAt C k).1 = conTot C := by
  unfold rdAt
  refine conTot_set fun d hd => ?_
  have hd2 : C.cs.getD k ([], false) = d := by rw [List.getD_eq_getElem?_getD, hd]; rfl
  rw [hd2]
  exact (getC_len d ((arOk_of hok).2.2.2.2.1 d (List.mem_of_getElem? hd))).symm
theorem getA_tot (g : Ge) (C : Con) (x : Ad) : conTot (getA g C x).1 = conTot C := by
  unfold getA
  split
  · next h => exact rdAt_tot h.1 (by have := adIdx_bd h.2; have := (arOk_of h.1).2.1; omega)
  · rfl
theorem scrubL_tot (g : Ge) (C : Con) (n : Int) : conTot (scrubL g C n).1 = conTot C := by
  unfold scrubL
  split
  · next h => exact rdAt_tot h.1 (by have := btw_true.1 h.2; have := (arOk_of h.1).2.1; omega)
  · rfl
theorem blk_below {n b : Nat} {v v' : World} {o : Obj} (hb : Below n v v') (h : v.heap[b]? = some o) (hn : b < n) : v'.heap[b]? = some o := (hb.block b hn).trans h
theorem blk_save {lo hi b : Nat} {v v' : World} {o : Obj} (hs : Save lo hi v v') (h : v.heap[b]? = some o) (hn : b < lo ∨ hi ≤ b) : v'.heap[b]? = some o := (hs.block b (lt_blk h) hn).trans h
theorem Save.belowB {lo hi B : Nat} {a b : World} (h : Save lo hi a b) (h1 : B ≤ lo) (h2 : B ≤ a.heap.size) : Below B a b := ⟨h.os, h.tape, h.output, h.size, fun k hk => h.block k (by omega) (.inl (by omega))⟩
theorem bthenS {W v y : World} (h : Below W.heap.size W v) (k : Below v.heap.size v y) : Below W.heap.size W y := bthen h k h.size
theorem sub_drew {W v y : World} (h : Below W.heap.size W (World.drew v)) : Below W.heap.size W v := ⟨h.os, h.tape, h.output, h.size, h.block⟩
/-- What a statement 'w := F(..)' of a law leaves: the result's header in a block b, its blocks from lo to hi. -/
structure Kept (W v : World) (P : Ar) (b lo hi : Nat) (C : Con) : Prop where
  below : Below W.heap.size W v
  blk : v.heap[b]? = some (.cells #[.slice P.a P.n P.c, .slice P.ag.1.a P.ag.1.n P.ag.1.c, .slice P.ht.1.a P.ht.1.n P.ht.1.c] 34 (0, 0))
  bl : W.heap.size ≤ b
  ll : W.heap.size ≤ lo
  hh : hi ≤ v.heap.size
  own : OwnAr lo hi v P
  con : P.con = C
  off : b < lo ∨ hi ≤ b
theorem set3 {w : World} {p : Nat} {u0 u1 u2 v0 v1 v2 : Value} {t : TypeId} (h : w.heap[p]? = some (.cells #[u0, u1, u2] t (0, 0))) :
    (((w.setCell ⟨p, 0, none⟩ v0).setCell ⟨p, 1, none⟩ v1).setCell ⟨p, 2, none⟩ v2).heap[p]? = some (.cells #[v0, v1, v2] t (0, 0)) := set_lit (set_lit (set_lit h rfl) rfl) rfl
/-- The header's block was made early: filled at the end. -/
theorem Kept.early {W Y z : World} {P : Ar} {b : Nat} {C : Con} (hz : Below W.heap.size W z) (hY : W.heap.size ≤ Y.heap.size) (ho : OwnAr Y.heap.size z.heap.size z P) (hc : P.con = C) (hb : z.heap[b]? = some (.cells #[.slice none 0 0, .slice none 0 0, .slice none 0 0] 34 (0, 0))) (h1 : W.heap.size ≤ b) (h2 : b < Y.heap.size) :
    Kept W (((z.setCell ⟨b, 0, none⟩ (.slice P.a P.n P.c)).setCell ⟨b, 1, none⟩ (.slice P.ag.1.a P.ag.1.n P.ag.1.c)).setCell ⟨b, 2, none⟩ (.slice P.ht.1.a P.ht.1.n P.ht.1.c)) P b Y.heap.size z.heap.size C :=
  ⟨((hz.setCell (p := ⟨b, 0, none⟩) h1 _).setCell (p := ⟨b, 1, none⟩) h1 _).setCell (p := ⟨b, 2, none⟩) h1 _, set3 hb, h1, hY, by simp, ((ho.set_off (.inl h2) _).set_off (.inl h2) _).set_off (.inl h2) _, hc, .inl h2⟩
/-- The header's block was made last. -/
theorem Kept.late {W Y z : World} {P : Ar} {b : Nat} {C : Con} (hz : Below W.heap.size W z) (hY : W.heap.size ≤ Y.heap.size) (ho : OwnAr Y.heap.size z.heap.size z P) (hc : P.con = C) (hb : b = z.heap.size) :
    Kept W (z.alloc (.cells #[.slice P.a P.n P.c, .slice P.ag.1.a P.ag.1.n P.ag.1.c, .slice P.ht.1.a P.ht.1.n P.ht.1.c] 34)) P b Y.heap.size z.heap.size C := by
  subst hb
  exact ⟨Below.alloc hz hz.size _, alloc_at _ _ _ rfl, hz.size, hY, by simp, ho.below (Below.alloc (Below.refl _ _) (Nat.le_refl _) _) (Nat.le_refl _), hc, .inr (Nat.le_refl _)⟩
theorem keep_gAx {W v : World} {g : Ge} {b0 : Nat} (k0 : W.heap[b0]? = some (.cells #[.int .i64 g.gr, .int .i64 g.bk, .int .i64 g.rw, .int .i64 g.cl] 23 (0, 0))) {A : Ar} {b1 : Nat} (k1 : W.heap[b1]? = some (.cells #[.slice A.a A.n A.c, .slice A.ag.1.a A.ag.1.n A.ag.1.c, .slice A.ht.1.a A.ht.1.n A.ht.1.c] 27 (0, 0))) {x : Ad} {b2 : Nat} (k2 : W.heap[b2]? = some (.cells #[.int .i64 x.b, .int .i64 x.r, .int .i64 x.c] 42 (0, 0))) (hb : Below W.heap.size W v) : v.cell? ⟨b0, 0, none⟩ = some (.int .i64 g.gr) ∧ v.cell? ⟨b0, 1, none⟩ = some (.int .i64 g.bk) ∧ v.cell? ⟨b0, 2, none⟩ = some (.int .i64 g.rw) ∧ v.cell? ⟨b0, 3, none⟩ = some (.int .i64 g.cl) ∧ v.cell? ⟨b1, 0, none⟩ = some (.slice A.a A.n A.c) ∧ v.cell? ⟨b1, 1, none⟩ = some (.slice A.ag.1.a A.ag.1.n A.ag.1.c) ∧ v.cell? ⟨b1, 2, none⟩ = some (.slice A.ht.1.a A.ht.1.n A.ht.1.c) ∧ v.cell? ⟨b2, 0, none⟩ = some (.int .i64 x.b) ∧ v.cell? ⟨b2, 1, none⟩ = some (.int .i64 x.r) ∧ v.cell? ⟨b2, 2, none⟩ = some (.int .i64 x.c) ∧ Below W.heap.size W v :=
  ⟨cell_blk (blk_below hb k0 (lt_blk k0)) 0, cell_blk (blk_below hb k0 (lt_blk k0)) 1, cell_blk (blk_below hb k0 (lt_blk k0)) 2, cell_blk (blk_below hb k0 (lt_blk k0)) 3, cell_blk (blk_below hb k1 (lt_blk k1)) 0, cell_blk (blk_below hb k1 (lt_blk k1)) 1, cell_blk (blk_below hb k1 (lt_blk k1)) 2, cell_blk (blk_below hb k2 (lt_blk k2)) 0, cell_blk (blk_below hb k2 (lt_blk k2)) 1, cell_blk (blk_below hb k2 (lt_blk k2)) 2, hb⟩
theorem keep_gA {W v : World} {g : Ge} {b0 : Nat} (k0 : W.heap[b0]? = some (.cells #[.int .i64 g.gr, .int .i64 g.bk, .int .i64 g.rw, .int .i64 g.cl] 23 (0, 0))) {A : Ar} {b1 : Nat} (k1 : W.heap[b1]? = some (.cells #[.slice A.a A.n A.c, .slice A.ag.1.a A.ag.1.n A.ag.1.c, .slice A.ht.1.a A.ht.1.n A.ht.1.c] 27 (0, 0))) (hb : Below W.heap.size W v) : v.cell? ⟨b0, 0, none⟩ = some (.int .i64 g.gr) ∧ v.cell? ⟨b0, 1, none⟩ = some (.int .i64 g.bk) ∧ v.cell? ⟨b0, 2, none⟩ = some (.int .i64 g.rw) ∧ v.cell? ⟨b0, 3, none⟩ = some (.int .i64 g.cl) ∧ v.cell? ⟨b1, 0, none⟩ = some (.slice A.a A.n A.c) ∧ v.cell? ⟨b1, 1, none⟩ = some (.slice A.ag.1.a A.ag.1.n A.ag.1.c) ∧ v.cell? ⟨b1, 2, none⟩ = some (.slice A.ht.1.a A.ht.1.n A.ht.1.c) ∧ Below W.heap.size W v :=
  ⟨cell_blk (blk_below hb k0 (lt_blk k0)) 0, cell_blk (blk_below hb k0 (lt_blk k0)) 1, cell_blk (blk_below hb k0 (lt_blk k0)) 2, cell_blk (blk_below hb k0 (lt_blk k0)) 3, cell_blk (blk_below hb k1 (lt_blk k1)) 0, cell_blk (blk_below hb k1 (lt_blk k1)) 1, cell_blk (blk_below hb k1 (lt_blk k1)) 2, hb⟩
theorem keep_gxX {W v : World} {g : Ge} {b0 : Nat} (k0 : W.heap[b0]? = some (.cells #[.int .i64 g.gr, .int .i64 g.bk, .int .i64 g.rw, .int .i64 g.cl] 23 (0, 0))) {x : Ad} {b2 : Nat} (k2 : W.heap[b2]? = some (.cells #[.int .i64 x.b, .int .i64 x.r, .int .i64 x.c] 42 (0, 0))) {X : Ar} {b3 : Nat} (k3 : W.heap[b3]? = some (.cells #[.slice X.a X.n X.c, .slice X.ag.1.a X.ag.1.n X.ag.1.c, .slice X.ht.1.a X.ht.1.n X.ht.1.c] 34 (0, 0))) (hb : Below W.heap.size W v) : v.cell? ⟨b0, 0, none⟩ = some (.int .i64 g.gr) ∧ v.cell? ⟨b0, 1, none⟩ = some (.int .i64 g.bk) ∧ v.cell? ⟨b0, 2, none⟩ = some (.int .i64 g.rw) ∧ v.cell? ⟨b0, 3, none⟩ = some (.int .i64 g.cl) ∧ v.cell? ⟨b2, 0, none⟩ = some (.int .i64 x.b) ∧ v.cell? ⟨b2, 1, none⟩ = some (.int .i64 x.r) ∧ v.cell? ⟨b2, 2, none⟩ = some (.int .i64 x.c) ∧ v.cell? ⟨b3, 0, none⟩ = some (.slice X.a X.n X.c) ∧ v.cell? ⟨b3, 1, none⟩ = some (.slice X.ag.1.a X.ag.1.n X.ag.1.c) ∧ v.cell? ⟨b3, 2, none⟩ = some (.slice X.ht.1.a X.ht.1.n X.ht.1.c) ∧ Below W.heap.size W v :=
  ⟨cell_blk (blk_below hb k0 (lt_blk k0)) 0, cell_blk (blk_below hb k0 (lt_blk k0)) 1, cell_blk (blk_below hb k0 (lt_blk k0)) 2, cell_blk (blk_below hb k0 (lt_blk k0)) 3, cell_blk (blk_below hb k2 (lt_blk k2)) 0, cell_blk (blk_below hb k2 (lt_blk k2)) 1, cell_blk (blk_below hb k2 (lt_blk k2)) 2, cell_blk (blk_below hb k3 (lt_blk k3)) 0, cell_blk (blk_below hb k3 (lt_blk k3)) 1, cell_blk (blk_below hb k3 (lt_blk k3)) 2, hb⟩
theorem keep_gX {W v : World} {g : Ge} {b0 : Nat} (k0 : W.heap[b0]? = some (.cells #[.int .i64 g.gr, .int .i64 g.bk, .int .i64 g.rw, .int .i64 g.cl] 23 (0, 0))) {X : Ar} {b3 : Nat} (k3 : W.heap[b3]? = some (.cells #[.slice X.a X.n X.c, .slice X.ag.1.a X.ag.1.n X.ag.1.c, .slice X.ht.1.a X.ht.1.n X.ht.1.c] 34 (0, 0))) (hb : Below W.heap.size W v) : v.cell? ⟨b0, 0, none⟩ = some (.int .i64 g.gr) ∧ v.cell? ⟨b0, 1, none⟩ = some (.int .i64 g.bk) ∧ v.cell? ⟨b0, 2, none⟩ = some (.int .i64 g.rw) ∧ v.cell? ⟨b0, 3, none⟩ = some (.int .i64 g.cl) ∧ v.cell? ⟨b3, 0, none⟩ = some (.slice X.a X.n X.c) ∧ v.cell? ⟨b3, 1, none⟩ = some (.slice X.ag.1.a X.ag.1.n X.ag.1.c) ∧ v.cell? ⟨b3, 2, none⟩ = some (.slice X.ht.1.a X.ht.1.n X.ht.1.c) ∧ Below W.heap.size W v :=
  ⟨cell_blk (blk_below hb k0 (lt_blk k0)) 0, cell_blk (blk_below hb k0 (lt_blk k0)) 1, cell_blk (blk_below hb k0 (lt_blk k0)) 2, cell_blk (blk_below hb k0 (lt_blk k0)) 3, cell_blk (blk_below hb k3 (lt_blk k3)) 0, cell_blk (blk_below hb k3 (lt_blk k3)) 1, cell_blk (blk_below hb k3 (lt_blk k3)) 2, hb⟩
theorem keep_AX {W v : World} {A : Ar} {b1 : Nat} (k1 : W.heap[b1]? = some (.cells #[.slice A.a A.n A.c, .slice A.ag.1.a A.ag.1.n A.ag.1.c, .slice A.ht.1.a A.ht.1.n A.ht.1.c] 27 (0, 0))) {X : Ar} {b3 : Nat} (k3 : W.heap[b3]? = some (.cells #[.slice X.a X.n X.c, .slice X.ag.1.a X.ag.1.n X.ag.1.c, .slice X.ht.1.a X.ht.1.n X.ht.1.c] 34 (0, 0))) (hb : Below W.heap.size W v) : v.cell? ⟨b1, 0, none⟩ = some (.slice A.a A.n A.c) ∧ v.cell? ⟨b1, 1, none⟩ = some (.slice A.ag.1.a A.ag.1.n A.ag.1.c) ∧ v.cell? ⟨b1, 2, none⟩ = some (.slice A.ht.1.a A.ht.1.n A.ht.1.c) ∧ v.cell? ⟨b3, 0, none⟩ = some (.slice X.a X.n X.c) ∧ v.cell? ⟨b3, 1, none⟩ = some (.slice X.ag.1.a X.ag.1.n X.ag.1.c) ∧ v.cell? ⟨b3, 2, none⟩ = some (.slice X.ht.1.a X.ht.1.n X.ht.1.c) ∧ Below W.heap.size W v :=
  ⟨cell_blk (blk_below hb k1 (lt_blk k1)) 0, cell_blk (blk_below hb k1 (lt_blk k1)) 1, cell_blk (blk_below hb k1 (lt_blk k1)) 2, cell_blk (blk_below hb k3 (lt_blk k3)) 0, cell_blk (blk_below hb k3 (lt_blk k3)) 1, cell_blk (blk_below hb k3 (lt_blk k3)) 2, hb⟩
end Go.Proofs.Ytkhcepmileiejaa
