/- Sensing a row of an array of one's own: it stays valid. -/
import Derived.Test.YtkhcepmileiejaaSense
import Derived.Deep.DeepCutAuto
set_option linter.unusedSimpArgs false
set_option linter.unusedVariables false
namespace Go.Proofs.Ytkhcepmileiejaa
open Go.RowKit Go.ChangeShapes Go.WideShapes Go.ChangeAt Go.Joins Go.Deep
open Go.ChangeMaps (open_string shut_string)
theorem own_type {lo hi q n c b : Nat} {V : World} {xs : List Value} {cs : Array Value} {T' : TypeId} {fr : Nat × Nat} (h : Owned lo hi V 3 1 (some ⟨q, 0, none⟩) n c xs) (hk : V.heap[b]? = some (.cells cs T' fr)) (hne : T' ≠ 3) : ¬ q = b := by
  rcases h.1.2 with ⟨h0, _⟩ | ⟨g, cap, cur, h1, h2, h3, h4⟩
  · injection h0 with e; cases e
  · injection h1 with e; injection e with e; injection e with e
    intro hqb
    rw [← e, hqb, hk] at h3
    injection h3 with h3; injection h3 with _ h5
    exact hne h5
theorem i64_x5 (z : Int) (h : 0 ≤ z ∧ z ≤ 15) (c : Nat) (hc : c < 16) : ∃ y : Int, bits .xor .i64 z (c : Int) = y ∧ 0 ≤ y ∧ y ≤ 15 := by
  obtain ⟨a, rfl⟩ : ∃ a : Nat, z = (a : Int) := ⟨z.toNat, by omega⟩
  refine ⟨_, i64_xor a c (by omega) (by omega), by omega, ?_⟩
  have : a ^^^ c < 2 ^ 4 := Nat.xor_lt_two_pow (by omega) (by omega)
  omega
theorem arOk_sym {g : Ge} {es : List Cl} {ag ht : List Int} {i j : Nat} {e : Cl} {y : Int} (h : arOk g ⟨es.map conC, ag, ht⟩ = true) (he : es[i]? = some e) (hy : 0 ≤ y ∧ y ≤ 15) : arOk g ⟨(es.set i ⟨e.h, e.ws.set j y, e.p⟩).map conC, ag, ht⟩ = true := by
  rw [List.map_set]
  refine arOk_cell h ?_
  have h1 : symOkB e.ws 11 = true := (arOk_of h).2.2.2.2.1 (conC e) (List.mem_map.2 ⟨e, List.mem_of_getElem? he, rfl⟩)
  simp only [symOkB, Bool.and_eq_true, List.all_eq_true, btw_true, beq_iff_eq] at h1 ⊢
  exact ⟨fun z hz => by rcases List.mem_or_eq_of_mem_set hz with h2 | h2; exact h1.1 z h2; rw [h2]; exact hy, by show ((e.ws.set j y).length : Int) = 11; rw [List.length_set]; exact h1.2⟩
/-- The state between the steps of sensing. -/
structure Sens (lo p m : Nat) (g : Ge) (w V : World) (A : Ar) (a2 a3 : Option Addr) (c2 c3 : Nat) : Prop where
  half : Half lo p V A
  ok : arOk g A.con = true
  below : Below lo w V
  box : V.heap[w.heap.size]? = some (.cells #[.int .i64 g.gr, .int .i64 g.bk, .int .i64 g.rw, .int .i64 g.cl] 30 (0, 0))
  ag : A.ag.1 = ⟨a2, m, c2⟩
  ht : A.ht.1 = ⟨a3, m, c3⟩
section
variable {lo p m : Nat} {g : Ge} {w V : World} {A : Ar} {a2 a3 : Option Addr} {c2 c3 : Nat}
theorem Sens.drew (h : Sens lo p m g w V A a2 a3 c2 c3) : Sens lo p m g w V.drew A a2 a3 c2 c3 :=
  ⟨h.half.below (Below.drew (Below.refl _ _)), h.ok, Below.drew h.below, h.box, h.ag, h.ht⟩
/-- The two rows of numbers: where they lie, and one cell of each. -/
theorem Sens.rows (h : Sens lo p m g w V A a2 a3 c2 c3) {k : Nat} (hk : k < m) : ∃ (q r : Nat) (x y : Int), a2 = some ⟨q, 0, none⟩ ∧ a3 = some ⟨r, 0, none⟩ ∧ lo ≤ q ∧ lo ≤ r ∧ q < V.heap.size ∧ r < V.heap.size ∧ ¬ q = w.heap.size ∧ ¬ r = w.heap.size ∧ ¬ q = p ∧ ¬ r = p ∧
    V.cell? ⟨q, k, none⟩ = some (.int .i64 x) ∧ V.cell? ⟨r, k, none⟩ = some (.int .i64 y) ∧ (∀ o, V.frozen? ⟨q, o, none⟩ = false) ∧ (∀ o, V.frozen? ⟨r, o, none⟩ = false) ∧ 0 ≤ x ∧ x ≤ 100000 ∧ 0 ≤ y ∧ y ≤ 100000 ∧
    V.cell? ⟨p, 1, none⟩ = some (.slice (some ⟨q, 0, none⟩) m c2) ∧ V.cell? ⟨p, 2, none⟩ = some (.slice (some ⟨r, 0, none⟩) m c3) ∧ p < V.heap.size ∧ V.cell? ⟨w.heap.size, 2, none⟩ = some (.int .i64 g.rw) := by
  obtain ⟨a, n, c, es, ⟨⟨b2, n2, d2⟩, z2⟩, ⟨⟨b3, n3, d3⟩, z3⟩⟩ := A
  obtain ⟨hF, hok, hB, hbox, hag, hht⟩ := h
  simp only [Hd.mk.injEq] at hag hht
  obtain ⟨rfl, rfl, rfl⟩ := hag
  obtain ⟨rfl, hn, rfl⟩ := hht
  subst hn
  have o2 := hF.own.sep.rows (⟨b2, n3, d2⟩, z2) (by simp [Ar.rows])
  have o3 := hF.own.sep.rows (⟨b3, n3, d3⟩, z3) (by simp [Ar.rows])
  obtain ⟨q, hqa, hq1, hq2, hq3, hcq, hfq⟩ := o2.1.some (by show 0 < n3; omega)
  obtain ⟨r, hra, hr1, hr2, hr3, hcr, hfr⟩ := o3.1.some (by show 0 < n3; omega)
  simp only at hqa hra
  subst hqa hra
  have l2 := o2.ints.1; have l3 := o3.ints.1
  simp only at l2 l3
  have hx : z2[k]? = some (z2[k]'(by omega)) := List.getElem?_eq_getElem _
  have hy : z3[k]? = some (z3[k]'(by omega)) := List.getElem?_eq_getElem _
  have bx := btw_true.1 ((arOk_of hok).2.2.2.2.2.1 _ (List.mem_of_getElem? hx))
  have by' := btw_true.1 ((arOk_of hok).2.2.2.2.2.2 _ (List.mem_of_getElem? hy))
  exact ⟨q, r, _, _, rfl, rfl, hq1, hr1, hq3, hr3, own_type o2.1 hbox (by decide), own_type o3.1 hbox (by decide), own_type o2.1 hF.blk (by decide), own_type o3.1 hF.blk (by decide),
    (hcq k (by show k < n3 * 1; omega)).trans (by rw [List.getElem?_map, hx]; rfl), (hcr k (by show k < n3 * 1; omega)).trans (by rw [List.getElem?_map, hy]; rfl), hfq, hfr, bx.1, bx.2, by'.1, by'.2, cell_blk hF.blk 1, cell_blk hF.blk 2, hF.lt, cell_blk hbox 2⟩
theorem Sens.age {q j : Nat} {v : Int} (h : Sens lo p m g w V A (some ⟨q, 0, none⟩) a3 c2 c3) (hq : ¬ q = w.heap.size) (hlo : lo ≤ q) (hv : 0 ≤ v ∧ v ≤ 100000) : ∃ A', Sens lo p m g w (V.setCell ⟨q, j, none⟩ (.int .i64 v)) A' (some ⟨q, 0, none⟩) a3 c2 c3 :=
  ⟨_, h.half.ageSet (j := j) (by rw [h.ag]) ⟨hv.1, by omega⟩, arOk_age h.ok (btw_mk hv.1 hv.2), h.below.setCell (p := ⟨q, j, none⟩) hlo _, (heap_set_other _ _ _ _ _ (fun e => hq e.symm)).trans h.box, h.ag, h.ht⟩
theorem Sens.hit {q j : Nat} {v : Int} (h : Sens lo p m g w V A a2 (some ⟨q, 0, none⟩) c2 c3) (hq : ¬ q = w.heap.size) (hlo : lo ≤ q) (hv : 0 ≤ v ∧ v ≤ 100000) : ∃ A', Sens lo p m g w (V.setCell ⟨q, j, none⟩ (.int .i64 v)) A' a2 (some ⟨q, 0, none⟩) c2 c3 :=
  ⟨_, h.half.hitSet (j := j) (by rw [h.ht]) ⟨hv.1, by omega⟩, arOk_hit h.ok (btw_mk hv.1 hv.2), h.below.setCell (p := ⟨q, j, none⟩) hlo _, (heap_set_other _ _ _ _ _ (fun e => hq e.symm)).trans h.box, h.ag, h.ht⟩
theorem Sens.rows_at {q r : Nat} (h : Sens lo p m g w V A (some ⟨q, 0, none⟩) (some ⟨r, 0, none⟩) c2 c3) {k : Nat} (hk : k < m) : ∃ (x y : Int), lo ≤ q ∧ lo ≤ r ∧ q < V.heap.size ∧ r < V.heap.size ∧ ¬ q = w.heap.size ∧ ¬ r = w.heap.size ∧ ¬ q = p ∧ ¬ r = p ∧
    V.cell? ⟨q, k, none⟩ = some (.int .i64 x) ∧ V.cell? ⟨r, k, none⟩ = some (.int .i64 y) ∧ (∀ o, V.frozen? ⟨q, o, none⟩ = false) ∧ (∀ o, V.frozen? ⟨r, o, none⟩ = false) ∧ 0 ≤ x ∧ x ≤ 100000 ∧ 0 ≤ y ∧ y ≤ 100000 ∧
    V.cell? ⟨p, 1, none⟩ = some (.slice (some ⟨q, 0, none⟩) m c2) ∧ V.cell? ⟨p, 2, none⟩ = some (.slice (some ⟨r, 0, none⟩) m c3) ∧ p < V.heap.size ∧ V.cell? ⟨w.heap.size, 2, none⟩ = some (.int .i64 g.rw) := by
  obtain ⟨q', r', x, y, h1, h2, h3⟩ := h.rows hk
  injection h1 with h1; injection h1 with h1
  injection h2 with h2; injection h2 with h2
  subst h1 h2
  exact ⟨x, y, h3⟩
theorem Sens.next (h : Sens lo p m g w V A a2 a3 c2 c3) {V' : World} (hlo : lo ≤ w.heap.size) (hb : Below V.heap.size V V') : Sens lo p m g w V' A a2 a3 c2 c3 :=
  ⟨h.half.below hb, h.ok, bthen h.below hb (Nat.le_trans hlo h.below.size), blk_below hb h.box (lt_blk h.box), h.ag, h.ht⟩
theorem Sens.turned (h : Sens lo p m g w V A a2 a3 c2 c3) : ∃ A' : Ar, Half lo p V A' ∧ arOk g A'.con = true ∧ Below lo w V := ⟨A, h.half, h.ok, h.below⟩
/-- One line's row of symbols. -/
theorem Sens.line (h : Sens lo p m g w V A a2 a3 c2 c3) {k : Nat} (hk : k < A.con.cs.length) : ∃ (e : Cl) (u q : Nat) (x y : Int) (c : Nat), A.es[k]? = some e ∧ A.a = some ⟨u, 0, none⟩ ∧ e.h = ⟨some ⟨q, 0, none⟩, 11, c⟩ ∧ lo ≤ q ∧ q < V.heap.size ∧ ¬ q = w.heap.size ∧ ¬ q = p ∧ u < V.heap.size ∧ k < A.n ∧ 11 ≤ c ∧ c ≤ 9223372036854775807 ∧
    V.cell? ⟨p, 0, none⟩ = some (.slice (some ⟨u, 0, none⟩) A.n A.c) ∧ V.cell? ⟨u, k * 2, none⟩ = some (.slice (some ⟨q, 0, none⟩) 11 c) ∧ V.cell? ⟨q, 0, none⟩ = some (.int .i64 x) ∧ V.cell? ⟨q, 1, none⟩ = some (.int .i64 y) ∧ (∀ o, V.frozen? ⟨q, o, none⟩ = false) ∧ 0 ≤ x ∧ x ≤ 15 ∧ 0 ≤ y ∧ y ≤ 15 ∧ p < V.heap.size := by
  obtain ⟨e, he, hce⟩ := con_at (C := A.con) rfl hk
  have hsy := sym_at h.ok hk hce
  obtain ⟨u, hua, hu1, hu2, hkn, hup, d0, d1, df, hI⟩ := half_cell h.half he
  have hl := (symOk_of (n := 11) hsy).2.2.2
  obtain ⟨⟨ea, en, ec⟩, ews, ep⟩ := e
  simp only at hI hl d0 hsy
  obtain rfl : en = 11 := hI.1.symm.trans hl
  have ho := h.half.own.sep.rows (rowC ⟨⟨ea, 11, ec⟩, ews, ep⟩) (by simp only [Ar.rows, List.mem_cons, List.mem_map]; exact .inr (.inr ⟨_, List.mem_of_getElem? he, rfl⟩))
  obtain ⟨q, hqa, hq1, hq2, hq3, hcq, hfq⟩ := ho.1.some (by show 0 < 11; omega)
  simp only [rowC] at hqa
  subst hqa
  have hc := h.half.blk
  rw [hua] at hc
  simp only [symOkB, Bool.and_eq_true, List.all_eq_true, btw_true, beq_iff_eq] at hsy
  have hx : ews[0]? = some (ews[0]'(by omega)) := List.getElem?_eq_getElem _
  have hy : ews[1]? = some (ews[1]'(by omega)) := List.getElem?_eq_getElem _
  have bx := hsy.1 _ (List.mem_of_getElem? hx)
  have by' := hsy.1 _ (List.mem_of_getElem? hy)
  exact ⟨_, u, q, _, _, ec, he, hua, rfl, hq1, hq3, own_type ho.1 h.box (by decide), own_type ho.1 h.half.blk (by decide), hu2, hkn, hI.2.1, hI.2.2.1, cell_blk hc 0, d0,
    (hcq 0 (by show 0 < 11 * 1; omega)).trans (by show (ews.map (Value.int .i64))[0]? = _; rw [List.getElem?_map, hx]; rfl), (hcq 1 (by show 1 < 11 * 1; omega)).trans (by show (ews.map (Value.int .i64))[1]? = _; rw [List.getElem?_map, hy]; rfl), hfq, bx.1, bx.2, by'.1, by'.2, h.half.lt⟩
theorem Sens.sym {i q j : Nat} {e : Cl} {c : Nat} {v : Int} (h : Sens lo p m g w V A a2 a3 c2 c3) (he : A.es[i]? = some e) (heh : e.h = ⟨some ⟨q, 0, none⟩, 11, c⟩) (hq : ¬ q = w.heap.size) (hlo : lo ≤ q) (hv : 0 ≤ v ∧ v ≤ 15) :
    Sens lo p m g w (V.setCell ⟨q, j, none⟩ (.int .i64 v)) { A with es := A.es.set i ⟨e.h, e.ws.set j v, e.p⟩ } a2 a3 c2 c3 :=
  ⟨h.half.symSet (j := j) he (by rw [heh]) ⟨hv.1, by omega⟩, arOk_sym h.ok he hv, h.below.setCell (p := ⟨q, j, none⟩) hlo _, (heap_set_other _ _ _ _ _ (fun e => hq e.symm)).trans h.box, h.ag, h.ht⟩
end
set_option maxRecDepth 100000 in
set_option maxHeartbeats 8000000 in
theorem spec_l14Sense (lo p : Nat) (g : Ge) (l1 l2 : Int) (A : Ar) (x : Ad) (w : World) (hx : adOk g x = true) (hF : Half lo p w A) (hok : arOk g A.con = true) (hlo : lo ≤ w.heap.size) :
    Calls Try.prog 93 #[.agg #[.int .i64 g.gr, .int .i64 g.bk, .int .i64 g.rw, .int .i64 g.cl], .agg #[.int .i64 l1, .int .i64 l2], .pointer (some ⟨p, 0, none⟩), .int .i64 x.b, .int .i64 x.r] w (Turned lo p g w) := by
  obtain ⟨b1, b2, b3, b4, b5, b6, b7, b8, b9, b10⟩ := idx_bd hx
  have hgo := adOk_geo hx
  obtain ⟨_, _, _, _, g5, g6, g7, g8⟩ := geoOk_bd hgo
  obtain ⟨idx, hidx⟩ : ∃ k : Nat, x.b * g.rw + x.r = (k : Int) := ⟨(x.b * g.rw + x.r).toNat, by omega⟩
  have hbk := hx
  simp only [adOk, Bool.and_eq_true, btw_true] at hbk
  obtain ⟨⟨hb0, hb1⟩, ⟨hr0, hr1⟩, _⟩ := hbk
  obtain ⟨mi, hmi, hm0, hm1⟩ := rows_wrap g
  have hml := mul_lt_of (a := x.b) (m := bankCnt g) (n := g.rw) hb0 (by omega) (by omega)
  rw [hmi] at hml
  obtain ⟨m, rfl⟩ : ∃ m : Nat, mi = (m : Int) := ⟨mi.toNat, by omega⟩
  have him : idx < m := by omega
  have hrn : (x.r < g.rw - 1) → idx + 1 < m := by omega
  obtain ⟨a, n, c, es, ⟨⟨a2, n2, c2⟩, z2'⟩, ⟨⟨a3, n3, c3⟩, z3'⟩⟩ := A
  have h2 := (arOk_of hok).2.2.1; have h3 := (arOk_of hok).2.2.2.1
  have k2 := (hF.own.sep.rows (⟨a2, n2, c2⟩, z2') (by simp [Ar.rows])).ints.1
  have k3 := (hF.own.sep.rows (⟨a3, n3, c3⟩, z3') (by simp [Ar.rows])).ints.1
  simp only [Ar.con] at h2 h3 k2 k3
  rw [hmi] at h2 h3
  obtain rfl : m = n2 := by omega
  obtain rfl : m = n3 := by omega
  have hcs : ((m : Nat) : Int) * g.cl = ((es.map conC).length : Int) := by
    have := (arOk_of hok).2.1
    simp only [Ar.con] at this
    rw [this]; unfold lineCnt; rw [if_pos hgo, ← hmi]; unfold bankCnt; rw [if_pos hgo]
  have wr1 : IntKind.i64.wrap (x.b * g.rw) = x.b * g.rw := IntWalk.i64_in _ (by omega)
  have HIDX := hide hidx
  have HW1 : Hid (IntKind.i64.wrap (x.b * g.rw + x.r) = (idx : Int)) := hide (by rw [hidx]; exact IntWalk.i64_in _ (by omega))
  have HCS := hide hcs
  have hlen := hide ((hF.own.len))
  have W0B : Below w.heap.size w ((w.alloc (.cells #[.int .i64 g.gr, .int .i64 g.bk, .int .i64 g.rw, .int .i64 g.cl] 30)).alloc (.cells #[.int .i64 l1, .int .i64 l2] 57)) := by go_grown
  have hS0 : Sens lo p m g w ((w.alloc (.cells #[.int .i64 g.gr, .int .i64 g.bk, .int .i64 g.rw, .int .i64 g.cl] 30)).alloc (.cells #[.int .i64 l1, .int .i64 l2] 57)) ⟨a, n, c, es, ⟨⟨a2, m, c2⟩, z2'⟩, ⟨⟨a3, m, c3⟩, z3'⟩⟩ a2 a3 c2 c3 :=
    ⟨hF.below W0B, hok, W0B.mono hlo, by rw [alloc_lt _ _ _ (by simp)]; exact alloc_at _ _ _ rfl, rfl, rfl⟩
  have m1 : ((w.alloc (.cells #[.int .i64 g.gr, .int .i64 g.bk, .int .i64 g.rw, .int .i64 g.cl] 30)).alloc (.cells #[.int .i64 l1, .int .i64 l2] 57)).heap[w.heap.size + 1]? = some (.cells #[.int .i64 l1, .int .i64 l2] 57 (0, 0)) := alloc_at _ _ _ (by simp)
  clear hidx hmi h2 h3 k2 k3 hml hcs hF hok W0B hx
  go_enter Try.func93, Try.ntmps93
  go_upto_region 1 with fail
  generalize ((w.alloc (.cells #[.int .i64 g.gr, .int .i64 g.bk, .int .i64 g.rw, .int .i64 g.cl] 30)).alloc (.cells #[.int .i64 l1, .int .i64 l2] 57)) = V0 at *
  have HS0 := hide hS0
  have e_g0 := cell_blk hS0.box 0; have e_g1 := cell_blk hS0.box 1; have e_g2 := cell_blk hS0.box 2; have e_g3 := cell_blk hS0.box 3
  have e_l0 := cell_blk m1 0; have e_l1 := cell_blk m1 1
  have e_p0 := cell_blk hS0.half.blk 0; have e_p1 := cell_blk hS0.half.blk 1; have e_p2 := cell_blk hS0.half.blk 2
  have HAI := hide hS0.half.own.is
  have hW1 := HW1.out
  clear hS0 m1
  go_wp2_with fail
  have z0 : w.heap.size < V0.heap.size := lt_blk HS0.out.box
  have z1 : w.heap.size + 1 < V0.heap.size := World.block_lt_of_cell? _ _ e_l0
  have z2 : p < V0.heap.size := HS0.out.half.lt
  go_region_held3 (fun v => v.cell? ⟨w.heap.size, 0, none⟩ = some (.int .i64 g.gr) ∧ v.cell? ⟨w.heap.size, 1, none⟩ = some (.int .i64 g.bk) ∧ v.cell? ⟨w.heap.size, 2, none⟩ = some (.int .i64 g.rw) ∧ v.cell? ⟨w.heap.size, 3, none⟩ = some (.int .i64 g.cl) ∧ v.cell? ⟨w.heap.size + 1, 0, none⟩ = some (.int .i64 l1) ∧ v.cell? ⟨w.heap.size + 1, 1, none⟩ = some (.int .i64 l2) ∧ v.cell? ⟨p, 0, none⟩ = some (.slice a n c) ∧ v.cell? ⟨p, 1, none⟩ = some (.slice a2 m c2) ∧ v.cell? ⟨p, 2, none⟩ = some (.slice a3 m c3)) (first | go_keep | simp [go_sem, *]) (first | (go_at_call 110; refine (spec_l14Gone g l1 l2 ⟨a, n, c, es, ⟨⟨a2, m, c2⟩, z2'⟩, ⟨⟨a3, m, c3⟩, z3'⟩⟩ idx _ (HAI.out.below (Below.drew (Below.refl _ _)) (Nat.le_refl _)) ⟨him, him⟩).mono ?_; rintro ex V1 ⟨vb, rfl, hv1⟩; have hb1 : Below V0.heap.size V0 V1 := below_drew hv1; have qb := fun o => (bcell hb1).1 w.heap.size o z0; have qc := fun o => (bcell hb1).1 (w.heap.size + 1) o z1; have qd := fun o => (bcell hb1).1 p o z2))
  have HS1 := hide (HS0.out.next hlo hb1)
  clear qb qc qd hv1 hb1 e_g0 e_g1 e_g2 e_g3 e_l0 e_l1 e_p0 e_p1 e_p2 HAI hW1 HS0 z0 z1 z2
  cases vb
  · skip
    obtain ⟨q, r, x1, y1, rfl, rfl, k1, k2, k3, k4, k5, k6, k7, k8, k9, k10, k11, k12, k13, k14, k15, k16, k17, k18, k19, k20⟩ := HS1.out.rows him
    have ii0 : (0 : Int) ≤ (idx : Int) := by omega
    have ii1 : (idx : Int) < (m : Int) := by omega
    go_upto_region 10 with fail
    obtain ⟨A2, hS2⟩ := HS1.out.age (j := idx) (v := 0) k5 k1 ⟨by omega, by omega⟩
    clear k1 k2 k3 k4 k5 k6 k7 k8 k9 k10 k11 k12 k13 k14 k15 k16 k17 k18 k19 k20
    generalize (V1.setCell ⟨q, idx, none⟩ (.int .i64 0)) = V2 at *
    have HS2 := hide hS2
    clear hS2
    obtain ⟨x3, y3, k1, k2, k3, k4, k5, k6, k7, k8, k9, k10, k11, k12, k13, k14, k15, k16, k17, k18, k19, k20⟩ := HS2.out.rows_at him
    go_upto_region 11 with fail
    obtain ⟨A3, hS3⟩ := HS2.out.hit (j := idx) (v := 0) k6 k2 ⟨by omega, by omega⟩
    clear k1 k2 k3 k4 k5 k6 k7 k8 k9 k10 k11 k12 k13 k14 k15 k16 k17 k18 k19 k20
    generalize (V2.setCell ⟨r, idx, none⟩ (.int .i64 0)) = V3 at *
    have HS3 := hide hS3
    clear hS3
    by_cases t0 : 0 < x.r
    · obtain ⟨j, hj⟩ : ∃ j : Nat, idx = j + 1 := ⟨idx - 1, by have := HIDX.out; omega⟩
      obtain ⟨x4, y4, k1, k2, k3, k4, k5, k6, k7, k8, k9, k10, k11, k12, k13, k14, k15, k16, k17, k18, k19, k20⟩ := HS3.out.rows_at (k := j) (by omega)
      have wv1 : IntKind.i64.wrap ((idx : Int) - 1) = (j : Int) := by rw [IntWalk.i64_in _ (by omega)]; omega
      have wv2 : IntKind.i64.wrap (y4 + 1) = y4 + 1 := IntWalk.i64_in _ (by omega)
      have j0 : (0 : Int) ≤ (j : Int) := by omega
      have j1 : (j : Int) < (m : Int) := by omega
      have HJ := hide hj
      clear hj
      go_upto_region 12 with fail
      go_still_tail 17, (by kernel_rfl)
      change wpList _ _ _ _ _ (World.drew V3)
      have hv : 0 ≤ (if 100000 < y4 + 1 then 100000 else y4 + 1) ∧ (if 100000 < y4 + 1 then 100000 else y4 + 1) ≤ 100000 := by split <;> omega
      generalize (if 100000 < y4 + 1 then 100000 else y4 + 1) = mw at hv ⊢
      go_upto_region 13 with fail
      obtain ⟨A4, hS4⟩ := HS3.out.hit (j := j) (v := mw) k6 k2 hv
      have hS5 := hS4.drew
      clear k1 k2 k3 k4 k5 k6 k7 k8 k9 k10 k11 k12 k13 k14 k15 k16 k17 k18 k19 k20 wv1 wv2 j0 j1 hS4
      generalize (V3.setCell ⟨r, j, none⟩ (.int .i64 mw)).drew = V4 at *
      have HS4 := hide hS5
      clear hS5
      by_cases t1 : x.r < g.rw - 1
      · obtain ⟨j9, hj9⟩ : ∃ j : Nat, j = idx + 1 := ⟨_, rfl⟩
        obtain ⟨x5, y5, k1, k2, k3, k4, k5, k6, k7, k8, k9, k10, k11, k12, k13, k14, k15, k16, k17, k18, k19, k20⟩ := HS4.out.rows_at (k := j9) (by have := hrn t1; omega)
        have wv1 : IntKind.i64.wrap ((idx : Int) + 1) = (j9 : Int) := by rw [IntWalk.i64_in _ (by omega)]; omega
        have wv2 : IntKind.i64.wrap (y5 + 1) = y5 + 1 := IntWalk.i64_in _ (by omega)
        have wv3 : IntKind.i64.wrap (g.rw - 1) = g.rw - 1 := IntWalk.i64_in _ (by omega)
        have j0 : (0 : Int) ≤ (j9 : Int) := by omega
        have j1 : (j9 : Int) < (m : Int) := by have := hrn t1; omega
        have HJ9 := hide hj9
        clear hj9
        go_upto_region 14 with fail
        go_still_tail 17, (by kernel_rfl)
        change wpList _ _ _ _ _ (World.drew V4)
        have hv : 0 ≤ (if 100000 < y5 + 1 then 100000 else y5 + 1) ∧ (if 100000 < y5 + 1 then 100000 else y5 + 1) ≤ 100000 := by split <;> omega
        generalize (if 100000 < y5 + 1 then 100000 else y5 + 1) = mv at hv ⊢
        go_wp2_with fail
        go_end0
        obtain ⟨A9, h9⟩ := HS4.out.hit (j := j9) (v := mv) k6 k2 hv
        exact ⟨rfl, h9.drew.turned⟩
      · obtain ⟨x5, y5, k1, k2, k3, k4, k5, k6, k7, k8, k9, k10, k11, k12, k13, k14, k15, k16, k17, k18, k19, k20⟩ := HS4.out.rows_at (k := idx) him
        have wv3 : IntKind.i64.wrap (g.rw - 1) = g.rw - 1 := IntWalk.i64_in _ (by omega)
        go_wp2_with fail
        go_end0
        exact ⟨rfl, HS4.out.turned⟩
    · skip
      by_cases t1 : x.r < g.rw - 1
      · obtain ⟨j9, hj9⟩ : ∃ j : Nat, j = idx + 1 := ⟨_, rfl⟩
        obtain ⟨x5, y5, k1, k2, k3, k4, k5, k6, k7, k8, k9, k10, k11, k12, k13, k14, k15, k16, k17, k18, k19, k20⟩ := HS3.out.rows_at (k := j9) (by have := hrn t1; omega)
        have wv1 : IntKind.i64.wrap ((idx : Int) + 1) = (j9 : Int) := by rw [IntWalk.i64_in _ (by omega)]; omega
        have wv2 : IntKind.i64.wrap (y5 + 1) = y5 + 1 := IntWalk.i64_in _ (by omega)
        have wv3 : IntKind.i64.wrap (g.rw - 1) = g.rw - 1 := IntWalk.i64_in _ (by omega)
        have j0 : (0 : Int) ≤ (j9 : Int) := by omega
        have j1 : (j9 : Int) < (m : Int) := by have := hrn t1; omega
        have HJ9 := hide hj9
        clear hj9
        go_upto_region 14 with fail
        go_still_tail 17, (by kernel_rfl)
        change wpList _ _ _ _ _ (World.drew V3)
        have hv : 0 ≤ (if 100000 < y5 + 1 then 100000 else y5 + 1) ∧ (if 100000 < y5 + 1 then 100000 else y5 + 1) ≤ 100000 := by split <;> omega
        generalize (if 100000 < y5 + 1 then 100000 else y5 + 1) = mv at hv ⊢
        go_wp2_with fail
        go_end0
        obtain ⟨A9, h9⟩ := HS3.out.hit (j := j9) (v := mv) k6 k2 hv
        exact ⟨rfl, h9.drew.turned⟩
      · exact absurd t0 (by omega)
  · skip
    obtain ⟨cn, hcn⟩ : ∃ cn : Nat, g.cl = (cn : Int) := ⟨g.cl.toNat, by omega⟩
    obtain ⟨ic, hic⟩ : ∃ ic : Nat, (idx : Int) * g.cl = (ic : Int) := ⟨idx * cn, by rw [hcn]; simp⟩
    have hicb : ∀ k : Nat, k < cn → ic + k < m * cn := by
      intro k hk
      have h1 : (idx + 1) * cn ≤ m * cn := Nat.mul_le_mul_right _ him
      have h2 : ic = idx * cn := by rw [hcn] at hic; exact_mod_cast hic.symm
      rw [Nat.succ_mul] at h1; omega
    have hmc : m * cn ≤ 1024 := by
      have h1 : (m : Int) * g.cl ≤ 1024 := by rw [HCS.out]; have := HCS.out; have h2 := (arOk_of HS1.out.ok).2.1; have h3 := lineCnt_bd g; simp only [Ar.con] at h2; rw [h2]; exact h3.2
      rw [hcn] at h1; exact_mod_cast h1
    have HICB := hide hicb
    have HIC := hide hic
    have HLC := hide (show lineCnt g = ((m * cn : Nat) : Int) by have h2 := (arOk_of HS1.out.ok).2.1; simp only [Ar.con] at h2; rw [← h2, ← HCS.out, hcn]; simp)
    clear hic hicb
    go_wp2_with fail
    go_loopw [11] (fun vi wr => ∃ (k : Nat) (A' : Ar), vi = .int .i64 k ∧ k ≤ cn ∧ Hid (Sens lo p m g w wr A' a2 a3 c2 c3)) (fun vi _ => cn - (intOf vi).toNat)
    case atStart => exact ⟨0, _, rfl, by omega, HS1⟩
    case round =>
      clear HS1
      obtain ⟨k, A', rfl, hk, HS⟩ := hrel
      have e_g3 := cell_blk HS.out.box 3
      by_cases hlt : k < cn
      · have hln := HICB.out k hlt
        obtain ⟨e, u, q, xv, yv, cc, he, hua, heh, q1, q2, q3, q4, q5, q6, q7, q8, q9, q10, q11, q12, q13, q14, q15, q16, q17, q18⟩ := HS.out.line (k := ic + k) (by have h2 := (arOk_of HS.out.ok).2.1; have := HLC.out; omega)
        have wv1 : IntKind.i64.wrap ((idx : Int) * g.cl) = (ic : Int) := by rw [HIC.out]; exact IntWalk.i64_in _ (by omega)
        have wv2 : IntKind.i64.wrap ((ic : Int) + (k : Int)) = ((ic + k : Nat) : Int) := by rw [IntWalk.i64_in _ (by omega)]; rfl
        have j0 : (0 : Int) ≤ ((ic + k : Nat) : Int) := by omega
        have j1 : ((ic + k : Nat) : Int) < (A'.n : Int) := by omega
        have kc : (k : Int) < g.cl := by omega
        obtain ⟨x5, hx5, x5a, x5b⟩ : ∃ y : Int, bits .xor .i64 xv 5 = y ∧ 0 ≤ y ∧ y ≤ 15 := i64_x5 xv ⟨q14, q15⟩ 5 (by omega)
        obtain ⟨y5, hy5, y5a, y5b⟩ : ∃ y : Int, bits .xor .i64 yv 10 = y ∧ 0 ≤ y ∧ y ≤ 15 := i64_x5 yv ⟨q16, q17⟩ 10 (by omega)
        have HE := hide he; have HEH := hide heh; have HCN := hide hcn
        clear he heh hua hcn
        go_wp2_with fail
        go_quiet (fail)
        go_wp2_with fail
        go_roundw
        case rel =>
          have s1 := HS.out.sym (j := 0) HE.out HEH.out q3 q1 ⟨x5a, x5b⟩
          have s2 := s1.sym (j := 1) (i := ic + k) (e := ⟨e.h, e.ws.set 0 x5, e.p⟩) (List.getElem?_set_self (List.getElem?_eq_some_iff.1 HE.out).1) HEH.out q3 q1 ⟨y5a, y5b⟩
          have s3 := s2.next hlo (bdrawn (Below.refl _ _) nq)
          exact ⟨k + 1, _, by go_num, by omega, hide s3⟩
        case measure => simp [intOf]; omega
      · have hk9 : ¬ (k : Int) < g.cl := by omega
        obtain ⟨q, r, x1, y1, rfl, rfl, k1, k2, k3, k4, k5, k6, k7, k8, k9, k10, k11, k12, k13, k14, k15, k16, k17, k18, k19, k20⟩ := HS.out.rows him
        have ii0 : (0 : Int) ≤ (idx : Int) := by omega
        have ii1 : (idx : Int) < (m : Int) := by omega
        go_upto_region 10 with fail
        obtain ⟨A2, hS2⟩ := HS.out.age (j := idx) (v := 0) k5 k1 ⟨by omega, by omega⟩
        clear k1 k2 k3 k4 k5 k6 k7 k8 k9 k10 k11 k12 k13 k14 k15 k16 k17 k18 k19 k20
        generalize (wr.setCell ⟨q, idx, none⟩ (.int .i64 0)) = V2 at *
        have HS2 := hide hS2
        clear hS2
        obtain ⟨x3, y3, k1, k2, k3, k4, k5, k6, k7, k8, k9, k10, k11, k12, k13, k14, k15, k16, k17, k18, k19, k20⟩ := HS2.out.rows_at him
        go_upto_region 11 with fail
        obtain ⟨A3, hS3⟩ := HS2.out.hit (j := idx) (v := 0) k6 k2 ⟨by omega, by omega⟩
        clear k1 k2 k3 k4 k5 k6 k7 k8 k9 k10 k11 k12 k13 k14 k15 k16 k17 k18 k19 k20
        generalize (V2.setCell ⟨r, idx, none⟩ (.int .i64 0)) = V3 at *
        have HS3 := hide hS3
        clear hS3
        by_cases t0 : 0 < x.r
        · obtain ⟨j, hj⟩ : ∃ j : Nat, idx = j + 1 := ⟨idx - 1, by have := HIDX.out; omega⟩
          obtain ⟨x4, y4, k1, k2, k3, k4, k5, k6, k7, k8, k9, k10, k11, k12, k13, k14, k15, k16, k17, k18, k19, k20⟩ := HS3.out.rows_at (k := j) (by omega)
          have wv1 : IntKind.i64.wrap ((idx : Int) - 1) = (j : Int) := by rw [IntWalk.i64_in _ (by omega)]; omega
          have wv2 : IntKind.i64.wrap (y4 + 1) = y4 + 1 := IntWalk.i64_in _ (by omega)
          have j0 : (0 : Int) ≤ (j : Int) := by omega
          have j1 : (j : Int) < (m : Int) := by omega
          have HJ := hide hj
          clear hj
          go_upto_region 12 with fail
          go_still_tail 17, (by kernel_rfl)
          change wpList _ _ _ _ _ (World.drew V3)
          have hv : 0 ≤ (if 100000 < y4 + 1 then 100000 else y4 + 1) ∧ (if 100000 < y4 + 1 then 100000 else y4 + 1) ≤ 100000 := by split <;> omega
          generalize (if 100000 < y4 + 1 then 100000 else y4 + 1) = mw at hv ⊢
          go_upto_region 13 with fail
          obtain ⟨A4, hS4⟩ := HS3.out.hit (j := j) (v := mw) k6 k2 hv
          have hS5 := hS4.drew
          clear k1 k2 k3 k4 k5 k6 k7 k8 k9 k10 k11 k12 k13 k14 k15 k16 k17 k18 k19 k20 wv1 wv2 j0 j1 hS4
          generalize (V3.setCell ⟨r, j, none⟩ (.int .i64 mw)).drew = V4 at *
          have HS4 := hide hS5
          clear hS5
          by_cases t1 : x.r < g.rw - 1
          · obtain ⟨j9, hj9⟩ : ∃ j : Nat, j = idx + 1 := ⟨_, rfl⟩
            obtain ⟨x5, y5, k1, k2, k3, k4, k5, k6, k7, k8, k9, k10, k11, k12, k13, k14, k15, k16, k17, k18, k19, k20⟩ := HS4.out.rows_at (k := j9) (by have := hrn t1; omega)
            have wv1 : IntKind.i64.wrap ((idx : Int) + 1) = (j9 : Int) := by rw [IntWalk.i64_in _ (by omega)]; omega
            have wv2 : IntKind.i64.wrap (y5 + 1) = y5 + 1 := IntWalk.i64_in _ (by omega)
            have wv3 : IntKind.i64.wrap (g.rw - 1) = g.rw - 1 := IntWalk.i64_in _ (by omega)
            have j0 : (0 : Int) ≤ (j9 : Int) := by omega
            have j1 : (j9 : Int) < (m : Int) := by have := hrn t1; omega
            have HJ9 := hide hj9
            clear hj9
            go_upto_region 14 with fail
            go_still_tail 17, (by kernel_rfl)
            change wpList _ _ _ _ _ (World.drew V4)
            have hv : 0 ≤ (if 100000 < y5 + 1 then 100000 else y5 + 1) ∧ (if 100000 < y5 + 1 then 100000 else y5 + 1) ≤ 100000 := by split <;> omega
            generalize (if 100000 < y5 + 1 then 100000 else y5 + 1) = mv at hv ⊢
            go_wp2_with fail
            go_end0
            obtain ⟨A9, h9⟩ := HS4.out.hit (j := j9) (v := mv) k6 k2 hv
            exact ⟨rfl, h9.drew.turned⟩
          · obtain ⟨x5, y5, k1, k2, k3, k4, k5, k6, k7, k8, k9, k10, k11, k12, k13, k14, k15, k16, k17, k18, k19, k20⟩ := HS4.out.rows_at (k := idx) him
            have wv3 : IntKind.i64.wrap (g.rw - 1) = g.rw - 1 := IntWalk.i64_in _ (by omega)
            go_wp2_with fail
            go_end0
            exact ⟨rfl, HS4.out.turned⟩
        · skip
          by_cases t1 : x.r < g.rw - 1
          · obtain ⟨j9, hj9⟩ : ∃ j : Nat, j = idx + 1 := ⟨_, rfl⟩
            obtain ⟨x5, y5, k1, k2, k3, k4, k5, k6, k7, k8, k9, k10, k11, k12, k13, k14, k15, k16, k17, k18, k19, k20⟩ := HS3.out.rows_at (k := j9) (by have := hrn t1; omega)
            have wv1 : IntKind.i64.wrap ((idx : Int) + 1) = (j9 : Int) := by rw [IntWalk.i64_in _ (by omega)]; omega
            have wv2 : IntKind.i64.wrap (y5 + 1) = y5 + 1 := IntWalk.i64_in _ (by omega)
            have wv3 : IntKind.i64.wrap (g.rw - 1) = g.rw - 1 := IntWalk.i64_in _ (by omega)
            have j0 : (0 : Int) ≤ (j9 : Int) := by omega
            have j1 : (j9 : Int) < (m : Int) := by have := hrn t1; omega
            have HJ9 := hide hj9
            clear hj9
            go_upto_region 14 with fail
            go_still_tail 17, (by kernel_rfl)
            change wpList _ _ _ _ _ (World.drew V3)
            have hv : 0 ≤ (if 100000 < y5 + 1 then 100000 else y5 + 1) ∧ (if 100000 < y5 + 1 then 100000 else y5 + 1) ≤ 100000 := by split <;> omega
            generalize (if 100000 < y5 + 1 then 100000 else y5 + 1) = mv at hv ⊢
            go_wp2_with fail
            go_end0
            obtain ⟨A9, h9⟩ := HS3.out.hit (j := j9) (v := mv) k6 k2 hv
            exact ⟨rfl, h9.drew.turned⟩
          · exact absurd t0 (by omega)
end Go.Proofs.Ytkhcepmileiejaa
