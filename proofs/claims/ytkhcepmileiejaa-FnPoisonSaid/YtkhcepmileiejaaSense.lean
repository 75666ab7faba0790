/- What time and sensing do to an array of one's own: it stays valid. -/
import Derived.Test.YtkhcepmileiejaaArNew
import Derived.StillTailTactics
set_option linter.unusedSimpArgs false
set_option linter.unusedVariables false
namespace Go.Proofs.Ytkhcepmileiejaa
open Go.RowKit Go.ChangeShapes Go.WideShapes Go.ChangeAt Go.Joins Go.Deep
open Go.ChangeMaps (open_string shut_string)
theorem wf_small {v : Int} (h : 0 ≤ v ∧ v ≤ 1000000) : (Lit.int .i64 v).wf = true := by
  show (decide (IntKind.min .i64 ≤ v) && decide (v ≤ IntKind.max .i64)) = true
  rw [show IntKind.min .i64 = -9223372036854775808 from rfl, show IntKind.max .i64 = 9223372036854775807 from rfl]
  simp; omega
theorem OwnI.put {lo hi q n c j : Nat} {w : World} {zs : List Int} {v : Int} (h : OwnI lo hi w (⟨some ⟨q, 0, none⟩, n, c⟩, zs)) (hv : 0 ≤ v ∧ v ≤ 1000000) : OwnI lo hi (w.setCell ⟨q, j, none⟩ (.int .i64 v)) (⟨some ⟨q, 0, none⟩, n, c⟩, zs.set j v) := by
  refine ⟨?_, fun z hz => ?_⟩
  · have := (h.1.store j (.int .i64 v)).1
    simpa [List.map_set] using this
  · rcases List.mem_or_eq_of_mem_set hz with h1 | h1
    · exact h.2 z h1
    · rw [h1]; exact wf_small hv
section
variable {lo p q j : Nat} {w : World} {A : Ar} {v : Int}
theorem Half.blk_set (h : Half lo p w A) (hq : Apart (some (⟨q, 0, none⟩ : Addr)) (some ⟨p, 0, none⟩)) (u : Value) : (w.setCell ⟨q, j, none⟩ u).heap[p]? = w.heap[p]? :=
  heap_set_other w q j p u (fun e => hq _ _ rfl rfl e.symm)
theorem Half.ageSet (h : Half lo p w A) (hq : A.ag.1.a = some ⟨q, 0, none⟩) (hv : 0 ≤ v ∧ v ≤ 1000000) : Half lo p (w.setCell ⟨q, j, none⟩ (.int .i64 v)) { A with ag := (A.ag.1, A.ag.2.set j v) } := by
  obtain ⟨a, n, c, es, ⟨⟨a2, n2, c2⟩, z2⟩, ht⟩ := A
  simp only at hq; subst hq
  have hr := h.rows (⟨some ⟨q, 0, none⟩, n2, c2⟩, z2) (by simp [Ar.rows])
  have h1 := h.own.age (w' := w.setCell ⟨q, j, none⟩ (.int .i64 v)) (zs := z2.set j v) (OneW.set _) ((h.own.sep.rows (⟨some ⟨q, 0, none⟩, n2, c2⟩, z2) (by simp [Ar.rows])).put hv)
  refine ⟨by rw [World.size_setCell]; exact h1, (h.blk_set hr _).trans h.blk, ?_, h.out⟩
  intro r hr'
  simp only [Ar.rows, List.mem_cons] at hr'
  rcases hr' with rfl | rfl | hr'
  · exact hr
  · exact h.rows _ (by simp [Ar.rows])
  · exact h.rows r (by simp only [Ar.rows, List.mem_cons]; exact .inr (.inr hr'))
theorem Half.hitSet (h : Half lo p w A) (hq : A.ht.1.a = some ⟨q, 0, none⟩) (hv : 0 ≤ v ∧ v ≤ 1000000) : Half lo p (w.setCell ⟨q, j, none⟩ (.int .i64 v)) { A with ht := (A.ht.1, A.ht.2.set j v) } := by
  obtain ⟨a, n, c, es, ag, ⟨⟨a3, n3, c3⟩, z3⟩⟩ := A
  simp only at hq; subst hq
  have hr := h.rows (⟨some ⟨q, 0, none⟩, n3, c3⟩, z3) (by simp [Ar.rows])
  have h1 := h.own.hits (w' := w.setCell ⟨q, j, none⟩ (.int .i64 v)) (zs := z3.set j v) (OneW.set _) ((h.own.sep.rows (⟨some ⟨q, 0, none⟩, n3, c3⟩, z3) (by simp [Ar.rows])).put hv)
  refine ⟨by rw [World.size_setCell]; exact h1, (h.blk_set hr _).trans h.blk, ?_, h.out⟩
  intro r hr'
  simp only [Ar.rows, List.mem_cons] at hr'
  rcases hr' with rfl | rfl | hr'
  · exact h.rows _ (by simp [Ar.rows])
  · exact hr
  · exact h.rows r (by simp only [Ar.rows, List.mem_cons]; exact .inr (.inr hr'))
theorem Half.symSet {i : Nat} {e : Cl} (h : Half lo p w A) (he : A.es[i]? = some e) (hq : e.h.a = some ⟨q, 0, none⟩) (hv : 0 ≤ v ∧ v ≤ 1000000) : Half lo p (w.setCell ⟨q, j, none⟩ (.int .i64 v)) { A with es := A.es.set i ⟨e.h, e.ws.set j v, e.p⟩ } := by
  obtain ⟨⟨ea, en, ec⟩, ews, ep⟩ := e
  simp only at hq; subst hq
  have hm : rowC ⟨⟨some ⟨q, 0, none⟩, en, ec⟩, ews, ep⟩ ∈ A.rows := by simp only [Ar.rows, List.mem_cons, List.mem_map]; exact .inr (.inr ⟨_, List.mem_of_getElem? he, rfl⟩)
  have hr := h.rows _ hm
  have h1 := h.own.row he (w' := w.setCell ⟨q, j, none⟩ (.int .i64 v)) (zs := ews.set j v) (OneW.set _) ((h.own.sep.rows _ hm).put hv)
  refine ⟨by rw [World.size_setCell]; exact h1, (h.blk_set hr _).trans h.blk, ?_, h.out⟩
  intro r hr'
  have hs' : r = A.ag ∨ r = A.ht ∨ r ∈ (A.es.map rowC).set i (⟨some ⟨q, 0, none⟩, en, ec⟩, ews.set j v) := by
    simpa [Ar.rows, rowC, List.map_set] using hr'
  rcases hs' with rfl | rfl | hs'
  · exact h.rows _ (by simp [Ar.rows])
  · exact h.rows _ (by simp [Ar.rows])
  · rcases List.mem_or_eq_of_mem_set hs' with hm' | rfl
    · exact h.rows r (by simp only [Ar.rows, List.mem_cons]; exact .inr (.inr hm'))
    · exact hr
end
theorem all_set {α : Type} {P : α → Prop} {xs : List α} {j : Nat} {v : α} (h : ∀ x ∈ xs, P x) (hv : P v) : ∀ x ∈ xs.set j v, P x := fun x hx => by
  rcases List.mem_or_eq_of_mem_set hx with h1 | h1
  · exact h x h1
  · rw [h1]; exact hv
theorem arOk_mk {g : Ge} {C : Con} (h : geoOk g = true ∧ (C.cs.length : Int) = lineCnt g ∧ (C.ag.length : Int) = bankCnt g * g.rw ∧ (C.ht.length : Int) = bankCnt g * g.rw ∧ (∀ c ∈ C.cs, symOkB c.1 11 = true) ∧ (∀ z ∈ C.ag, ageOk z = true) ∧ ∀ z ∈ C.ht, ageOk z = true) : arOk g C = true := by
  simp only [arOk, Bool.and_eq_true, beq_iff_eq, List.all_eq_true]
  exact ⟨⟨h.1, h.2.1, h.2.2.1, h.2.2.2.1⟩, h.2.2.2.2.1, h.2.2.2.2.2.1, h.2.2.2.2.2.2⟩
theorem arOk_age {g : Ge} {cs : List (List Int × Bool)} {ag ht : List Int} {j : Nat} {v : Int} (h : arOk g ⟨cs, ag, ht⟩ = true) (hv : ageOk v = true) : arOk g ⟨cs, ag.set j v, ht⟩ = true := by
  obtain ⟨h1, h2, h3, h4, h5, h6, h7⟩ := arOk_of h
  exact arOk_mk ⟨h1, h2, by simpa using h3, h4, h5, all_set h6 hv, h7⟩
theorem arOk_hit {g : Ge} {cs : List (List Int × Bool)} {ag ht : List Int} {j : Nat} {v : Int} (h : arOk g ⟨cs, ag, ht⟩ = true) (hv : ageOk v = true) : arOk g ⟨cs, ag, ht.set j v⟩ = true := by
  obtain ⟨h1, h2, h3, h4, h5, h6, h7⟩ := arOk_of h
  exact arOk_mk ⟨h1, h2, h3, by simpa using h4, h5, h6, all_set h7 hv⟩
theorem arOk_cell {g : Ge} {cs : List (List Int × Bool)} {ag ht : List Int} {j : Nat} {c : List Int × Bool} (h : arOk g ⟨cs, ag, ht⟩ = true) (hv : symOkB c.1 11 = true) : arOk g ⟨cs.set j c, ag, ht⟩ = true := by
  obtain ⟨h1, h2, h3, h4, h5, h6, h7⟩ := arOk_of h
  exact arOk_mk ⟨h1, by simpa using h2, h3, h4, all_set h5 hv, h6, h7⟩
/-- The array is turned in place, and stays valid. -/
def Turned (lo p : Nat) (g : Ge) (w : World) (e : Ending) (w' : World) : Prop := e = .returned (.tuple #[]) ∧ ∃ A' : Ar, Half lo p w' A' ∧ arOk g A'.con = true ∧ Below lo w w'
set_option maxRecDepth 100000 in
set_option maxHeartbeats 4000000 in
theorem spec_l14Time (lo p : Nat) (g : Ge) (A : Ar) (n : Int) (w : World) (hn : 0 ≤ n ∧ n ≤ 29) (hF : Half lo p w A) (hok : arOk g A.con = true) (hlo : lo ≤ w.heap.size) :
    Calls Try.prog 90 #[.pointer (some ⟨p, 0, none⟩), .int .i64 n] w (Turned lo p g w) := by
  obtain ⟨a, nn, c, es, ⟨⟨a2, m, c2⟩, z2⟩, ht⟩ := A
  have hn0 := hn.1; have hn1 := hn.2
  have hm : m ≤ 128 := by
    have h3 := (arOk_of hok).2.2.1
    obtain ⟨k, hk, hk0, hk1⟩ := rows_wrap g
    have h4 := (hF.own.sep.rows (⟨a2, m, c2⟩, z2) (by simp [Ar.rows])).ints.1
    simp only [Ar.con] at h3 h4
    omega
  have hlen := (hF.own.sep.rows (⟨a2, m, c2⟩, z2) (by simp [Ar.rows])).ints.1
  simp only at hlen
  have HF := hide hF; have HOK := hide hok; have HL := hide hlen
  clear hF hok hn hlen
  go_enter Try.func90, Try.ntmps90
  go_wp2_with fail
  go_loopw [4] (fun vi wr => ∃ (k : Nat) (zs : List Int), k ≤ m ∧ vi = .int .i64 k ∧ Hid (zs.length = m) ∧ Hid (Half lo p wr ⟨a, nn, c, es, (⟨a2, m, c2⟩, zs), ht⟩) ∧ Hid (arOk g ⟨es.map conC, zs, ht.2⟩ = true) ∧ Hid (Below lo w wr)) (fun vi _ => m - (intOf vi).toNat)
  case atStart => exact ⟨0, z2, by omega, rfl, HL, HF, HOK, hide (Below.refl _ _)⟩
  case round =>
    clear HF HOK HL
    obtain ⟨k, zs, hk, rfl, HL, HF, HOK, HB⟩ := hrel
    have c1 := cell_blk HF.out.blk 1
    simp only at c1
    by_cases hlt : k < m
    · have hrow := (HF.out.own.sep.rows (⟨a2, m, c2⟩, zs) (by simp [Ar.rows])).1
      obtain ⟨q, hqa, hq1, hq2, hq3, hcell, hfr⟩ := hrow.some (by show 0 < m; omega)
      simp only at hqa
      subst hqa
      obtain ⟨z, hz⟩ : ∃ z, zs[k]? = some z := ⟨_, List.getElem?_eq_getElem (by rw [HL.out]; exact hlt)⟩
      have e0 : wr.cell? ⟨q, k, none⟩ = some (.int .i64 z) := (hcell k (by show k < m * 1; omega)).trans (by rw [List.getElem?_map, hz]; rfl)
      have hzb := btw_true.1 ((arOk_of HOK.out).2.2.2.2.2.1 z (List.mem_of_getElem? hz))
      have hz0 := hzb.1; have hz1 := hzb.2
      have hf0 := fun o => (hfr o : wr.frozen? ⟨q, o, none⟩ = false)
      have i0 : (0 : Int) ≤ (k : Int) := by omega
      have i1 : (k : Int) < (m : Int) := by omega
      have hw9 : IntKind.i64.wrap (z + n) = z + n := IntWalk.i64_in _ (by omega)
      clear hrow hcell hz hzb hfr
      go_wp2_with fail
      go_still_tail 16, (by kernel_rfl)
      change wpList _ _ _ _ _ (World.drew wr)
      go_wp2_with fail
      go_roundw
      case rel =>
        have hv : 0 ≤ (if 100000 < z + n then 100000 else z + n) ∧ (if 100000 < z + n then 100000 else z + n) ≤ 100000 := by split <;> omega
        have hH := (HF.out.ageSet (j := k) (v := if 100000 < z + n then 100000 else z + n) rfl ⟨hv.1, by omega⟩).below (Below.drew (Below.refl _ _))
        exact ⟨k + 1, zs.set k (if 100000 < z + n then 100000 else z + n), by omega, by go_num, hide (by rw [List.length_set]; exact HL.out), hide hH, hide (arOk_age HOK.out (btw_mk hv.1 hv.2)), hide (Below.drew (HB.out.setCell (p := ⟨q, k, none⟩) hq1 _))⟩
      case measure => simp [intOf]; omega
    · go_wp2_with fail
      go_end0
      exact ⟨rfl, _, HF.out, HOK.out, HB.out⟩
/-- Whether a row has lost its charge: an answer, whichever; nothing is written. -/
def Answered (w : World) (e : Ending) (w' : World) : Prop := ∃ v : Bool, e = .returned (.bool v) ∧ Below w.heap.size w w'
set_option maxRecDepth 100000 in
set_option maxHeartbeats 4000000 in
theorem spec_l14Gone (g : Ge) (l1 l2 : Int) (A : Ar) (i : Nat) (w : World) (hA : IsAr w A) (hi : i < A.ag.1.n ∧ i < A.ht.1.n) :
    Calls Try.prog 110 #[.agg #[.int .i64 g.gr, .int .i64 g.bk, .int .i64 g.rw, .int .i64 g.cl], .agg #[.int .i64 l1, .int .i64 l2], .agg #[.slice A.a A.n A.c, .slice A.ag.1.a A.ag.1.n A.ag.1.c, .slice A.ht.1.a A.ht.1.n A.ht.1.c], .int .i64 (i : Nat)] w (Answered w) := by
  obtain ⟨a, n, c, es, ⟨⟨a2, n2, c2⟩, z2⟩, ⟨⟨a3, n3, c3⟩, z3⟩⟩ := A
  obtain ⟨_, h5, h6⟩ := hA
  simp only at h5 h6 hi
  obtain ⟨x, b5, o5, hx, rfl, hl5, hc5⟩ := h5.2.2.2.2.get (k := i) (by rw [h5.1]; exact hi.1)
  obtain ⟨y, b6, o6, hy, rfl, hl6, hc6⟩ := h6.2.2.2.2.get (k := i) (by rw [h6.1]; exact hi.2)
  have i0 : (0 : Int) ≤ (i : Int) := by omega
  have i1 : (i : Int) < (n2 : Int) := by omega
  have i2 : (i : Int) < (n3 : Int) := by omega
  clear h5 h6 hi hx hy
  by_cases q : l1 < x
  · have d1 : decide (l1 < x) = true := by simpa using q
    go_enter Try.func110, Try.ntmps110
    go_wp2_with fail
    have hB : Below w.heap.size w (((w.alloc (.cells #[.int .i64 g.gr, .int .i64 g.bk, .int .i64 g.rw, .int .i64 g.cl] 30)).alloc (.cells #[.int .i64 l1, .int .i64 l2] 57)).alloc (.cells #[.slice a n c, .slice (some ⟨b5, o5, none⟩) n2 c2, .slice (some ⟨b6, o6, none⟩) n3 c3] 34)) := by go_grown
    have hs : w.heap.size + 3 ≤ (((w.alloc (.cells #[.int .i64 g.gr, .int .i64 g.bk, .int .i64 g.rw, .int .i64 g.cl] 30)).alloc (.cells #[.int .i64 l1, .int .i64 l2] 57)).alloc (.cells #[.slice a n c, .slice (some ⟨b5, o5, none⟩) n2 c2, .slice (some ⟨b6, o6, none⟩) n3 c3] 34)).heap.size := by simp
    have m0 : (((w.alloc (.cells #[.int .i64 g.gr, .int .i64 g.bk, .int .i64 g.rw, .int .i64 g.cl] 30)).alloc (.cells #[.int .i64 l1, .int .i64 l2] 57)).alloc (.cells #[.slice a n c, .slice (some ⟨b5, o5, none⟩) n2 c2, .slice (some ⟨b6, o6, none⟩) n3 c3] 34)).heap[w.heap.size + 1]? = some (.cells #[.int .i64 l1, .int .i64 l2] 57 (0, 0)) := by rw [alloc_lt _ _ _ (by simp; try omega)]; exact alloc_at _ _ _ (by simp)
    have m1 : (((w.alloc (.cells #[.int .i64 g.gr, .int .i64 g.bk, .int .i64 g.rw, .int .i64 g.cl] 30)).alloc (.cells #[.int .i64 l1, .int .i64 l2] 57)).alloc (.cells #[.slice a n c, .slice (some ⟨b5, o5, none⟩) n2 c2, .slice (some ⟨b6, o6, none⟩) n3 c3] 34)).heap[w.heap.size + 1 + 1]? = some (.cells #[.slice a n c, .slice (some ⟨b5, o5, none⟩) n2 c2, .slice (some ⟨b6, o6, none⟩) n3 c3] 34 (0, 0)) := alloc_at _ _ _ (by simp)
    have x5 := ((bcell hB).1 b5 (o5 + i) hl5).trans hc5
    have x6 := ((bcell hB).1 b6 (o6 + i) hl6).trans hc6
    generalize (((w.alloc (.cells #[.int .i64 g.gr, .int .i64 g.bk, .int .i64 g.rw, .int .i64 g.cl] 30)).alloc (.cells #[.int .i64 l1, .int .i64 l2] 57)).alloc (.cells #[.slice a n c, .slice (some ⟨b5, o5, none⟩) n2 c2, .slice (some ⟨b6, o6, none⟩) n3 c3] 34)) = W at *
    have e0 := cell_blk m0 0; have e1 := cell_blk m0 1; have f0 := cell_blk m1 0; have f1 := cell_blk m1 1; have f2 := cell_blk m1 2
    clear m0 m1
    go_quiet (fail)
    go_wp2_with fail
    go_ret
    exact ⟨_, rfl, bdrawn hB _⟩
  · have d1 : decide (l1 < x) = false := by simpa using q
    go_enter Try.func110, Try.ntmps110
    go_wp2_with fail
    have hB : Below w.heap.size w (((w.alloc (.cells #[.int .i64 g.gr, .int .i64 g.bk, .int .i64 g.rw, .int .i64 g.cl] 30)).alloc (.cells #[.int .i64 l1, .int .i64 l2] 57)).alloc (.cells #[.slice a n c, .slice (some ⟨b5, o5, none⟩) n2 c2, .slice (some ⟨b6, o6, none⟩) n3 c3] 34)) := by go_grown
    have hs : w.heap.size + 3 ≤ (((w.alloc (.cells #[.int .i64 g.gr, .int .i64 g.bk, .int .i64 g.rw, .int .i64 g.cl] 30)).alloc (.cells #[.int .i64 l1, .int .i64 l2] 57)).alloc (.cells #[.slice a n c, .slice (some ⟨b5, o5, none⟩) n2 c2, .slice (some ⟨b6, o6, none⟩) n3 c3] 34)).heap.size := by simp
    have m0 : (((w.alloc (.cells #[.int .i64 g.gr, .int .i64 g.bk, .int .i64 g.rw, .int .i64 g.cl] 30)).alloc (.cells #[.int .i64 l1, .int .i64 l2] 57)).alloc (.cells #[.slice a n c, .slice (some ⟨b5, o5, none⟩) n2 c2, .slice (some ⟨b6, o6, none⟩) n3 c3] 34)).heap[w.heap.size + 1]? = some (.cells #[.int .i64 l1, .int .i64 l2] 57 (0, 0)) := by rw [alloc_lt _ _ _ (by simp; try omega)]; exact alloc_at _ _ _ (by simp)
    have m1 : (((w.alloc (.cells #[.int .i64 g.gr, .int .i64 g.bk, .int .i64 g.rw, .int .i64 g.cl] 30)).alloc (.cells #[.int .i64 l1, .int .i64 l2] 57)).alloc (.cells #[.slice a n c, .slice (some ⟨b5, o5, none⟩) n2 c2, .slice (some ⟨b6, o6, none⟩) n3 c3] 34)).heap[w.heap.size + 1 + 1]? = some (.cells #[.slice a n c, .slice (some ⟨b5, o5, none⟩) n2 c2, .slice (some ⟨b6, o6, none⟩) n3 c3] 34 (0, 0)) := alloc_at _ _ _ (by simp)
    have x5 := ((bcell hB).1 b5 (o5 + i) hl5).trans hc5
    have x6 := ((bcell hB).1 b6 (o6 + i) hl6).trans hc6
    generalize (((w.alloc (.cells #[.int .i64 g.gr, .int .i64 g.bk, .int .i64 g.rw, .int .i64 g.cl] 30)).alloc (.cells #[.int .i64 l1, .int .i64 l2] 57)).alloc (.cells #[.slice a n c, .slice (some ⟨b5, o5, none⟩) n2 c2, .slice (some ⟨b6, o6, none⟩) n3 c3] 34)) = W at *
    have e0 := cell_blk m0 0; have e1 := cell_blk m0 1; have f0 := cell_blk m1 0; have f1 := cell_blk m1 1; have f2 := cell_blk m1 2
    clear m0 m1
    go_quiet (fail)
    go_wp2_with fail
    go_ret
    exact ⟨_, rfl, bdrawn hB _⟩
end Go.Proofs.Ytkhcepmileiejaa
