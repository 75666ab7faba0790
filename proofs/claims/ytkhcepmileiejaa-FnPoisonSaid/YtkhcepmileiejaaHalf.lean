/- An array of the call's own behind a pointer: its header in a block of its own, apart from all its rows. -/
import Derived.Test.YtkhcepmileiejaaArW
import Derived.Deep.RegionLaw
import Derived.Maps.AppendAt
set_option linter.unusedSimpArgs false
set_option linter.unusedVariables false
namespace Go.Proofs.Ytkhcepmileiejaa
open Go.RowKit Go.ChangeShapes Go.WideShapes Go.ChangeAt Go.Joins Go.Deep
open Go.ChangeMaps (open_string shut_string)
structure Half (lo p : Nat) (w : World) (A : Ar) : Prop where
  own : OwnAr lo w.heap.size w A
  blk : w.heap[p]? = some (.cells #[.slice A.a A.n A.c, .slice A.ag.1.a A.ag.1.n A.ag.1.c, .slice A.ht.1.a A.ht.1.n A.ht.1.c] 34 (0, 0))
  rows : ∀ r ∈ A.rows, Apart r.1.a (some ⟨p, 0, none⟩)
  out : Apart A.a (some ⟨p, 0, none⟩)
theorem OwnAr.far {lo hi : Nat} {w w' : World} {A : Ar} {b : Option Addr} (h : OwnAr lo hi w A) (hs : OneW b w w') (h1 : Apart b A.a) (h2 : ∀ r ∈ A.rows, Apart b r.1.a) : OwnAr lo hi w' A :=
  ⟨h.outer.off hs h1, fun r hr => (h.sep.rows r hr).off hs (h2 r hr), h.sep.apart, h.sep.off⟩
theorem below_drew {n : Nat} {y z : World} (h : Below n (World.drew y) z) : Below n y z := ⟨h.os, h.tape, h.output, h.size, h.block⟩
section
variable {lo p : Nat} {w w' : World} {A : Ar}
theorem Half.lt (h : Half lo p w A) : p < w.heap.size := lt_blk h.blk
theorem Half.below (h : Half lo p w A) (hb : Below w.heap.size w w') : Half lo p w' A :=
  ⟨(h.own.below hb (Nat.le_refl _)).wide (Nat.le_refl _) hb.size, (hb.block p h.lt).trans h.blk, h.rows, h.out⟩
/-- Behind a call that makes memory: the header is as it was. -/
theorem Half.step (h : Half lo p w A) (hb : Below w.heap.size w w') : Half lo p w' A ∧ w'.cell? ⟨p, 0, none⟩ = some (.slice A.a A.n A.c) ∧ (∀ o, w'.frozen? ⟨p, o, none⟩ = false) ∧ w.heap.size ≤ w'.heap.size ∧ p < w'.heap.size ∧ ¬ p = w'.heap.size := by
  have h1 := h.below hb
  exact ⟨h1, cell_blk h1.blk 0, fun o => free_blk h1.blk o, hb.size, h1.lt, by have := h1.lt; omega⟩
theorem own_apart {a : Option Addr} {n c p : Nat} (h : Apart a (some ⟨p, 0, none⟩)) : some p ≠ (Value.slice a n c).ownBlock := by
  cases a with
  | none => intro e; cases e
  | some x => intro e; exact h x _ rfl rfl (by injection e with e; exact e.symm)
/-- Behind an append to the outer row: the header is as it was. -/
theorem Half.grown {o : Obj} (h : Half lo p w A) (hg : (w.alloc o).grownBy w' (Value.slice A.a A.n A.c).ownBlock) : w'.heap[p]? = w.heap[p]? := by
  rw [hg.block p (by have := h.lt; simp; omega) (own_apart h.out), alloc_lt _ _ _ h.lt]
theorem Half.grown2 {o : Obj} (h : Half lo p w A) (hg : (w.alloc o).grownBy w' (Value.slice A.a A.n A.c).ownBlock) : w'.cell? ⟨p, 0, none⟩ = some (.slice A.a A.n A.c) ∧ ∀ o, w'.frozen? ⟨p, o, none⟩ = false := by
  have hb := (h.grown hg).trans h.blk
  exact ⟨cell_blk hb 0, fun o => free_blk hb o⟩
/-- One more cell behind the others, and the header set. -/
theorem Half.push {o : Obj} {r : Hd × List Int} {f : Bool} {g c' : Nat} (h : Half lo p w A) (hr : OwnI lo w.heap.size w r) (hap : ∀ s ∈ A.rows, Apart s.1.a r.1.a) (hao : Apart r.1.a A.a) (hrp : Apart r.1.a (some ⟨p, 0, none⟩))
    (hg : (w.alloc o).grownBy w' (Value.slice A.a A.n A.c).ownBlock) (hown : w'.ownsRow lo 70 2 (.slice (some ⟨g, 0, none⟩) (A.n + 1) c') (A.n + 1) (A.es.flatMap clF ++ [.slice r.1.a r.1.n r.1.c, .bool f]))
    (hat : (Value.slice A.a A.n A.c).ownBlock = some g ∨ g = w.heap.size + 1) :
    Half lo p (w'.setCell ⟨p, 0, none⟩ (.slice (some ⟨g, 0, none⟩) (A.n + 1) c')) { A with a := some ⟨g, 0, none⟩, n := A.n + 1, c := c', es := A.es ++ [⟨r.1, r.2, f⟩] } := by
  have hz := h.own.outer.zero
  have hlt := h.lt
  have ho : OneW A.a w w' := (OneW.below A.a (Below.alloc (Below.refl _ _) (Nat.le_refl _) o)).trans (OneW.own hg hz)
  have hold : ∀ x : Addr, some (⟨g, 0, none⟩ : Addr) = some x → A.a = some x ∨ w.heap.size ≤ x.block := by
    intro x hx
    injection hx with hx
    subst hx
    rcases hat with h1 | h1
    · left
      cases ha : A.a with
      | none => rw [ha] at h1; cases h1
      | some y =>
        rw [ha] at h1
        injection h1 with h1
        obtain ⟨z1, z2⟩ := hz y ha
        obtain ⟨yb, yo, ys⟩ := y
        simp only at h1 z1 z2
        subst h1 z1 z2
        rfl
    · right; simp only; omega
  have hp := h.own.push (hi' := w'.heap.size) (p := f) (Nat.le_trans (by simp) hg.size) (Nat.le_refl _) (Nat.le_refl _) hr hap hao ho hown hold
  have hgp : Apart (some (⟨g, 0, none⟩ : Addr)) (some ⟨p, 0, none⟩) := by
    intro x y hx hy e
    rcases hold x hx with h1 | h1
    · exact h.out x y h1 hy e
    · injection hy with hy; subst hy; simp only at e; omega
  have hrows : ({ A with a := some ⟨g, 0, none⟩, n := A.n + 1, c := c', es := A.es ++ [⟨r.1, r.2, f⟩] } : Ar).rows = A.rows ++ [r] := by simp [Ar.rows, rowC]
  have hall : ∀ s ∈ A.rows ++ [r], Apart s.1.a (some ⟨p, 0, none⟩) := by
    intro s hs
    simp only [List.mem_append, List.mem_singleton] at hs
    rcases hs with hs | rfl
    · exact h.rows s hs
    · exact hrp
  refine ⟨?_, set_lit ((h.grown hg).trans h.blk) rfl, by rw [hrows]; exact hall, hgp⟩
  have := hp.far (OneW.set (g := p) (o := 0) (.slice (some ⟨g, 0, none⟩) (A.n + 1) c')) hgp.symm (by rw [hrows]; exact fun s hs => (hall s hs).symm)
  rw [World.size_setCell]; exact this
/-- A mark set. -/
theorem Half.flag {g i : Nat} {e : Cl} (h : Half lo p w A) (hg : A.a = some ⟨g, 0, none⟩) (he : A.es[i]? = some e) (f : Bool) : Half lo p (w.setCell ⟨g, i * 2 + 1, none⟩ (.bool f)) { A with es := A.es.set i ⟨e.h, e.ws, f⟩ } := by
  have h1 := h.own.flag hg he f
  have hgp : ¬ p = g := fun e => h.out _ _ hg rfl e.symm
  have hrw : (A.es.set i ⟨e.h, e.ws, f⟩).map rowC = A.es.map rowC := by
    rw [List.map_set]
    apply List.ext_getElem?; intro k
    by_cases hk : i = k
    · subst hk
      rw [List.getElem?_set_self (by rw [List.length_map]; exact (List.getElem?_eq_some_iff.1 he).1), List.getElem?_map, he]; rfl
    · rw [List.getElem?_set_ne hk]
  refine ⟨by rw [World.size_setCell]; exact h1, (heap_set_other w g _ p _ hgp).trans h.blk, ?_, h.out⟩
  unfold Ar.rows
  simp only
  rw [hrw]
  exact h.rows
/-- A cell's row replaced by a new one. -/
theorem Half.syms {g i : Nat} {e : Cl} {r : Hd × List Int} (h : Half lo p w A) (hg : A.a = some ⟨g, 0, none⟩) (he : A.es[i]? = some e) (hr : OwnI lo w.heap.size w r) (hap : ∀ s ∈ A.rows, Apart s.1.a r.1.a) (hao : Apart r.1.a A.a) (hrp : Apart r.1.a (some ⟨p, 0, none⟩)) :
    Half lo p (w.setCell ⟨g, i * 2, none⟩ (.slice r.1.a r.1.n r.1.c)) { A with es := A.es.set i ⟨r.1, r.2, e.p⟩ } := by
  have h1 := h.own.syms hg he hr hap hao
  have hgp : ¬ p = g := fun e => h.out _ _ hg rfl e.symm
  refine ⟨by rw [World.size_setCell]; exact h1, (heap_set_other w g _ p _ hgp).trans h.blk, ?_, h.out⟩
  intro s hs
  have hs' : s = A.ag ∨ s = A.ht ∨ s ∈ (A.es.map rowC).set i r := by
    simpa [Ar.rows, rowC, List.map_set] using hs
  rcases hs' with rfl | rfl | hs'
  · exact h.rows _ (by simp [Ar.rows])
  · exact h.rows _ (by simp [Ar.rows])
  · rcases List.mem_or_eq_of_mem_set hs' with hm | rfl
    · exact h.rows s (by simp only [Ar.rows, List.mem_cons]; exact .inr (.inr hm))
    · exact hrp
/-- New rows are apart from the array. -/
theorem Half.apart (h : Half lo p w A) {m : Nat} (hm : w.heap.size ≤ m) {a : Option Addr} (ha : ∀ x, a = some x → m ≤ x.block) : (∀ s ∈ A.rows, Apart s.1.a a) ∧ Apart a A.a ∧ Apart a (some ⟨p, 0, none⟩) := by
  obtain ⟨h1, h2⟩ := h.own.apart_new hm ha
  exact ⟨h1, h2, fun x y hx hy e => by have := ha x hx; injection hy with hy; subst hy; have := h.lt; simp only at e; omega⟩
end
end Go.Proofs.Ytkhcepmileiejaa
