/- An array of cells: each a row of symbols and a mark; two more rows of numbers. Its memory: one outer block, a block a row, all apart. -/
import Derived.Test.YtkhcepmileiejaaNest
import Derived.Test.YtkhcepmileiejaaInts
set_option linter.unusedSimpArgs false
set_option linter.unusedVariables false
namespace Go.Proofs.Ytkhcepmileiejaa
open Go.RowKit Go.ChangeShapes Go.WideShapes Go.ChangeAt Go.Joins Go.Deep
open Go.ChangeMaps (open_string shut_string)
structure Cl where
  h : Hd
  ws : List Int
  p : Bool
def clF (x : Cl) : List Value := [.slice x.h.a x.h.n x.h.c, .bool x.p]
theorem clF_len (x : Cl) : (clF x).length = 2 := rfl
def IsCells (w : World) (a : Option Addr) (n c : Nat) (es : List Cl) : Prop := IsStructs clF 2 w a n c es ∧ ∀ e ∈ es, IsInts .i64 w e.h.a e.h.n e.h.c e.ws
theorem IsCells.below {w w' : World} {a : Option Addr} {n c : Nat} {es : List Cl} {B : Nat} (h : IsCells w a n c es) (hb : Below B w w') (hB : w.heap.size ≤ B) : IsCells w' a n c es :=
  ⟨h.1.below hb hB, fun e he => (h.2 e he).below hb hB⟩
theorem isCells_of {H : Type} {enc : TypeId × Value → H} {w : World} {base : Nat} {held : Bool} {fuel : Nat} {cs : List Value} {x : DataW H × List MemPlace}
    (h : DataW.trod enc Try.prog w base (fun _ => true) held fuel 24 cs = some x) : ∃ a n c es, cs = [.slice a n c] ∧ IsCells w a n c es := by
  rcases open_slice_fields Try.underlying24 Try.underlying92 (by kernel_rfl) (by kernel_rfl) h with h0 | ⟨a, len, cap, hcs, hl, hm, hi⟩
  · exact ⟨none, 0, 0, [], h0, ⟨rfl, Nat.le_refl _, Nat.zero_le _, RowIn.nil _ _⟩, by simp⟩
  · obtain ⟨es, hlen, hes⟩ := exists_list (P := fun i (e : Cl) => (∀ j v, (clF e)[j]? = some v → w.cell? (a.add (i * 2 + j)) = some v) ∧ IsInts .i64 w e.h.a e.h.n e.h.c e.ws) len (fun i hi' => by
      obtain ⟨n, hf⟩ := hi i hi'
      obtain ⟨v0, y0, c0, t0⟩ := hf 0 _ rfl
      obtain ⟨v1, y1, c1, t1⟩ := hf 1 _ rfl
      obtain ⟨a', n', c', zs, e0, hr⟩ := isInts_of Try.underlying25 Try.underlying3 (by kernel_rfl) t0
      obtain ⟨z1, e1, _⟩ := DataW.trod_bool Try.underlying4 t1
      simp only [List.cons.injEq, and_true] at e0 e1
      subst e0 e1
      refine ⟨⟨⟨a', n', c'⟩, zs, z1⟩, fun j v hv => ?_, hr⟩
      match j, hv with
      | 0, hv => simp [clF] at hv; subst hv; exact c0
      | 1, hv => simp [clF] at hv; subst hv; exact c1)
    refine ⟨some a, len, cap, es, hcs, ⟨hlen, hl, hm, rowIn_of fun i v hv => ?_⟩, fun e he => ?_⟩
    · obtain ⟨k, j, e, rfl, he, hj, _⟩ := flat_of clF_len es i v hv
      exact (hes k e he).1 j v hj
    · obtain ⟨k, hk, rfl⟩ := List.getElem_of_mem he
      exact (hes k _ (List.getElem?_eq_getElem hk)).2

/-- The block of an address, as a stretch of one block; nothing where there is no address. -/
def segLo (a : Option Addr) : Nat := match a with | some x => x.block | none => 0
def segHi (a : Option Addr) : Nat := match a with | some x => x.block + 1 | none => 0
/-- From w to w' only the block of this address, and new ones, have turned. -/
def OneW (a : Option Addr) (w w' : World) : Prop := Save (segLo a) (segHi a) w w'
def Apart (a b : Option Addr) : Prop := ∀ x y, a = some x → b = some y → x.block ≠ y.block
theorem Apart.symm {a b : Option Addr} (h : Apart a b) : Apart b a := fun x y hx hy e => h y x hy hx e.symm
theorem Apart.none_left (b : Option Addr) : Apart none b := fun x y hx => by cases hx
theorem Apart.none_right (b : Option Addr) : Apart b none := fun x y _ hx => by cases hx
theorem Apart.of_lt {a b : Option Addr} {m : Nat} (ha : ∀ x, a = some x → x.block < m) (hb : ∀ x, b = some x → m ≤ x.block) : Apart a b := fun x y hx hy e => by have := ha x hx; have := hb y hy; omega
section
variable {lo hi n c : Nat} {w w' : World} {E : TypeId} {sz : Nat} {a b : Option Addr} {xs : List Value}
theorem Owned.seg (h : Owned lo hi w E sz a n c xs) : Owned (segLo a) (segHi a) w E sz a n c xs := by
  cases a with
  | none => exact ⟨own_base h.1 (Nat.zero_le _), fun x hx => by cases hx⟩
  | some x =>
    refine ⟨⟨h.1.1, ?_⟩, fun y hy => by injection hy with hy; subst hy; exact Nat.lt_succ_self _⟩
    rcases h.1.2 with ⟨h0, _⟩ | ⟨g, cap, cur, h1, h2, h3⟩
    · injection h0 with e; cases e
    · refine .inr ⟨g, cap, cur, h1, ?_, h3⟩
      injection h1 with e1; injection e1 with e1; subst e1; exact Nat.le_refl _
theorem Owned.unseg {lo' hi' : Nat} (h : Owned lo' hi' w E sz a n c xs) (h1 : ∀ x : Addr, a = Option.some x → lo ≤ x.block ∧ x.block < hi) : Owned lo hi w E sz a n c xs := by
  refine ⟨⟨h.1.1, ?_⟩, fun x hx => (h1 x hx).2⟩
  rcases h.1.2 with h0 | ⟨g, cap, cur, e, h2, h3⟩
  · exact .inl h0
  · refine .inr ⟨g, cap, cur, e, ?_, h3⟩
    injection e with e1
    exact (h1 _ e1).1
theorem Owned.off (h : Owned lo hi w E sz a n c xs) (hs : OneW b w w') (hd : Apart b a) : Owned lo hi w' E sz a n c xs := by
  refine ⟨⟨h.1.1, ?_⟩, h.2⟩
  rcases h.1.2 with h0 | ⟨g, cap, cur, h1, h2, h3, h4⟩
  · exact .inl h0
  · refine .inr ⟨g, cap, cur, h1, h2, ?_, h4⟩
    injection h1 with e1 e2 e3
    rw [hs.block g (lt_blk h3) ?_]; exact h3
    cases b with
    | none => exact .inr (Nat.zero_le _)
    | some x => have := hd x _ rfl e1; simp only [segLo, segHi] at this ⊢; omega
end
theorem OneW.save {lo hi : Nat} {w w' : World} {a : Option Addr} (h : OneW a w w') (h1 : ∀ x, a = some x → lo ≤ x.block ∧ x.block < hi) : Save lo hi w w' := by
  cases a with
  | none => exact ⟨h.os, h.tape, h.output, h.size, fun k hk _ => h.block k hk (.inr (Nat.zero_le _))⟩
  | some x => obtain ⟨h2, h3⟩ := h1 x rfl; exact h.wide h2 (by simp only [segHi]; omega)
theorem OneW.below {w w' : World} (a : Option Addr) (h : Below w.heap.size w w') : OneW a w w' := Save.of_below h
theorem OneW.trans {a : Option Addr} {u v w : World} (h : OneW a u v) (k : OneW a v w) : OneW a u w := Save.trans h k
theorem OneW.set {w : World} {g o : Nat} (v : Value) : OneW (some ⟨g, 0, none⟩) w (w.setCell ⟨g, o, none⟩ v) :=
  ⟨rfl, rfl, rfl, by simp [World.setCell], fun k hk hr => heap_set_other w g o k v (by simp only [segLo, segHi] at hr; omega)⟩
theorem OneW.grown {w w' : World} {g : Nat} (h : w.grownBy w' (some g)) : OneW (some ⟨g, 0, none⟩) w w' :=
  ⟨h.os, h.tape, h.output, h.size, fun k hk hr => h.block k hk (by simp only [segLo, segHi] at hr; simp; omega)⟩
theorem OneW.own {w w' : World} {a : Option Addr} {n c : Nat} (h : w.grownBy w' (Value.slice a n c).ownBlock) (ha : ∀ x, a = some x → x.off = 0 ∧ x.spot = none) : OneW a w w' := by
  cases a with
  | none => exact ⟨h.os, h.tape, h.output, h.size, fun k hk _ => h.block k hk (by simp [Value.ownBlock])⟩
  | some x => exact ⟨h.os, h.tape, h.output, h.size, fun k hk hr => h.block k hk (by simp only [segLo, segHi] at hr; simp [Value.ownBlock]; omega)⟩
theorem Owned.zero {lo hi n c : Nat} {w : World} {E : TypeId} {sz : Nat} {a : Option Addr} {xs : List Value} (h : Owned lo hi w E sz a n c xs) : ∀ x : Addr, a = Option.some x → x.off = 0 ∧ x.spot = none := by
  intro x hx
  rcases h.1.2 with ⟨h0, _⟩ | ⟨g, cap, cur, h1, _⟩
  · injection h0 with e; rw [hx] at e; cases e
  · injection h1 with e; rw [hx] at e; injection e with e; subst e; exact ⟨rfl, rfl⟩
/-- A row of numbers of the call's own. -/
def OwnI (lo hi : Nat) (w : World) (r : Hd × List Int) : Prop := Owned lo hi w 3 1 r.1.a r.1.n r.1.c (r.2.map (.int .i64)) ∧ ∀ z ∈ r.2, (Lit.int .i64 z).wf = true
theorem OwnI.ints {lo hi : Nat} {w : World} {r : Hd × List Int} (h : OwnI lo hi w r) : IsInts .i64 w r.1.a r.1.n r.1.c r.2 := by
  obtain ⟨k1, k2, k3, k4⟩ := h.1.row
  exact ⟨by simpa using k1, k2, k3, h.2, k4⟩
def nilR : Hd × List Int := (⟨none, 0, 0⟩, [])
theorem OwnI.nil (lo hi : Nat) (w : World) : OwnI lo hi w nilR := ⟨⟨⟨rfl, .inl ⟨rfl, rfl⟩⟩, fun x hx => by cases hx⟩, fun z hz => by cases hz⟩
/-- Rows of the call's own, each in a block of its own, none of them the block of o. -/
structure Sep (lo hi : Nat) (w : World) (o : Option Addr) (rs : List (Hd × List Int)) : Prop where
  rows : ∀ r ∈ rs, OwnI lo hi w r
  apart : rs.Pairwise fun r s => Apart r.1.a s.1.a
  off : ∀ r ∈ rs, Apart r.1.a o
section
variable {lo hi : Nat} {w w' : World} {o : Option Addr} {rs : List (Hd × List Int)}
theorem OwnI.off {r : Hd × List Int} {b : Option Addr} (h : OwnI lo hi w r) (hs : OneW b w w') (hd : Apart b r.1.a) : OwnI lo hi w' r := ⟨h.1.off hs hd, h.2⟩
theorem OwnI.wide {lo' hi' : Nat} {r : Hd × List Int} (h : OwnI lo hi w r) (h1 : lo' ≤ lo) (h2 : hi ≤ hi') : OwnI lo' hi' w r := ⟨h.1.wide h1 h2, h.2⟩
theorem Sep.wide {lo' hi' : Nat} (h : Sep lo hi w o rs) (h1 : lo' ≤ lo) (h2 : hi ≤ hi') : Sep lo' hi' w o rs := ⟨fun r hr => (h.rows r hr).wide h1 h2, h.apart, h.off⟩
theorem Sep.save {lo' hi' : Nat} (h : Sep lo hi w o rs) (hs : Save lo' hi' w w') (hd : hi ≤ lo' ∨ hi' ≤ lo) : Sep lo hi w' o rs := ⟨fun r hr => ⟨(h.rows r hr).1.save hs hd, (h.rows r hr).2⟩, h.apart, h.off⟩
theorem Sep.below {B : Nat} (h : Sep lo hi w o rs) (hb : Below B w w') (hB : hi ≤ B) : Sep lo hi w' o rs := ⟨fun r hr => ⟨(h.rows r hr).1.below hb hB, (h.rows r hr).2⟩, h.apart, h.off⟩
theorem Sep.outer (h : Sep lo hi w o rs) (hs : OneW o w w') : Sep lo hi w' o rs := ⟨fun r hr => (h.rows r hr).off hs (h.off r hr).symm, h.apart, h.off⟩
theorem Sep.move (h : Sep lo hi w o rs) {o' : Option Addr} (ho : ∀ r ∈ rs, Apart r.1.a o') : Sep lo hi w o' rs := ⟨h.rows, h.apart, ho⟩
theorem Sep.nil (lo hi : Nat) (w : World) (o : Option Addr) : Sep lo hi w o [nilR, nilR] :=
  ⟨fun r hr => by simp at hr; subst hr; exact OwnI.nil _ _ _, by simp [nilR, Apart.none_left], fun r hr => by simp at hr; subst hr; exact Apart.none_left _⟩
theorem pair_at {α : Type} {R : α → α → Prop} {xs : List α} (h : xs.Pairwise R) (hR : ∀ x y, R x y → R y x) {i j : Nat} {x y : α} (hi : xs[i]? = some x) (hj : xs[j]? = some y) (hne : i ≠ j) : R x y := by
  obtain ⟨i1, rfl⟩ := List.getElem?_eq_some_iff.1 hi
  obtain ⟨j1, rfl⟩ := List.getElem?_eq_some_iff.1 hj
  rw [List.pairwise_iff_getElem] at h
  rcases Nat.lt_or_gt_of_ne hne with hl | hl
  · exact h i j i1 j1 hl
  · exact hR _ _ (h j i j1 i1 hl)
theorem pair_set {α : Type} {R : α → α → Prop} {xs : List α} (h : xs.Pairwise R) (hR : ∀ x y, R x y → R y x) {i : Nat} {z : α} (hz : ∀ j y, j ≠ i → xs[j]? = some y → R z y) : (xs.set i z).Pairwise R := by
  rw [List.pairwise_iff_getElem] at h ⊢
  intro k j hk hj hkj
  simp only [List.length_set] at hk hj
  rw [List.getElem_set, List.getElem_set]
  by_cases h1 : i = k
  · subst h1
    rw [if_pos rfl, if_neg (by omega)]
    exact hz j _ (by omega) (List.getElem?_eq_getElem hj)
  · rw [if_neg h1]
    by_cases h2 : i = j
    · subst h2
      rw [if_pos rfl]
      exact hR _ _ (hz k _ (by omega) (List.getElem?_eq_getElem hk))
    · rw [if_neg h2]; exact h k j hk hj hkj
/-- One row written. -/
theorem Sep.write (h : Sep lo hi w o rs) {i : Nat} {r : Hd × List Int} (hr : rs[i]? = some r) (hs : OneW r.1.a w w') {zs : List Int} (hn : OwnI lo hi w' (r.1, zs)) : Sep lo hi w' o (rs.set i (r.1, zs)) := by
  have hsym : ∀ x y : Hd × List Int, Apart x.1.a y.1.a → Apart y.1.a x.1.a := fun x y h => h.symm
  have hil := (List.getElem?_eq_some_iff.1 hr).1
  refine ⟨fun s hs' => ?_, pair_set h.apart hsym fun j y hj hy => (show Apart r.1.a y.1.a from pair_at (R := fun (r s : Hd × List Int) => Apart r.1.a s.1.a) h.apart hsym hr hy (Ne.symm hj)), fun s hs' => ?_⟩
  · obtain ⟨j, hj, rfl⟩ := List.getElem_of_mem hs'
    simp only [List.length_set] at hj
    rw [List.getElem_set]
    split
    · exact hn
    · next hne => exact (h.rows _ (List.getElem_mem hj)).off hs (pair_at h.apart hsym hr (List.getElem?_eq_getElem hj) hne)
  · rcases List.mem_or_eq_of_mem_set hs' with hm | rfl
    · exact h.off s hm
    · exact h.off r (List.mem_of_getElem? hr)
/-- One row replaced by a new one. -/
theorem Sep.fresh (h : Sep lo hi w o rs) {i : Nat} {r : Hd × List Int} (hn : OwnI lo hi w r) (ha : ∀ s ∈ rs, Apart s.1.a r.1.a) (ho : Apart r.1.a o) : Sep lo hi w o (rs.set i r) := by
  refine ⟨fun s hs => ?_, pair_set h.apart (fun x y h => h.symm) fun j y hj hy => (ha y (List.mem_of_getElem? hy)).symm, fun s hs => ?_⟩
  · rcases List.mem_or_eq_of_mem_set hs with hm | rfl
    · exact h.rows s hm
    · exact hn
  · rcases List.mem_or_eq_of_mem_set hs with hm | rfl
    · exact h.off s hm
    · exact ho
theorem Sep.snoc (h : Sep lo hi w o rs) {r : Hd × List Int} (hn : OwnI lo hi w r) (ha : ∀ s ∈ rs, Apart s.1.a r.1.a) (ho : Apart r.1.a o) : Sep lo hi w o (rs ++ [r]) := by
  refine ⟨fun s hs => ?_, ?_, fun s hs => ?_⟩
  · simp only [List.mem_append, List.mem_singleton] at hs
    rcases hs with hm | rfl
    · exact h.rows s hm
    · exact hn
  · rw [List.pairwise_append]
    exact ⟨h.apart, by simp, fun x hx y hy => by simp at hy; subst hy; exact ha x hx⟩
  · simp only [List.mem_append, List.mem_singleton] at hs
    rcases hs with hm | rfl
    · exact h.off s hm
    · exact ho
end
/-- An array's value. -/
structure Ar where
  a : Option Addr
  n : Nat
  c : Nat
  es : List Cl
  ag : Hd × List Int
  ht : Hd × List Int
def Ar.val (A : Ar) : Value := .agg #[.slice A.a A.n A.c, .slice A.ag.1.a A.ag.1.n A.ag.1.c, .slice A.ht.1.a A.ht.1.n A.ht.1.c]
def rowC (e : Cl) : Hd × List Int := (e.h, e.ws)
def Ar.rows (A : Ar) : List (Hd × List Int) := A.ag :: A.ht :: A.es.map rowC
def conC (e : Cl) : List Int × Bool := (e.ws, e.p)
/-- What an array holds. -/
structure Con where
  cs : List (List Int × Bool)
  ag : List Int
  ht : List Int
def Ar.con (A : Ar) : Con := ⟨A.es.map conC, A.ag.2, A.ht.2⟩
def IsAr (w : World) (A : Ar) : Prop := IsCells w A.a A.n A.c A.es ∧ IsInts .i64 w A.ag.1.a A.ag.1.n A.ag.1.c A.ag.2 ∧ IsInts .i64 w A.ht.1.a A.ht.1.n A.ht.1.c A.ht.2
theorem IsAr.below {w w' : World} {A : Ar} {B : Nat} (h : IsAr w A) (hb : Below B w w') (hB : w.heap.size ≤ B) : IsAr w' A := ⟨h.1.below hb hB, h.2.1.below hb hB, h.2.2.below hb hB⟩
structure OwnAr (lo hi : Nat) (w : World) (A : Ar) : Prop where
  outer : Owned lo hi w 70 2 A.a A.n A.c (A.es.flatMap clF)
  sep : Sep lo hi w A.a A.rows
section
variable {lo hi : Nat} {w w' : World} {A : Ar}
theorem OwnAr.is (h : OwnAr lo hi w A) : IsAr w A :=
  ⟨⟨isStructs_own clF_len (by omega) h.outer.1, fun e he => (h.sep.rows (rowC e) (by simp only [Ar.rows, List.mem_cons, List.mem_map]; exact .inr (.inr ⟨e, he, rfl⟩))).ints⟩,
    (h.sep.rows A.ag (by simp [Ar.rows])).ints, (h.sep.rows A.ht (by simp [Ar.rows])).ints⟩
theorem OwnAr.wide {lo' hi' : Nat} (h : OwnAr lo hi w A) (h1 : lo' ≤ lo) (h2 : hi ≤ hi') : OwnAr lo' hi' w A := ⟨h.outer.wide h1 h2, h.sep.wide h1 h2⟩
theorem OwnAr.save {lo' hi' : Nat} (h : OwnAr lo hi w A) (hs : Save lo' hi' w w') (hd : hi ≤ lo' ∨ hi' ≤ lo) : OwnAr lo hi w' A := ⟨h.outer.save hs hd, h.sep.save hs hd⟩
theorem OwnAr.below {B : Nat} (h : OwnAr lo hi w A) (hb : Below B w w') (hB : hi ≤ B) : OwnAr lo hi w' A := ⟨h.outer.below hb hB, h.sep.below hb hB⟩
theorem OwnAr.len (h : OwnAr lo hi w A) : A.es.length = A.n := (isStructs_own clF_len (by omega) h.outer.1).1
/-- A row of symbols written. -/
theorem OwnAr.row (h : OwnAr lo hi w A) {i : Nat} {e : Cl} (he : A.es[i]? = some e) (hs : OneW e.h.a w w') {zs : List Int} (hn : OwnI lo hi w' (e.h, zs)) : OwnAr lo hi w' { A with es := A.es.set i ⟨e.h, zs, e.p⟩ } := by
  have hm : rowC e ∈ A.rows := by simp only [Ar.rows, List.mem_cons, List.mem_map]; exact .inr (.inr ⟨e, List.mem_of_getElem? he, rfl⟩)
  have hr : A.rows[i + 2]? = some (rowC e) := by simp only [Ar.rows, List.getElem?_cons_succ, List.getElem?_map, he]; rfl
  have hes : A.es = A.es.set i e := by
    apply List.ext_getElem?; intro k
    by_cases hk : i = k
    · subst hk; rw [List.getElem?_set_self (List.getElem?_eq_some_iff.1 he).1, he]
    · rw [List.getElem?_set_ne hk]
  refine ⟨?_, ?_⟩
  · have h1 := h.outer.off hs (h.sep.off _ hm)
    have h2 : (A.es.set i ⟨e.h, zs, e.p⟩).flatMap clF = A.es.flatMap clF := by
      have := flat_set clF_len A.es i 1 e ⟨e.h, zs, e.p⟩ (.bool e.p) he rfl (by omega)
      rw [← this]
      have h3 := flat_set clF_len A.es i 1 e e (.bool e.p) he rfl (by omega)
      rw [h3, ← hes]
    exact h2 ▸ h1
  · have := h.sep.write hr hs (zs := zs) hn
    simpa [Ar.rows, rowC, List.map_set] using this
end
/-- What one word of an array, or one of its two other rows, is made of anew. -/
theorem OwnAr.flag {lo hi : Nat} {w : World} {A : Ar} {g : Nat} (h : OwnAr lo hi w A) (hg : A.a = some ⟨g, 0, none⟩) {i : Nat} {e : Cl} (he : A.es[i]? = some e) (p : Bool) : OwnAr lo hi (w.setCell ⟨g, i * 2 + 1, none⟩ (.bool p)) { A with es := A.es.set i ⟨e.h, e.ws, p⟩ } := by
  obtain ⟨a, n, c, es, ag, ht⟩ := A
  simp only at hg; subst hg
  have h1 := (h.outer.store (i * 2 + 1) (.bool p)).1
  rw [flat_set clF_len es i 1 e ⟨e.h, e.ws, p⟩ (.bool p) he rfl (by omega)] at h1
  refine ⟨h1, ?_⟩
  have := h.sep.outer (OneW.set (o := i * 2 + 1) (.bool p))
  have e2 : (es.set i ⟨e.h, e.ws, p⟩).map rowC = es.map rowC := by
    rw [List.map_set]
    apply List.ext_getElem?; intro k
    by_cases hk : i = k
    · subst hk
      rw [List.getElem?_set_self (by rw [List.length_map]; exact (List.getElem?_eq_some_iff.1 he).1), List.getElem?_map, he]; rfl
    · rw [List.getElem?_set_ne hk]
  unfold Ar.rows at this ⊢
  simp only at this ⊢
  rw [e2]; exact this
/-- A cell's row replaced by a new one. -/
theorem OwnAr.syms {lo hi : Nat} {w : World} {A : Ar} {g : Nat} (h : OwnAr lo hi w A) (hg : A.a = some ⟨g, 0, none⟩) {i : Nat} {e : Cl} (he : A.es[i]? = some e) {r : Hd × List Int} (hr : OwnI lo hi w r) (hap : ∀ s ∈ A.rows, Apart s.1.a r.1.a) (hao : Apart r.1.a A.a) :
    OwnAr lo hi (w.setCell ⟨g, i * 2, none⟩ (.slice r.1.a r.1.n r.1.c)) { A with es := A.es.set i ⟨r.1, r.2, e.p⟩ } := by
  obtain ⟨a, n, c, es, ag, ht⟩ := A
  simp only at hg; subst hg
  have h1 := (h.outer.store (i * 2 + 0) (.slice r.1.a r.1.n r.1.c)).1
  rw [flat_set clF_len es i 0 e ⟨r.1, r.2, e.p⟩ (.slice r.1.a r.1.n r.1.c) he rfl (by omega)] at h1
  refine ⟨h1, ?_⟩
  have hs2 : OneW (some ⟨g, 0, none⟩) w (w.setCell ⟨g, i * 2, none⟩ (.slice r.1.a r.1.n r.1.c)) := OneW.set _
  have hr2 : OwnI lo hi (w.setCell ⟨g, i * 2, none⟩ (.slice r.1.a r.1.n r.1.c)) r := hr.off hs2 hao.symm
  have := (h.sep.outer hs2).fresh (i := i + 2) hr2 hap hao
  simpa [Ar.rows, rowC, List.map_set] using this
/-- One more cell behind the others: the outer row in its old place or in a new block. -/
theorem OwnAr.push {lo hi hi' : Nat} {w w' : World} {A : Ar} {r : Hd × List Int} {p : Bool} {a' : Option Addr} {c' : Nat} (h : OwnAr lo hi w A) (hhi : hi ≤ hi') (hhw : hi ≤ w.heap.size) (hw : w'.heap.size ≤ hi') (hr : OwnI lo hi w r) (hap : ∀ s ∈ A.rows, Apart s.1.a r.1.a) (hao : Apart r.1.a A.a)
    (hg : OneW A.a w w') (hown : w'.ownsRow lo 70 2 (.slice a' (A.n + 1) c') (A.n + 1) (A.es.flatMap clF ++ [.slice r.1.a r.1.n r.1.c, .bool p])) (hat : ∀ x, a' = some x → A.a = some x ∨ w.heap.size ≤ x.block) :
    OwnAr lo hi' w' { A with a := a', n := A.n + 1, c := c', es := A.es ++ [⟨r.1, r.2, p⟩] } := by
  have hs := (h.sep.outer hg).snoc (hr.off hg hao.symm) hap hao
  refine ⟨⟨by simpa [clF] using hown, fun x hx => ?_⟩, ?_⟩
  · have hx' : a' = some x := hx
    have := (hown.lt x.block (by rw [hx']; rfl)).2; omega
  · have e : ({ A with a := a', n := A.n + 1, c := c', es := A.es ++ [⟨r.1, r.2, p⟩] } : Ar).rows = A.rows ++ [r] := by simp [Ar.rows, rowC]
    rw [e]
    refine (hs.move fun s hs' => ?_).wide (Nat.le_refl _) hhi
    have hso : Apart s.1.a A.a ∧ ∀ x, s.1.a = some x → x.block < w.heap.size := by
      simp only [List.mem_append, List.mem_singleton] at hs'
      rcases hs' with hm | rfl
      · exact ⟨h.sep.off s hm, fun x hx => by have := ((h.sep.rows s hm).1.lt hx).2.2; exact this⟩
      · exact ⟨hao, fun x hx => (hr.1.lt hx).2.2⟩
    intro x y hx hy e
    rcases hat y hy with h1 | h1
    · exact hso.1 x y hx h1 e
    · have := hso.2 x hx; omega
/-- The two other rows, set. -/
theorem OwnAr.setAge {lo hi : Nat} {w : World} {A : Ar} (h : OwnAr lo hi w A) {r : Hd × List Int} (hr : OwnI lo hi w r) (hap : ∀ s ∈ A.rows, Apart s.1.a r.1.a) (hao : Apart r.1.a A.a) : OwnAr lo hi w { A with ag := r } :=
  ⟨h.outer, by have := h.sep.fresh (i := 0) hr hap hao; simpa [Ar.rows] using this⟩
theorem OwnAr.setHits {lo hi : Nat} {w : World} {A : Ar} (h : OwnAr lo hi w A) {r : Hd × List Int} (hr : OwnI lo hi w r) (hap : ∀ s ∈ A.rows, Apart s.1.a r.1.a) (hao : Apart r.1.a A.a) : OwnAr lo hi w { A with ht := r } :=
  ⟨h.outer, by have := h.sep.fresh (i := 1) hr hap hao; simpa [Ar.rows] using this⟩
/-- What lies behind an array's blocks is apart from it. -/
theorem OwnAr.apart_new {lo hi m : Nat} {w : World} {A : Ar} (h : OwnAr lo hi w A) {a : Option Addr} (hm : hi ≤ m) (ha : ∀ x, a = some x → m ≤ x.block) : (∀ s ∈ A.rows, Apart s.1.a a) ∧ Apart a A.a :=
  ⟨fun s hs => Apart.of_lt (m := m) (fun x hx => by have := ((h.sep.rows s hs).1.lt hx).2.1; omega) ha, (Apart.of_lt (m := m) (fun x hx => by have := (h.outer.lt hx).2.1; omega) ha).symm⟩
theorem OwnI.of_own {B : Nat} {w : World} {a : Option Addr} {n c : Nat} {zs : List Int} (h : w.ownsRow B 3 1 (.slice a n c) n (zs.map (.int .i64))) (hw : ∀ z ∈ zs, (Lit.int .i64 z).wf = true) : OwnI B w.heap.size w (⟨a, n, c⟩, zs) := ⟨Owned.of_own h, hw⟩
def arCells (a : Option Addr) (n c : Nat) (es : List Cl) : Ar := ⟨a, n, c, es, nilR, nilR⟩
end Go.Proofs.Ytkhcepmileiejaa
