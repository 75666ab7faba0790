/- Small words that all my walks use: a row of cells that can be read, what a slice argument is, structs by value of one, five, six and seventeen fields. -/
import Derived.Test.YtahfbhfmhccgoaaRows
import Derived.Handy
import Derived.WalkSpells
import Derived.WalkLawsBesides
import Derived.Lib.SmallJoins
import Derived.Deep.Grids
import Derived.BigQuiet
import Derived.Deep.QuietTactic
set_option linter.unusedSimpArgs false
set_option linter.unusedVariables false
namespace Go.Proofs.Ytahfbhfmhccgoaa
open Go.RowKit Go.ChangeShapes Go.WideShapes Go.ChangeAt Go.Joins Go.Deep
open Go.ChangeMaps (open_string shut_string)

theorem bcell {W w1 : World} {n : Nat} (hb : Below n W w1) : (∀ b o, b < n → w1.cell? ⟨b, o, none⟩ = W.cell? ⟨b, o, none⟩) ∧ (∀ b o, b < n → w1.frozen? ⟨b, o, none⟩ = W.frozen? ⟨b, o, none⟩) :=
  ⟨fun b o h => hb.cell (p := ⟨b, o, none⟩) h, fun b o h => hb.frozen (p := ⟨b, o, none⟩) h⟩
theorem bthen {B C : Nat} {a b c : World} (h : Below B a b) (k : Below C b c) (hB : B ≤ C) : Below B a c := h.trans (k.mono hB)
/-- Behind a call: what stood below B stands on (the world ahead of the call is left to be found). -/
theorem bnext {B C : Nat} {a b c : World} (h : Below B a b) (k : Below C b c) (hB : B ≤ C) : Below B a c := h.trans (k.mono hB)
theorem bgrow {B : Nat} {a b c : World} (h : Below B a b) (hB : B ≤ b.heap.size) (k : Below b.heap.size b c) : Below B a c := h.trans (k.mono hB)
theorem ret_int {k : IntKind} {a b : Int} (h : a = b) : Ending.returned (.int k a) = .returned (.int k b) := by rw [h]
theorem ret_bool {a b : Bool} (h : a = b) : Ending.returned (.bool a) = .returned (.bool b) := by rw [h]
theorem hide {p : Prop} (h : p) : Hid p := h
theorem quiet_same {P : Program} {f : FuncId} {args : Array Value} {w : World} {n : Nat} {v : Value}
    (h : Calls P f args (w.drewN n) fun e w' => e = .returned v ∧ w.drewN n = w') : Calls P f args (w.drewN n) fun e w'' => e = .returned v ∧ ∃ m, w'' = w.drewN m :=
  h.mono fun _ _ ⟨he, hm⟩ => ⟨he, n, hm.symm⟩
theorem bdrawn {B : Nat} {a w : World} (h : Below B a w) (n : Nat) : Below B a (w.drewN n) := ⟨h.os, h.tape, h.output, h.size, h.block⟩

theorem try_own : ownKnob Try.prog.godebug = none := by kernel_rfl
theorem try_laidOut : laidOutB Try.prog = true := by kernel_rfl

/-- The address leads to these cells, one behind the other. -/
def RowIn (w : World) (a : Option Addr) (cells : List Value) : Prop := ∀ i v, cells[i]? = some v → ∃ b off, a = some ⟨b, off, none⟩ ∧ w.cell? ⟨b, off + i, none⟩ = some v

theorem RowIn.nil (w : World) (a : Option Addr) : RowIn w a [] := fun i v h => by simp at h
theorem RowIn.at0 {w : World} {a : Option Addr} {cells : List Value} (h : RowIn w a cells) (h0 : 0 < cells.length) :
    ∃ b off, a = some ⟨b, off, none⟩ ∧ b < w.heap.size ∧ ∀ i v, cells[i]? = some v → w.cell? ⟨b, off + i, none⟩ = some v := by
  obtain ⟨b, off, rfl, hc⟩ := h 0 cells[0] (List.getElem?_eq_getElem h0)
  refine ⟨b, off, rfl, World.block_lt_of_cell? w _ hc, fun i v hv => ?_⟩
  obtain ⟨b', off', e, hc'⟩ := h i v hv
  simp only [Option.some.injEq, Addr.mk.injEq] at e
  obtain ⟨rfl, rfl, _⟩ := e
  exact hc'
theorem RowIn.below {w w' : World} {a : Option Addr} {cells : List Value} {B : Nat} (h : RowIn w a cells) (hb : Below B w w') (hB : w.heap.size ≤ B) : RowIn w' a cells := by
  intro i v hv
  obtain ⟨b, off, rfl, hc⟩ := h i v hv
  refine ⟨b, off, rfl, ?_⟩
  rw [hb.cell (p := ⟨b, off + i, none⟩) (Nat.lt_of_lt_of_le (World.block_lt_of_cell? w _ hc) hB)]
  exact hc

/-- The cell of the k-th element, its value as a name of its own. -/
theorem RowIn.get {α : Type} {w : World} {a : Option Addr} {f : α → Value} {xs : List α} (h : RowIn w a (xs.map f)) {k : Nat} (hk : k < xs.length) :
    ∃ z b o, xs[k]? = some z ∧ a = some ⟨b, o, none⟩ ∧ b < w.heap.size ∧ w.cell? ⟨b, o + k, none⟩ = some (f z) := by
  obtain ⟨b, o, ha, hc⟩ := h k (f xs[k]) (by simp [hk])
  exact ⟨_, b, o, List.getElem?_eq_getElem hk, ha, World.block_lt_of_cell? w _ hc, hc⟩
theorem take_snoc {α : Type} {xs : List α} {k : Nat} {z : α} (h : xs[k]? = some z) : xs.take (k + 1) = xs.take k ++ [z] := by
  obtain ⟨hk, rfl⟩ := List.getElem?_eq_some_iff.1 h
  exact List.take_succ_eq_append_getElem hk

/-- A slice of ints that came in. -/
def IsInts (k : IntKind) (w : World) (a : Option Addr) (n c : Nat) (zs : List Int) : Prop := zs.length = n ∧ n ≤ c ∧ c ≤ maxLen ∧ (∀ z ∈ zs, (Lit.int k z).wf = true) ∧ RowIn w a (zs.map (.int k))
def IsBools (w : World) (a : Option Addr) (n c : Nat) (bs : List Bool) : Prop := bs.length = n ∧ n ≤ c ∧ c ≤ maxLen ∧ RowIn w a (bs.map .bool)
def IsStrs (w : World) (a : Option Addr) (n c : Nat) (ss : List ByteArray) : Prop := ss.length = n ∧ n ≤ c ∧ c ≤ maxLen ∧ (∀ s ∈ ss, s.size ≤ maxLen) ∧ RowIn w a (ss.map .string)

theorem addr_add (b off i : Nat) : (⟨b, off, none⟩ : Addr).add i = ⟨b, off + i, none⟩ := by unfold Addr.add; simp

theorem rowIn_of {w : World} {a : Addr} {cells : List Value} (h : ∀ i v, cells[i]? = some v → w.cell? (a.add i) = some v) : RowIn w (some a) cells := by
  intro i v hv
  obtain ⟨b, off, spot⟩ := a
  have h0 := h 0 (cells[0]'(by have := (List.getElem?_eq_some_iff.1 hv).1; omega)) (List.getElem?_eq_getElem _)
  have hs : spot = none := by simpa [Addr.add] using World.cell?_spot h0
  subst hs
  exact ⟨b, off, rfl, by rw [← addr_add]; exact h i v hv⟩

section
variable {H : Type} {enc : TypeId × Value → H} {P : Program} {w : World} {base : Nat} {held : Bool}
theorem isInts_of {t e : TypeId} {fuel : Nat} {k : IntKind} {cs : List Value} {x : DataW H × List MemPlace} (ht : P.underlying t = some (.slice e)) (he : P.underlying e = some (.int k)) (hc : P.cellsOf e = 1)
    (h : DataW.trod enc P w base (fun _ => true) held fuel t cs = some x) : ∃ a n c zs, cs = [.slice a n c] ∧ IsInts k w a n c zs := by
  rcases open_ints ht he hc h with ⟨hcs, _⟩ | ⟨a, l, c, zs, hcs, _, hl, hm, hz, _, hcell, hwz⟩
  · exact ⟨none, 0, 0, [], hcs, rfl, Nat.le_refl _, Nat.zero_le _, by simp, RowIn.nil _ _⟩
  · simp only [if_true] at hz
    refine ⟨some a, l, c, zs.take l, hcs, by simp; omega, hl, hm, fun z hz' => hwz z (List.mem_of_mem_take hz'), rowIn_of fun i v hv => ?_⟩
    rw [List.getElem?_map, Option.map_eq_some_iff] at hv
    obtain ⟨z, hz', rfl⟩ := hv
    rw [List.getElem?_take] at hz'
    by_cases hi : i < l
    · rw [if_pos hi] at hz'
      rw [hcell i (by omega), List.getD_eq_getElem?_getD, hz']; rfl
    · rw [if_neg hi] at hz'; cases hz'
theorem isBytes_of {t e : TypeId} {fuel : Nat} {cs : List Value} {x : DataW H × List MemPlace} (ht : P.underlying t = some (.slice e)) (he : P.underlying e = some (.int .u8)) (hc : P.cellsOf e = 1)
    (h : DataW.trod enc P w base (fun _ => true) held fuel t cs = some x) : ∃ a n c zs, cs = [.slice a n c] ∧ IsInts .u8 w a n c zs := isInts_of ht he hc h
theorem isBools_of {t e : TypeId} {fuel : Nat} {cs : List Value} {x : DataW H × List MemPlace} (ht : P.underlying t = some (.slice e)) (he : P.underlying e = some .bool) (hc : P.cellsOf e = 1)
    (h : DataW.trod enc P w base (fun _ => true) held fuel t cs = some x) : ∃ a n c bs, cs = [.slice a n c] ∧ IsBools w a n c bs := by
  rcases open_bools ht he hc h with ⟨hcs, _⟩ | ⟨a, l, c, B, hcs, _, hl, hm, _, hcell⟩
  · exact ⟨none, 0, 0, [], hcs, rfl, Nat.le_refl _, Nat.zero_le _, RowIn.nil _ _⟩
  · refine ⟨some a, l, c, (List.range l).map B, hcs, by simp, hl, hm, rowIn_of fun i v hv => ?_⟩
    by_cases hi : i < l
    · rw [List.getElem?_map, List.getElem?_map, List.getElem?_range hi] at hv
      simp at hv; rw [← hv]; exact hcell i (by omega)
    · rw [List.getElem?_eq_none (by simp; omega)] at hv; cases hv
theorem isStrs_of {t e : TypeId} {fuel : Nat} {cs : List Value} {x : DataW H × List MemPlace} (ht : P.underlying t = some (.slice e)) (he : P.underlying e = some .string) (hc : P.cellsOf e = 1)
    (h : DataW.trod enc P w base (fun _ => true) held fuel t cs = some x) : ∃ a n c ss, cs = [.slice a n c] ∧ IsStrs w a n c ss := by
  rcases open_strings ht he hc h with ⟨hcs, _⟩ | ⟨a, l, c, zs, hcs, _, hl, hm, hz, _, hcell, hwz⟩
  · exact ⟨none, 0, 0, [], hcs, rfl, Nat.le_refl _, Nat.zero_le _, by simp, RowIn.nil _ _⟩
  · simp only [if_true] at hz
    refine ⟨some a, l, c, zs.take l, hcs, by simp; omega, hl, hm, fun z hz' => hwz z (List.mem_of_mem_take hz'), rowIn_of fun i v hv => ?_⟩
    rw [List.getElem?_map, Option.map_eq_some_iff] at hv
    obtain ⟨z, hz', rfl⟩ := hv
    rw [List.getElem?_take] at hz'
    by_cases hi : i < l
    · rw [if_pos hi] at hz'
      rw [hcell i (by omega), List.getD_eq_getElem?_getD, hz']; rfl
    · rw [if_neg hi] at hz'; cases hz'
end

/-- A row of cells that a call owns reads as that row. -/
theorem rowIn_own {w : World} {B : Nat} {e : TypeId} {v : Value} {n : Nat} {xs : List Value} (h : w.ownsRow B e 1 v n xs) :
    ∃ a c, v = .slice a n c ∧ xs.length = n ∧ n ≤ c ∧ c ≤ maxLen ∧ RowIn w a xs := by
  obtain ⟨hl, h⟩ := h
  simp only [Nat.mul_one] at hl
  rcases h with ⟨rfl, rfl⟩ | ⟨g, cap, cur, rfl, _, hg, hn, hc, hs, ht⟩
  · obtain rfl : xs = [] := List.eq_nil_of_length_eq_zero hl
    exact ⟨none, 0, rfl, rfl, Nat.le_refl _, Nat.zero_le _, RowIn.nil _ _⟩
  · refine ⟨_, cap, rfl, hl, hn, hc, fun i v hv => ⟨g, 0, rfl, ?_⟩⟩
    rw [← ht] at hv
    simp only [Nat.zero_add, World.cell?, hg]
    rw [List.getElem?_take] at hv
    split at hv
    · simpa using hv
    · cases hv

/-- What a call hands back: a slice in new memory, of n elements, that owns these cells; what was there stays. -/
def Fresh (w : World) (E : TypeId) (sz n : Nat) (xs : List Value) (e : Ending) (w' : World) : Prop :=
  ∃ a c, e = .returned (.slice a n c) ∧ w'.ownsRow w.heap.size E sz (.slice a n c) n xs ∧ Below w.heap.size w w'

theorem set_next {α : Type} (xs : List α) (z : α) (k n : Nat) (hk : k < n) (hx : xs.length = n) :
    (xs.take k ++ List.replicate (n - k) z).set k (xs[k]'(by omega)) = xs.take (k + 1) ++ List.replicate (n - (k + 1)) z := by
  have hr : List.replicate (n - k) z = z :: List.replicate (n - (k + 1)) z := by
    rw [show n - k = (n - (k + 1)) + 1 from by omega, List.replicate_succ]
  have hl : (xs.take k).length = k := by simp; omega
  rw [hr, List.set_append_right _ _ (by omega), hl, Nat.sub_self, List.set_cons_zero, List.take_succ_eq_append_getElem (by omega), List.append_assoc, List.singleton_append]

theorem IsInts.below {k : IntKind} {w w' : World} {a : Option Addr} {n c : Nat} {zs : List Int} {B : Nat} (h : IsInts k w a n c zs) (hb : Below B w w') (hB : w.heap.size ≤ B) : IsInts k w' a n c zs :=
  ⟨h.1, h.2.1, h.2.2.1, h.2.2.2.1, h.2.2.2.2.below hb hB⟩
theorem isInts_own {k : IntKind} {w : World} {B : Nat} {E : TypeId} {a : Option Addr} {n c : Nat} {zs : List Int} (h : w.ownsRow B E 1 (.slice a n c) n (zs.map (.int k))) (hw : ∀ z ∈ zs, (Lit.int k z).wf = true) : IsInts k w a n c zs := by
  obtain ⟨a', c', e, hl, hn, hc, hr⟩ := rowIn_own h
  injection e with e1 e2 e3
  subst e1 e3
  exact ⟨by simpa using hl, hn, hc, hw, hr⟩
theorem own_ne {w : World} {base : Nat} {e : TypeId} {size : Nat} {v : Value} {n : Nat} {xs : List Value} {b : Nat} (h : w.ownsRow base e size v n xs) (hb : b < base) : v.ownBlock = none ∨ v.ownBlock ≠ some b := by
  cases hv : v.ownBlock with
  | none => exact .inl rfl
  | some k => have := (h.lt k hv).1; right; intro e; injection e; omega
theorem own_base {w : World} {base base' : Nat} {e : TypeId} {size : Nat} {v : Value} {n : Nat} {xs : List Value} (h : w.ownsRow base e size v n xs) (hb : base' ≤ base) : w.ownsRow base' e size v n xs := by
  refine ⟨h.1, ?_⟩
  rcases h.2 with h | ⟨g, cap, cur, h1, h2, h3⟩
  · exact .inl h
  · exact .inr ⟨g, cap, cur, h1, by omega, h3⟩
theorem own_shape {w : World} {base : Nat} {e : TypeId} {size : Nat} {v : Value} {n : Nat} {xs : List Value} (h : w.ownsRow base e size v n xs) : ∃ a c, v = .slice a n c := by
  rcases h.2 with ⟨h0, rfl⟩ | ⟨g, cap, cur, h1, _⟩
  · exact ⟨_, _, h0⟩
  · exact ⟨_, _, h1⟩
theorem cell_blk {w : World} {b : Nat} {cs : Array Value} {t : TypeId} {fr : Nat × Nat} (h : w.heap[b]? = some (.cells cs t fr)) (o : Nat) : w.cell? ⟨b, o, none⟩ = cs[o]? := by simp [World.cell?, h]
theorem free_blk {w : World} {b : Nat} {cs : Array Value} {t : TypeId} (h : w.heap[b]? = some (.cells cs t (0, 0))) (o : Nat) : w.frozen? ⟨b, o, none⟩ = false := by simp [World.frozen?, h]
theorem set_blk {w : World} {b o : Nat} {cs : Array Value} {t : TypeId} {fr : Nat × Nat} (h : w.heap[b]? = some (.cells cs t fr)) (v : Value) : (w.setCell ⟨b, o, none⟩ v).heap[b]? = some (.cells (cs.setIfInBounds o v) t fr) := block_setCell h v
theorem lt_blk {w : World} {b : Nat} {x : Obj} (h : w.heap[b]? = some x) : b < w.heap.size := (Array.getElem?_eq_some_iff.1 h).1
theorem only_drawn {a w : World} {r : Option Nat} (h : a.grownBy w r) (n : Nat) : a.grownBy (w.drewN n) r := ⟨h.os, h.tape, h.output, h.size, h.block⟩
theorem only_set {a w : World} {b o : Nat} (h : a.grownBy w (some b)) (v : Value) : a.grownBy (w.setCell ⟨b, o, none⟩ v) (some b) :=
  ⟨h.os, h.tape, h.output, by simpa [World.setCell] using h.size, fun i hi hne => (Below.heap_setCell w ⟨b, o, none⟩ v i (fun e => hne (by rw [e]))).trans (h.block i hi hne)⟩
theorem only_refl (w : World) (r : Option Nat) : w.grownBy w r := ⟨rfl, rfl, rfl, Nat.le_refl _, fun _ _ _ => rfl⟩

theorem own_some {w : World} {base : Nat} {e : TypeId} {size : Nat} {a : Option Addr} {n c : Nat} {xs : List Value} (h : w.ownsRow base e size (.slice a n c) n xs) (hn : 0 < n) :
    ∃ g, a = some ⟨g, 0, none⟩ ∧ base ≤ g ∧ g < w.heap.size ∧ ∀ j, j < n * size → w.cell? ⟨g, j, none⟩ = xs[j]? := by
  rcases h.2 with ⟨h1, rfl⟩ | ⟨g, cap, cur, h1, h2, h3, _⟩
  · omega
  · injection h1 with e1 e2 e3
    subst e1; subst e3
    exact ⟨g, rfl, h2, lt_blk h3, fun j hj => h.cellAt j hj⟩

theorem only_trans {a b c : World} {r : Nat} (h : a.grownBy b (some r)) (k : b.grownBy c (some r)) : a.grownBy c (some r) :=
  ⟨k.os.trans h.os, k.tape.trans h.tape, k.output.trans h.output, Nat.le_trans h.size k.size, fun i hi hn => (k.block i (Nat.lt_of_lt_of_le hi h.size) hn).trans (h.block i hi hn)⟩

theorem only_alloc {a w : World} {row : Option Nat} (h : a.grownBy w row) (o : Obj) : a.grownBy (w.alloc o) row :=
  ⟨h.os, h.tape, h.output, Nat.le_trans h.size (by simp), fun i hi hne => (Below.heap_alloc w o i (Nat.lt_of_lt_of_le hi h.size)).trans (h.block i hi hne)⟩
theorem only_setCell {a w : World} {g r : Nat} {o : Nat} (h : a.grownBy w (some r)) (hp : g = r ∨ a.heap.size ≤ g) (u : Value) : a.grownBy (w.setCell ⟨g, o, none⟩ u) (some r) :=
  ⟨h.os, h.tape, h.output, by simpa [World.setCell] using h.size, fun i hi hne => (Below.heap_setCell w ⟨g, o, none⟩ u i (by
    intro e
    have e' : i = g := e
    rcases hp with hp | hp
    · exact hne (by rw [e', hp])
    · omega)).trans (h.block i hi hne)⟩
theorem only_of_below {a w : World} (h : Below a.heap.size a w) (row : Option Nat) : a.grownBy w row := ⟨h.os, h.tape, h.output, h.size, fun i hi _ => h.block i hi⟩
theorem only_next {a b c : World} {r : Nat} (h : a.grownBy b (some r)) (k : b.grownBy c (some r)) : a.grownBy c (some r) := only_trans h k
theorem only_cell {a w : World} {r b o : Nat} (h : a.grownBy w (some r)) (hb : b < a.heap.size) (hr : b ≠ r) : w.cell? ⟨b, o, none⟩ = a.cell? ⟨b, o, none⟩ :=
  World.cell?_of_block (h.block b hb (by simpa using hr))
theorem only_free {a w : World} {r b o : Nat} (h : a.grownBy w (some r)) (hb : b < a.heap.size) (hr : b ≠ r) : w.frozen? ⟨b, o, none⟩ = a.frozen? ⟨b, o, none⟩ :=
  World.frozen?_of_block (h.block b hb (by simpa using hr))
theorem only_cells {a w : World} {r : Nat} (h : a.grownBy w (some r)) : ∀ b o, b < a.heap.size → ¬ b = r → w.cell? ⟨b, o, none⟩ = a.cell? ⟨b, o, none⟩ := fun _ _ hb hr => only_cell h hb hr
theorem only_frees {a w : World} {r : Nat} (h : a.grownBy w (some r)) : ∀ b o, b < a.heap.size → ¬ b = r → w.frozen? ⟨b, o, none⟩ = a.frozen? ⟨b, o, none⟩ := fun _ _ hb hr => only_free h hb hr
theorem only_drew {a w : World} {r : Option Nat} (h : a.grownBy w r) : a.grownBy w.drew r := ⟨h.os, h.tape, h.output, h.size, h.block⟩

/-- From w to w' only blocks from lo to hi, and new ones, have turned. -/
structure Save (lo hi : Nat) (w w' : World) : Prop where
  os : w'.os = w.os
  tape : w'.tape = w.tape
  output : w'.output = w.output
  size : w.heap.size ≤ w'.heap.size
  block : ∀ k, k < w.heap.size → (k < lo ∨ hi ≤ k) → w'.heap[k]? = w.heap[k]?
theorem Save.refl (lo hi : Nat) (w : World) : Save lo hi w w := ⟨rfl, rfl, rfl, Nat.le_refl _, fun _ _ _ => rfl⟩
theorem Save.trans {lo hi : Nat} {a b c : World} (h : Save lo hi a b) (k : Save lo hi b c) : Save lo hi a c :=
  ⟨k.os.trans h.os, k.tape.trans h.tape, k.output.trans h.output, Nat.le_trans h.size k.size, fun i hi hr => (k.block i (Nat.lt_of_lt_of_le hi h.size) hr).trans (h.block i hi hr)⟩
theorem Save.drawn {lo hi : Nat} {a b : World} (h : Save lo hi a b) (n : Nat) : Save lo hi a (b.drewN n) := ⟨h.os, h.tape, h.output, h.size, h.block⟩
theorem Save.wide {lo hi lo' hi' : Nat} {a b : World} (h : Save lo hi a b) (h1 : lo' ≤ lo) (h2 : hi ≤ hi') : Save lo' hi' a b :=
  ⟨h.os, h.tape, h.output, h.size, fun k hk hr => h.block k hk (by omega)⟩
theorem Save.below {lo hi : Nat} {a b : World} (h : Save lo hi a b) (hl : lo ≤ a.heap.size) : Below lo a b := ⟨h.os, h.tape, h.output, h.size, fun k hk => h.block k (by omega) (.inl hk)⟩
theorem Save.of_below {lo hi : Nat} {a b : World} (h : Below a.heap.size a b) : Save lo hi a b := ⟨h.os, h.tape, h.output, h.size, fun k hk _ => h.block k hk⟩
/-- The slice owns its cells, in a block from lo to hi. -/
def Owned (lo hi : Nat) (w : World) (E : TypeId) (sz : Nat) (a : Option Addr) (n c : Nat) (xs : List Value) : Prop :=
  w.ownsRow lo E sz (.slice a n c) n xs ∧ ∀ x, a = some x → x.block < hi

section
variable {lo hi n c : Nat} {w w' : World} {E : TypeId} {sz : Nat} {a : Option Addr} {xs : List Value}
theorem Owned.lt (h : Owned lo hi w E sz a n c xs) {x : Addr} (hx : a = some x) : lo ≤ x.block ∧ x.block < hi ∧ x.block < w.heap.size := by
  have := h.1.lt x.block (by rw [hx]; rfl)
  exact ⟨this.1, h.2 x hx, this.2⟩
theorem Owned.save {lo' hi' : Nat} (h : Owned lo hi w E sz a n c xs) (hs : Save lo' hi' w w') (hd : hi ≤ lo' ∨ hi' ≤ lo) : Owned lo hi w' E sz a n c xs := by
  refine ⟨⟨h.1.1, ?_⟩, h.2⟩
  rcases h.1.2 with h0 | ⟨g, cap, cur, h1, h2, h3, h4⟩
  · exact .inl h0
  · refine .inr ⟨g, cap, cur, h1, h2, ?_, h4⟩
    injection h1 with e1 e2 e3
    have := h.lt e1
    simp only at this
    rw [hs.block g (lt_blk h3) (by omega)]; exact h3
theorem Owned.below {B : Nat} (h : Owned lo hi w E sz a n c xs) (hb : Below B w w') (hB : hi ≤ B) : Owned lo hi w' E sz a n c xs := by
  refine ⟨⟨h.1.1, ?_⟩, h.2⟩
  rcases h.1.2 with h0 | ⟨g, cap, cur, h1, h2, h3, h4⟩
  · exact .inl h0
  · refine .inr ⟨g, cap, cur, h1, h2, ?_, h4⟩
    injection h1 with e1 e2 e3
    have := h.lt e1
    simp only at this
    rw [hb.block g (by omega)]; exact h3
theorem Owned.of_own {B : Nat} (h : w.ownsRow B E sz (.slice a n c) n xs) : Owned B w.heap.size w E sz a n c xs :=
  ⟨h, fun x hx => by subst hx; exact (h.lt x.block rfl).2⟩
theorem Owned.some (h : Owned lo hi w E sz a n c xs) (hn : 0 < n) : ∃ g, a = .some ⟨g, 0, none⟩ ∧ lo ≤ g ∧ g < hi ∧ g < w.heap.size ∧ (∀ j, j < n * sz → w.cell? ⟨g, j, none⟩ = xs[j]?) ∧ ∀ j, w.frozen? ⟨g, j, none⟩ = false := by
  obtain ⟨g, rfl, h1, h2, h3⟩ := own_some h.1 hn
  exact ⟨g, rfl, h1, h.2 _ rfl, h2, h3, fun j => h.1.frozenAt j⟩
/-- A store into an owned slice. -/
theorem Owned.store {g : Nat} (h : Owned lo hi w E sz (.some ⟨g, 0, none⟩) n c xs) (j : Nat) (u : Value) : Owned lo hi (w.setCell ⟨g, j, none⟩ u) E sz (.some ⟨g, 0, none⟩) n c (xs.set j u) ∧ Save lo hi w (w.setCell ⟨g, j, none⟩ u) := by
  obtain ⟨h1, h2⟩ := h.1.stored j u
  have hg := h.lt rfl
  simp only at hg
  exact ⟨⟨h1, h.2⟩, ⟨h2.os, h2.tape, h2.output, h2.size, fun k hk hr => h2.block k hk (by intro e; injection e with e; omega)⟩⟩
theorem Owned.row (h : Owned lo hi w E 1 a n c xs) : xs.length = n ∧ n ≤ c ∧ c ≤ maxLen ∧ RowIn w a xs := by
  obtain ⟨a', c', e, hl, hn, hc, hr⟩ := rowIn_own h.1
  injection e with e1 e2 e3
  subst e1 e3
  exact ⟨hl, hn, hc, hr⟩
theorem Owned.size_le (h : Owned lo hi w E sz a n c xs) (hn : 0 < n) : lo < hi := by
  obtain ⟨g, _, h1, h2, _⟩ := h.some hn; omega
end
/-- The first k are overwritten, the others are as they were. -/
theorem over_next {α : Type} (ms xs : List α) (k n : Nat) (hk : k < n) (h1 : ms.length = n) (h2 : xs.length = n) (m : α) (hm : ms[k]? = some m) :
    (ms.take k ++ xs.drop k).set k m = ms.take (k + 1) ++ xs.drop (k + 1) := by
  have hl : (ms.take k).length = k := by simp; omega
  rw [List.set_append_right _ _ (by omega), hl, Nat.sub_self, List.drop_eq_getElem_cons (by omega), List.set_cons_zero, take_snoc hm, List.append_assoc, List.singleton_append]
theorem alloc_at (w : World) (o : Obj) (b : Nat) (h : b = w.heap.size) : (w.alloc o).heap[b]? = some o := by subst h; exact heap_alloc_new w o
theorem alloc_lt (w : World) (o : Obj) (b : Nat) (h : b < w.heap.size) : (w.alloc o).heap[b]? = w.heap[b]? := Below.heap_alloc w o b h
theorem heap_set_other (w : World) (g o b : Nat) (v : Value) (h : ¬ b = g) : (w.setCell ⟨g, o, none⟩ v).heap[b]? = w.heap[b]? := Below.heap_setCell w ⟨g, o, none⟩ v b h
theorem set_lit {w : World} {b o : Nat} {cs cs' : Array Value} {t : TypeId} {fr : Nat × Nat} {v : Value} (h : w.heap[b]? = some (.cells cs t fr)) (e : cs.setIfInBounds o v = cs') : (w.setCell ⟨b, o, none⟩ v).heap[b]? = some (.cells cs' t fr) := e ▸ set_blk h v
end Go.Proofs.Ytahfbhfmhccgoaa
