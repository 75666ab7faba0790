/- Small words that all my walks use: a row of cells that can be read, what a slice argument is, structs by value of one, five, six and seventeen fields. -/
import Derived.Test.YtefohdhmfgglgaaRows
import Derived.Handy
import Derived.WalkSpells
import Derived.WalkLawsBesides
import Derived.Lib.SmallJoins
import Derived.Deep.Grids
import Derived.BigQuiet
import Derived.Deep.QuietTactic
set_option linter.unusedSimpArgs false
set_option linter.unusedVariables false
namespace Go.Proofs.Ytefohdhmfgglgaa
open Go.RowKit Go.ChangeShapes Go.WideShapes Go.ChangeAt Go.Joins Go.Deep
open Go.ChangeMaps (open_string shut_string)

theorem bcell {W w1 : World} {n : Nat} (hb : Below n W w1) : (∀ b o, b < n → w1.cell? ⟨b, o, none⟩ = W.cell? ⟨b, o, none⟩) ∧ (∀ b o, b < n → w1.frozen? ⟨b, o, none⟩ = W.frozen? ⟨b, o, none⟩) :=
  ⟨fun b o h => hb.cell (p := ⟨b, o, none⟩) h, fun b o h => hb.frozen (p := ⟨b, o, none⟩) h⟩
theorem bthen {B C : Nat} {a b c : World} (h : Below B a b) (k : Below C b c) (hB : B ≤ C) : Below B a c := h.trans (k.mono hB)
/-- Behind a call: what stood below B stands on (the world ahead of the call is left to be found). -/
theorem bnext {B C : Nat} {a b c : World} (h : Below B a b) (k : Below C b c) (hB : B ≤ C) : Below B a c := h.trans (k.mono hB)
theorem bgrow {B : Nat} {a b c : World} (h : Below B a b) (hB : B ≤ b.heap.size) (k : Below b.heap.size b c) : Below B a c := h.trans (k.mono hB)
theorem ret_int {k : IntKind} {a b : Int} (h : a = b) : Ending.returned (.int k a) = .returned (.int k b) := by rw [h]
theorem ret_bool {a b : Bool} (h : a = b) : Ending.returned (.bool a) = .returned (.bool b) := by rw [h]
theorem hide {p : Prop} (h : p) : Hid p := h
theorem bdrawn {B : Nat} {a w : World} (h : Below B a w) (n : Nat) : Below B a (w.drewN n) := ⟨h.os, h.tape, h.output, h.size, h.block⟩

theorem try_own : ownKnob Try.prog.godebug = none := by kernel_rfl
theorem try_laidOut : laidOutB Try.prog = true := by kernel_rfl

/-- The address leads to these cells, one behind the other. -/
def RowIn (w : World) (a : Option Addr) (cells : List Value) : Prop := ∀ i v, cells[i]? = some v → ∃ b off, a = some ⟨b, off, none⟩ ∧ w.cell? ⟨b, off + i, none⟩ = some v

theorem RowIn.nil (w : World) (a : Option Addr) : RowIn w a [] := fun i v h => by simp at h
theorem RowIn.at0 {w : World} {a : Option Addr} {cells : List Value} (h : RowIn w a cells) (h0 : 0 < cells.length) :
    ∃ b off, a = some ⟨b, off, none⟩ ∧ b < w.heap.size ∧ ∀ i v, cells[i]? = some v → w.cell? ⟨b, off + i, none⟩ = some v := by
  obtain ⟨b, off, rfl, hc⟩ := h 0 cells[0] (List.getElem?_eq_getElem h0)
  refine ⟨b, off, rfl, World.block_lt_of_cell? w _ hc, fun i v hv => ?_⟩
  obtain ⟨b', off', e, hc'⟩ := h i v hv
  simp only [Option.some.injEq, Addr.mk.injEq] at e
  obtain ⟨rfl, rfl, _⟩ := e
  exact hc'
theorem RowIn.below {w w' : World} {a : Option Addr} {cells : List Value} {B : Nat} (h : RowIn w a cells) (hb : Below B w w') (hB : w.heap.size ≤ B) : RowIn w' a cells := by
  intro i v hv
  obtain ⟨b, off, rfl, hc⟩ := h i v hv
  refine ⟨b, off, rfl, ?_⟩
  rw [hb.cell (p := ⟨b, off + i, none⟩) (Nat.lt_of_lt_of_le (World.block_lt_of_cell? w _ hc) hB)]
  exact hc

/-- The cell of the k-th element, its value as a name of its own. -/
theorem RowIn.get {α : Type} {w : World} {a : Option Addr} {f : α → Value} {xs : List α} (h : RowIn w a (xs.map f)) {k : Nat} (hk : k < xs.length) :
    ∃ z b o, xs[k]? = some z ∧ a = some ⟨b, o, none⟩ ∧ b < w.heap.size ∧ w.cell? ⟨b, o + k, none⟩ = some (f z) := by
  obtain ⟨b, o, ha, hc⟩ := h k (f xs[k]) (by simp [hk])
  exact ⟨_, b, o, List.getElem?_eq_getElem hk, ha, World.block_lt_of_cell? w _ hc, hc⟩
theorem take_snoc {α : Type} {xs : List α} {k : Nat} {z : α} (h : xs[k]? = some z) : xs.take (k + 1) = xs.take k ++ [z] := by
  obtain ⟨hk, rfl⟩ := List.getElem?_eq_some_iff.1 h
  exact List.take_succ_eq_append_getElem hk

/-- A slice of ints that came in. -/
def IsInts (k : IntKind) (w : World) (a : Option Addr) (n c : Nat) (zs : List Int) : Prop := zs.length = n ∧ n ≤ c ∧ c ≤ maxLen ∧ (∀ z ∈ zs, (Lit.int k z).wf = true) ∧ RowIn w a (zs.map (.int k))
def IsBools (w : World) (a : Option Addr) (n c : Nat) (bs : List Bool) : Prop := bs.length = n ∧ n ≤ c ∧ c ≤ maxLen ∧ RowIn w a (bs.map .bool)
def IsStrs (w : World) (a : Option Addr) (n c : Nat) (ss : List ByteArray) : Prop := ss.length = n ∧ n ≤ c ∧ c ≤ maxLen ∧ (∀ s ∈ ss, s.size ≤ maxLen) ∧ RowIn w a (ss.map .string)

theorem addr_add (b off i : Nat) : (⟨b, off, none⟩ : Addr).add i = ⟨b, off + i, none⟩ := by unfold Addr.add; simp

theorem rowIn_of {w : World} {a : Addr} {cells : List Value} (h : ∀ i v, cells[i]? = some v → w.cell? (a.add i) = some v) : RowIn w (some a) cells := by
  intro i v hv
  obtain ⟨b, off, spot⟩ := a
  have h0 := h 0 (cells[0]'(by have := (List.getElem?_eq_some_iff.1 hv).1; omega)) (List.getElem?_eq_getElem _)
  have hs : spot = none := by simpa [Addr.add] using World.cell?_spot h0
  subst hs
  exact ⟨b, off, rfl, by rw [← addr_add]; exact h i v hv⟩

section
variable {H : Type} {enc : TypeId × Value → H} {P : Program} {w : World} {base : Nat} {held : Bool}
theorem isInts_of {t e : TypeId} {fuel : Nat} {k : IntKind} {cs : List Value} {x : DataW H × List MemPlace} (ht : P.underlying t = some (.slice e)) (he : P.underlying e = some (.int k)) (hc : P.cellsOf e = 1)
    (h : DataW.trod enc P w base (fun _ => true) held fuel t cs = some x) : ∃ a n c zs, cs = [.slice a n c] ∧ IsInts k w a n c zs := by
  rcases open_ints ht he hc h with ⟨hcs, _⟩ | ⟨a, l, c, zs, hcs, _, hl, hm, hz, _, hcell, hwz⟩
  · exact ⟨none, 0, 0, [], hcs, rfl, Nat.le_refl _, Nat.zero_le _, by simp, RowIn.nil _ _⟩
  · simp only [if_true] at hz
    refine ⟨some a, l, c, zs.take l, hcs, by simp; omega, hl, hm, fun z hz' => hwz z (List.mem_of_mem_take hz'), rowIn_of fun i v hv => ?_⟩
    rw [List.getElem?_map, Option.map_eq_some_iff] at hv
    obtain ⟨z, hz', rfl⟩ := hv
    rw [List.getElem?_take] at hz'
    by_cases hi : i < l
    · rw [if_pos hi] at hz'
      rw [hcell i (by omega), List.getD_eq_getElem?_getD, hz']; rfl
    · rw [if_neg hi] at hz'; cases hz'
theorem isBytes_of {t e : TypeId} {fuel : Nat} {cs : List Value} {x : DataW H × List MemPlace} (ht : P.underlying t = some (.slice e)) (he : P.underlying e = some (.int .u8)) (hc : P.cellsOf e = 1)
    (h : DataW.trod enc P w base (fun _ => true) held fuel t cs = some x) : ∃ a n c zs, cs = [.slice a n c] ∧ IsInts .u8 w a n c zs := isInts_of ht he hc h
theorem isBools_of {t e : TypeId} {fuel : Nat} {cs : List Value} {x : DataW H × List MemPlace} (ht : P.underlying t = some (.slice e)) (he : P.underlying e = some .bool) (hc : P.cellsOf e = 1)
    (h : DataW.trod enc P w base (fun _ => true) held fuel t cs = some x) : ∃ a n c bs, cs = [.slice a n c] ∧ IsBools w a n c bs := by
  rcases open_bools ht he hc h with ⟨hcs, _⟩ | ⟨a, l, c, B, hcs, _, hl, hm, _, hcell⟩
  · exact ⟨none, 0, 0, [], hcs, rfl, Nat.le_refl _, Nat.zero_le _, RowIn.nil _ _⟩
  · refine ⟨some a, l, c, (List.range l).map B, hcs, by simp, hl, hm, rowIn_of fun i v hv => ?_⟩
    by_cases hi : i < l
    · rw [List.getElem?_map, List.getElem?_map, List.getElem?_range hi] at hv
      simp at hv; rw [← hv]; exact hcell i (by omega)
    · rw [List.getElem?_eq_none (by simp; omega)] at hv; cases hv
theorem isStrs_of {t e : TypeId} {fuel : Nat} {cs : List Value} {x : DataW H × List MemPlace} (ht : P.underlying t = some (.slice e)) (he : P.underlying e = some .string) (hc : P.cellsOf e = 1)
    (h : DataW.trod enc P w base (fun _ => true) held fuel t cs = some x) : ∃ a n c ss, cs = [.slice a n c] ∧ IsStrs w a n c ss := by
  rcases open_strings ht he hc h with ⟨hcs, _⟩ | ⟨a, l, c, zs, hcs, _, hl, hm, hz, _, hcell, hwz⟩
  · exact ⟨none, 0, 0, [], hcs, rfl, Nat.le_refl _, Nat.zero_le _, by simp, RowIn.nil _ _⟩
  · simp only [if_true] at hz
    refine ⟨some a, l, c, zs.take l, hcs, by simp; omega, hl, hm, fun z hz' => hwz z (List.mem_of_mem_take hz'), rowIn_of fun i v hv => ?_⟩
    rw [List.getElem?_map, Option.map_eq_some_iff] at hv
    obtain ⟨z, hz', rfl⟩ := hv
    rw [List.getElem?_take] at hz'
    by_cases hi : i < l
    · rw [if_pos hi] at hz'
      rw [hcell i (by omega), List.getD_eq_getElem?_getD, hz']; rfl
    · rw [if_neg hi] at hz'; cases hz'
end
end Go.Proofs.Ytefohdhmfgglgaa
