/- Slices of slices: rows that can be read, and rows of the call's own, one behind the other in memory. -/
import Derived.Test.YtahfbhfmhccgoaaSts
set_option linter.unusedSimpArgs false
set_option linter.unusedVariables false
namespace Go.Proofs.Ytahfbhfmhccgoaa
open Go.RowKit Go.ChangeShapes Go.WideShapes Go.ChangeAt Go.Joins Go.Deep
open Go.ChangeMaps (open_string shut_string)
structure Hd where
  a : Option Addr
  n : Nat
  c : Nat
def Hd.val (h : Hd) : Value := .slice h.a h.n h.c

/-- A row of one-cell elements that can be read. -/
def IsRow {α : Type} (g : α → Value) (w : World) (h : Hd) (xs : List α) : Prop := xs.length = h.n ∧ h.n ≤ h.c ∧ h.c ≤ maxLen ∧ RowIn w h.a (xs.map g)
theorem IsRow.below {α : Type} {g : α → Value} {w w' : World} {h : Hd} {xs : List α} {B : Nat} (hr : IsRow g w h xs) (hb : Below B w w') (hB : w.heap.size ≤ B) : IsRow g w' h xs :=
  ⟨hr.1, hr.2.1, hr.2.2.1, hr.2.2.2.below hb hB⟩
/-- The rows behind a list of slices. -/
def IsRows {α : Type} (g : α → Value) (w : World) (hs : List Hd) (xss : List (List α)) : Prop := xss.length = hs.length ∧ ∀ (i : Nat) (h : Hd) (xs : List α), hs[i]? = some h → xss[i]? = some xs → IsRow g w h xs
theorem IsRows.below {α : Type} {g : α → Value} {w w' : World} {hs : List Hd} {xss : List (List α)} {B : Nat} (hr : IsRows g w hs xss) (hb : Below B w w') (hB : w.heap.size ≤ B) : IsRows g w' hs xss :=
  ⟨hr.1, fun i h xs h1 h2 => (hr.2 i h xs h1 h2).below hb hB⟩
/-- A slice of slices that can be read. -/
def IsNest {α : Type} (g : α → Value) (w : World) (a : Option Addr) (n c : Nat) (hs : List Hd) (xss : List (List α)) : Prop := hs.length = n ∧ n ≤ c ∧ c ≤ maxLen ∧ RowIn w a (hs.map Hd.val) ∧ IsRows g w hs xss
theorem IsNest.below {α : Type} {g : α → Value} {w w' : World} {a : Option Addr} {n c : Nat} {hs : List Hd} {xss : List (List α)} {B : Nat} (hr : IsNest g w a n c hs xss) (hb : Below B w w') (hB : w.heap.size ≤ B) : IsNest g w' a n c hs xss :=
  ⟨hr.1, hr.2.1, hr.2.2.1, hr.2.2.2.1.below hb hB, hr.2.2.2.2.below hb hB⟩
/-- The k-th slice, and its row. -/
theorem IsNest.get {α : Type} {g : α → Value} {w : World} {a : Option Addr} {n c : Nat} {hs : List Hd} {xss : List (List α)} (hn : IsNest g w a n c hs xss) {k : Nat} (hk : k < n) :
    ∃ h xs b o, hs[k]? = some h ∧ xss[k]? = some xs ∧ a = some ⟨b, o, none⟩ ∧ b < w.heap.size ∧ w.cell? ⟨b, o + k, none⟩ = some (.slice h.a h.n h.c) ∧ IsRow g w h xs := by
  obtain ⟨h1, h2, h3, h4, h5, h6⟩ := hn
  obtain ⟨h, b, o, e1, e2, e3, e4⟩ := h4.get (k := k) (by omega)
  have e5 : xss[k]? = some (xss[k]'(by omega)) := List.getElem?_eq_getElem (by omega)
  exact ⟨h, _, b, o, e1, e5, e2, e3, e4, h6 k h _ e1 e5⟩

/-- Rows of the call's own, in blocks from lo to hi, one behind the other. -/
def RowsOwn (E : TypeId) (w : World) : Nat → Nat → List Hd → List (List Value) → Prop
  | lo, hi, [], [] => lo ≤ hi
  | lo, hi, h :: hs, cs :: css => ∃ mid, lo ≤ mid ∧ Owned lo mid w E 1 h.a h.n h.c cs ∧ RowsOwn E w mid hi hs css
  | _, _, _, _ => False
section
variable {E : TypeId} {w w' : World}
theorem RowsOwn.len : ∀ {hs : List Hd} {css : List (List Value)} {lo hi : Nat}, RowsOwn E w lo hi hs css → css.length = hs.length
  | [], [], _, _, _ => rfl
  | h :: hs, cs :: css, lo, hi, hr => by obtain ⟨mid, _, _, h3⟩ := hr; simp [h3.len]
  | [], _ :: _, _, _, hr => False.elim hr
  | _ :: _, [], _, _, hr => False.elim hr
theorem RowsOwn.le : ∀ {hs : List Hd} {css : List (List Value)} {lo hi : Nat}, RowsOwn E w lo hi hs css → lo ≤ hi
  | [], [], _, _, h => h
  | h :: hs, cs :: css, lo, hi, hr => by obtain ⟨mid, h1, _, h3⟩ := hr; have := h3.le; omega
  | [], _ :: _, _, _, hr => False.elim hr
  | _ :: _, [], _, _, hr => False.elim hr
theorem RowsOwn.save {lo' hi' : Nat} (hs' : Save lo' hi' w w') : ∀ {hs : List Hd} {css : List (List Value)} {lo hi : Nat}, RowsOwn E w lo hi hs css → (hi ≤ lo' ∨ hi' ≤ lo) → RowsOwn E w' lo hi hs css
  | [], [], _, _, h, _ => h
  | h :: hs, cs :: css, lo, hi, hr, hd => by
    obtain ⟨mid, h1, h2, h3⟩ := hr
    have := h3.le
    exact ⟨mid, h1, h2.save hs' (by omega), h3.save hs' (by omega)⟩
  | [], _ :: _, _, _, hr, _ => False.elim hr
  | _ :: _, [], _, _, hr, _ => False.elim hr
theorem RowsOwn.below {B : Nat} (hb : Below B w w') : ∀ {hs : List Hd} {css : List (List Value)} {lo hi : Nat}, RowsOwn E w lo hi hs css → hi ≤ B → RowsOwn E w' lo hi hs css
  | [], [], _, _, h, _ => h
  | h :: hs, cs :: css, lo, hi, hr, hd => by
    obtain ⟨mid, h1, h2, h3⟩ := hr
    have := h3.le
    exact ⟨mid, h1, h2.below hb (by omega), h3.below hb hd⟩
  | [], _ :: _, _, _, hr, _ => False.elim hr
  | _ :: _, [], _, _, hr, _ => False.elim hr
theorem RowsOwn.snoc {mid hi : Nat} {h : Hd} {cs : List Value} : ∀ {hs : List Hd} {css : List (List Value)} {lo : Nat}, RowsOwn E w lo mid hs css → mid ≤ hi → Owned mid hi w E 1 h.a h.n h.c cs → RowsOwn E w lo hi (hs ++ [h]) (css ++ [cs])
  | [], [], lo, hl, hm, ho => ⟨hi, Nat.le_trans hl hm, ⟨⟨ho.1.1, by
      rcases ho.1.2 with h0 | ⟨g, cap, cur, h1, h2, h3⟩
      · exact .inl h0
      · exact .inr ⟨g, cap, cur, h1, Nat.le_trans hl h2, h3⟩⟩, ho.2⟩, Nat.le_refl _⟩
  | k :: hs, ds :: css, lo, hr, hm, ho => by
    obtain ⟨m, h1, h2, h3⟩ := hr
    exact ⟨m, h1, h2, h3.snoc hm ho⟩
  | [], _ :: _, _, hr, _, _ => False.elim hr
  | _ :: _, [], _, hr, _, _ => False.elim hr
/-- One row, and the way back with other contents. -/
theorem RowsOwn.at : ∀ {hs : List Hd} {css : List (List Value)} {lo hi : Nat} (k : Nat) {h : Hd} {cs : List Value}, RowsOwn E w lo hi hs css → hs[k]? = some h → css[k]? = some cs →
    ∃ p q, lo ≤ p ∧ p ≤ q ∧ q ≤ hi ∧ Owned p q w E 1 h.a h.n h.c cs ∧ ∀ w' cs', Save p q w w' → Owned p q w' E 1 h.a h.n h.c cs' → RowsOwn E w' lo hi hs (css.set k cs')
  | [], _, _, _, k, _, _, _, h1, _ => by simp at h1
  | _ :: _, [], _, _, k, _, _, hr, _, _ => False.elim hr
  | h0 :: hs, c0 :: css, lo, hi, 0, h, cs, hr, h1, h2 => by
    simp at h1 h2
    subst h1 h2
    obtain ⟨m, k1, k2, k3⟩ := hr
    have := k3.le
    exact ⟨lo, m, Nat.le_refl _, k1, this, k2, fun w' cs' hs ho => ⟨m, k1, ho, k3.save hs (by omega)⟩⟩
  | h0 :: hs, c0 :: css, lo, hi, k + 1, h, cs, hr, h1, h2 => by
    obtain ⟨m, k1, k2, k3⟩ := hr
    obtain ⟨p, q, p1, p2, p3, p4, p5⟩ := RowsOwn.at k k3 (by simpa using h1) (by simpa using h2)
    exact ⟨p, q, by omega, p2, p3, p4, fun w' cs' hs ho => ⟨m, k1, k2.save hs (by omega), p5 w' cs' hs ho⟩⟩
theorem RowsOwn.rows {α : Type} {g : α → Value} : ∀ {hs : List Hd} {xss : List (List α)} {lo hi : Nat}, RowsOwn E w lo hi hs (xss.map (·.map g)) → IsRows g w hs xss := by
  intro hs xss lo hi hr
  refine ⟨by have := hr.len; simpa using this, fun i h xs h1 h2 => ?_⟩
  obtain ⟨p, q, _, _, _, ho, _⟩ := hr.at i h1 (by rw [List.getElem?_map, h2]; rfl)
  obtain ⟨k1, k2, k3, k4⟩ := ho.row
  exact ⟨by simpa using k1, k2, k3, k4⟩
end
theorem Owned.wide {lo hi lo' hi' n c : Nat} {w : World} {E : TypeId} {sz : Nat} {a : Option Addr} {xs : List Value} (h : Owned lo hi w E sz a n c xs) (h1 : lo' ≤ lo) (h2 : hi ≤ hi') : Owned lo' hi' w E sz a n c xs :=
  ⟨own_base h.1 h1, fun x hx => by have := h.2 x hx; omega⟩
/-- A slice of slices of the call's own: the outer row from lo to mid, the rows from mid to hi. -/
structure OwnNest (O E : TypeId) (lo mid hi : Nat) (w : World) (a : Option Addr) (n c : Nat) (hs : List Hd) (css : List (List Value)) : Prop where
  le : lo ≤ mid
  outer : Owned lo mid w O 1 a n c (hs.map Hd.val)
  rows : RowsOwn E w mid hi hs css
theorem isNest_own {α : Type} {g : α → Value} {O E : TypeId} {lo hi mid : Nat} {w : World} {a : Option Addr} {n c : Nat} {hs : List Hd} {xss : List (List α)} (ho : Owned lo mid w O 1 a n c (hs.map Hd.val)) (hr : RowsOwn E w mid hi hs (xss.map (·.map g))) : IsNest g w a n c hs xss := by
  obtain ⟨k1, k2, k3, k4⟩ := ho.row
  exact ⟨by simpa using k1, k2, k3, k4, hr.rows⟩
theorem rows_lens {α : Type} {g : α → Value} {w : World} {hs : List Hd} {xss : List (List α)} (h : IsRows g w hs xss) : hs.map (·.n) = xss.map (·.length) := by
  apply List.ext_getElem?
  intro i
  simp only [List.getElem?_map]
  by_cases hi : i < hs.length
  · have e1 : hs[i]? = some (hs[i]'hi) := List.getElem?_eq_getElem hi
    have e2 : xss[i]? = some (xss[i]'(by rw [h.1]; exact hi)) := List.getElem?_eq_getElem _
    have := (h.2 i _ _ e1 e2).1
    rw [e1, e2]; simp [this]
  · rw [List.getElem?_eq_none (by omega), List.getElem?_eq_none (by rw [h.1]; omega)]; rfl
theorem RowIn.kept {w w' : World} {a : Option Addr} {cells : List Value} {row : Option Nat} (h : RowIn w a cells) (hg : w.grownBy w' row) (hd : ∀ x, a = some x → some x.block ≠ row) : RowIn w' a cells := by
  intro i v hv
  obtain ⟨b, off, rfl, hc⟩ := h i v hv
  exact ⟨b, off, rfl, (World.cell?_of_block (a := ⟨b, off + i, none⟩) (hg.block b (World.block_lt_of_cell? w _ hc) (hd _ rfl))).trans hc⟩
theorem IsRow.kept {α : Type} {g : α → Value} {w w' : World} {h : Hd} {xs : List α} {row : Option Nat} (hr : IsRow g w h xs) (hg : w.grownBy w' row) (hd : ∀ x, h.a = some x → some x.block ≠ row) : IsRow g w' h xs :=
  ⟨hr.1, hr.2.1, hr.2.2.1, hr.2.2.2.kept hg hd⟩
theorem IsRows.kept {α : Type} {g : α → Value} {w w' : World} {hs : List Hd} {xss : List (List α)} {row : Option Nat} (hr : IsRows g w hs xss) (hg : w.grownBy w' row) (hd : ∀ h ∈ hs, ∀ x, h.a = some x → some x.block ≠ row) : IsRows g w' hs xss :=
  ⟨hr.1, fun i h xs h1 h2 => (hr.2 i h xs h1 h2).kept hg (hd h (List.mem_of_getElem? h1))⟩
theorem IsRows.snoc {α : Type} {g : α → Value} {w : World} {hs : List Hd} {xss : List (List α)} {h : Hd} {xs : List α} (hr : IsRows g w hs xss) (hx : IsRow g w h xs) : IsRows g w (hs ++ [h]) (xss ++ [xs]) := by
  refine ⟨by simp [hr.1], fun i k ys h1 h2 => ?_⟩
  by_cases hi : i < hs.length
  · rw [List.getElem?_append_left hi] at h1
    rw [List.getElem?_append_left (by rw [hr.1]; exact hi)] at h2
    exact hr.2 i k ys h1 h2
  · rw [List.getElem?_append_right (by omega)] at h1
    rw [List.getElem?_append_right (by rw [hr.1]; omega), hr.1] at h2
    have : i - hs.length = 0 := by
      have := (List.getElem?_eq_some_iff.1 h1).1; simp at this; omega
    rw [this] at h1 h2
    simp at h1 h2
    subst h1 h2
    exact hx
theorem IsRows.set {α : Type} {g : α → Value} {w : World} {hs : List Hd} {xss : List (List α)} {h : Hd} {xs : List α} (hr : IsRows g w hs xss) (hx : IsRow g w h xs) (k : Nat) : IsRows g w (hs.set k h) (xss.set k xs) := by
  refine ⟨by simp [hr.1], fun i k' ys h1 h2 => ?_⟩
  by_cases hi : k = i
  · subst hi
    rw [List.getElem?_set_self' ] at h1 h2
    cases e1 : hs[k]? with
    | none => rw [e1] at h1; simp at h1
    | some y =>
      rw [e1] at h1; simp at h1; subst h1
      cases e2 : xss[k]? with
      | none => rw [e2] at h2; simp at h2
      | some z => rw [e2] at h2; simp at h2; subst h2; exact hx
  · rw [List.getElem?_set_ne hi] at h1 h2
    exact hr.2 i k' ys h1 h2
theorem nest_of {α : Type} {g : α → Value} {w : World} {B : Nat} {E : TypeId} {a : Option Addr} {n c : Nat} {hs : List Hd} {xss : List (List α)} (h : w.ownsRow B E 1 (.slice a n c) n (hs.map Hd.val)) (hr : IsRows g w hs xss) : IsNest g w a n c hs xss := by
  obtain ⟨a', c', e, hl, hn, hc, hrow⟩ := rowIn_own h
  injection e with e1 e2 e3
  subst e1 e3
  exact ⟨by simpa using hl, hn, hc, hrow, hr⟩
end Go.Proofs.Ytahfbhfmhccgoaa
