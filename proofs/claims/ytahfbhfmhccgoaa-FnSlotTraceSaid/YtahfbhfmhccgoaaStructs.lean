/- Slices of structs of one-cell fields: each element's cells, one behind the other. -/
import Derived.Test.YtahfbhfmhccgoaaCommon
import Derived.Deep.Slices
import Derived.Deep.Fields
import Derived.ChangeSame
set_option linter.unusedSimpArgs false
set_option linter.unusedVariables false
namespace Go.Proofs.Ytahfbhfmhccgoaa
open Go.RowKit Go.ChangeShapes Go.WideShapes Go.ChangeAt Go.Joins Go.Deep
open Go.ChangeMaps (open_string shut_string)

section
variable {H : Type} {enc : TypeId × Value → H} {P : Program} {w : World} {base : Nat} {spare : Nat → Bool} {held : Bool}
theorem open_slice_fields {t e : TypeId} {fs : Array Field} {fuel : Nat} {cs : List Value} {x : DataW H × List MemPlace} (ht : P.underlying t = some (.slice e)) (he : P.underlying e = some (.struct fs))
    (hone : oneCellFields P fs = true) (hC : P.cellsOf e = fs.size) (h : DataW.trod enc P w base spare held fuel t cs = some x) :
    (cs = [.slice none 0 0]) ∨
    ∃ (a : Addr) (len cap : Nat), cs = [.slice (some a) len cap] ∧ len ≤ cap ∧ cap ≤ maxLen ∧
      ∀ i, i < len → ∃ n : Nat, ∀ (j : Nat) (f : Field), fs[j]? = some f → ∃ (v : Value) (y : DataW H × List MemPlace), w.cell? (a.add (i * fs.size + j)) = some v ∧ DataW.trod enc P w base spare held n f.type [v] = some y := by
  rcases open_slice ht h with h0 | ⟨a, len, cap, m, n, D, Pl, hcs, hb, hl, hm, hmm, hx, hi⟩
  · exact .inl h0.1
  · refine .inr ⟨a, len, cap, hcs, hl, hm, fun i him => ?_⟩
    have hlm : len ≤ m := by rw [hmm]; split <;> omega
    obtain ⟨cs', hc, ht'⟩ := hi i (by omega)
    rw [hC] at hc
    obtain ⟨ys, n', hn', hy, hlen, hyl, hf⟩ := DataW.trod_struct he ht'
    obtain ⟨_, hcl, hat⟩ := World.cells?_some hc
    refine ⟨n', fun j f hj => ?_⟩
    obtain ⟨ho, hk⟩ := hone_of hone j f hj
    have hjl : j < fs.size := (Array.getElem?_eq_some_iff.1 hj).1
    have hcell := hat j hjl
    have hv : cs'[j]? = some (cs'[j]'(by omega)) := List.getElem?_eq_getElem (by omega)
    have h1 := hf j f hj
    rw [ho, hk] at h1
    have hone' : (cs'.drop j).take 1 = [cs'[j]'(by omega)] := by
      rw [List.drop_eq_getElem_cons (by omega)]
      rfl
    rw [hone'] at h1
    have hys : ys[j]? = some (ys[j]'(by omega)) := List.getElem?_eq_getElem (by omega)
    refine ⟨_, _, ?_, h1.trans hys⟩
    rw [← Go.Deep.add_add, hcell, hv]
end

theorem exists_list {α : Type} {P : Nat → α → Prop} : ∀ (n : Nat), (∀ i, i < n → ∃ x, P i x) → ∃ xs : List α, xs.length = n ∧ ∀ i x, xs[i]? = some x → P i x := by
  intro n
  induction n with
  | zero => exact fun _ => ⟨[], rfl, fun i x h => by simp at h⟩
  | succ n ih =>
    intro h
    obtain ⟨xs, hl, hx⟩ := ih fun i hi => h i (by omega)
    obtain ⟨y, hy⟩ := h n (by omega)
    refine ⟨xs ++ [y], by simp [hl], fun i x hi => ?_⟩
    by_cases hin : i < n
    · exact hx i x (by rw [List.getElem?_append_left (by omega)] at hi; exact hi)
    · rw [List.getElem?_append_right (by omega)] at hi
      have : i - xs.length = 0 := by
        rcases Nat.eq_zero_or_pos (i - xs.length) with h0 | h0
        · exact h0
        · rw [List.getElem?_eq_none (by simp; omega)] at hi; cases hi
      rw [this] at hi
      simp at hi
      subst hi
      obtain rfl : i = n := by omega
      exact hy

theorem flat_at {α β : Type} {f : α → List β} {sz : Nat} (hf : ∀ x, (f x).length = sz) : ∀ (xs : List α) (k j : Nat) (x : α) (v : β), xs[k]? = some x → (f x)[j]? = some v → (xs.flatMap f)[k * sz + j]? = some v := by
  intro xs
  induction xs with
  | nil => intro k j x v h; simp at h
  | cons y ys ih =>
    intro k j x v h hv
    rw [List.flatMap_cons]
    cases k with
    | zero =>
      simp at h; subst h
      rw [List.getElem?_append_left (by have := (List.getElem?_eq_some_iff.1 hv).1; omega)]
      simpa using hv
    | succ k =>
      rw [List.getElem?_append_right (by rw [hf, Nat.succ_mul]; omega)]
      have := ih k j x v (by simpa using h) hv
      rw [hf, show (k + 1) * sz + j - sz = k * sz + j by rw [Nat.succ_mul]; omega]
      exact this
theorem flat_len {α β : Type} {f : α → List β} {sz : Nat} (hf : ∀ x, (f x).length = sz) (xs : List α) : (xs.flatMap f).length = xs.length * sz := by
  induction xs with
  | nil => simp
  | cons y ys ih => rw [List.flatMap_cons, List.length_append, ih, hf, List.length_cons, Nat.succ_mul]; omega
theorem flat_of {α β : Type} {f : α → List β} {sz : Nat} (hf : ∀ x, (f x).length = sz) (xs : List α) (i : Nat) (v : β) (h : (xs.flatMap f)[i]? = some v) : ∃ k j x, i = k * sz + j ∧ xs[k]? = some x ∧ (f x)[j]? = some v ∧ j < sz := by
  have hl := (List.getElem?_eq_some_iff.1 h).1
  rw [flat_len hf] at hl
  have hsz : 0 < sz := by rcases Nat.eq_zero_or_pos sz with h0 | h0; · rw [h0] at hl; omega
                          · exact h0
  have hk : i / sz < xs.length := Nat.div_lt_of_lt_mul (by rw [Nat.mul_comm]; exact hl)
  have hj := Nat.mod_lt i hsz
  have e : i = i / sz * sz + i % sz := by rw [Nat.mul_comm]; exact (Nat.div_add_mod i sz).symm
  obtain ⟨v', hv'⟩ : ∃ v', (f (xs[i / sz]'hk))[i % sz]? = some v' := ⟨_, List.getElem?_eq_getElem (by rw [hf]; exact hj)⟩
  have := flat_at hf xs (i / sz) (i % sz) _ v' (List.getElem?_eq_getElem hk) hv'
  rw [← e, h] at this
  injection this with this
  subst this
  exact ⟨_, _, _, e, List.getElem?_eq_getElem hk, hv', hj⟩

/-- A slice of structs that came in: the elements xs, each with sz cells. -/
def IsStructs {α : Type} (f : α → List Value) (sz : Nat) (w : World) (a : Option Addr) (n c : Nat) (xs : List α) : Prop := xs.length = n ∧ n ≤ c ∧ c ≤ maxLen ∧ RowIn w a (xs.flatMap f)
theorem IsStructs.below {α : Type} {f : α → List Value} {sz : Nat} {w w' : World} {a : Option Addr} {n c : Nat} {xs : List α} {B : Nat} (h : IsStructs f sz w a n c xs) (hb : Below B w w') (hB : w.heap.size ≤ B) : IsStructs f sz w' a n c xs :=
  ⟨h.1, h.2.1, h.2.2.1, h.2.2.2.below hb hB⟩
/-- The cells of the k-th element. -/
theorem IsStructs.get {α : Type} {f : α → List Value} {sz : Nat} {w : World} {a : Option Addr} {n c : Nat} {xs : List α} (h : IsStructs f sz w a n c xs) (hf : ∀ x, (f x).length = sz) (hsz : 0 < sz) {k : Nat} (hk : k < n) :
    ∃ x b o, xs[k]? = some x ∧ a = some ⟨b, o, none⟩ ∧ b < w.heap.size ∧ ∀ j v, (f x)[j]? = some v → w.cell? ⟨b, o + (k * sz + j), none⟩ = some v := by
  obtain ⟨hn, hc, hm, hr⟩ := h
  have hx : xs[k]? = some (xs[k]'(by omega)) := List.getElem?_eq_getElem (by omega)
  obtain ⟨b, o, ha, hb, hcell⟩ := hr.at0 (by rw [flat_len hf, hn]; exact Nat.mul_pos (by omega) hsz)
  exact ⟨_, b, o, hx, ha, hb, fun j v hv => hcell _ v (flat_at hf xs k j _ v hx hv)⟩
end Go.Proofs.Ytahfbhfmhccgoaa
