/- Slices of slices of bools: the laws' helpers. -/
import Derived.Test.YtahfbhfmhccgoaaNest
import Derived.Test.YtahfbhfmhccgoaaBools
set_option linter.unusedSimpArgs false
set_option linter.unusedVariables false
namespace Go.Proofs.Ytahfbhfmhccgoaa
open Go.RowKit Go.ChangeShapes Go.WideShapes Go.ChangeAt Go.Joins Go.Deep
open Go.ChangeMaps (open_string shut_string)
theorem isRowsB_of {H : Type} {enc : TypeId × Value → H} {w : World} {base : Nat} {held : Bool} {fuel : Nat} {cs : List Value} {x : DataW H × List MemPlace}
    (h : DataW.trod enc Try.prog w base (fun _ => true) held fuel 24 cs = some x) : ∃ a n c, ∃ p : List Hd × List (List Bool), cs = [.slice a n c] ∧ IsNest .bool w a n c p.1 p.2 := by
  rcases Go.Deep.open_slice1 Try.underlying24 (by kernel_rfl) h with ⟨hcs, _⟩ | ⟨a, len, cap, m, n, V, D, Pl, hcs, hb, hl, hm, hmm, _, hx⟩
  · exact ⟨none, 0, 0, ([], []), hcs, rfl, Nat.le_refl _, Nat.zero_le _, RowIn.nil _ _, rfl, fun i h xs h1 => by simp at h1⟩
  · simp only [if_true] at hmm
    subst hmm
    obtain ⟨ps, hlen, hps⟩ := exists_list (P := fun i (p : Hd × List Bool) => w.cell? (a.add i) = some p.1.val ∧ IsRow Value.bool w p.1 p.2) len (fun i hi => by
      obtain ⟨h1, h2⟩ := hx i (by omega)
      obtain ⟨a', n', c', bs, e, hr⟩ := isBools_of Try.underlying26 Try.underlying4 (by kernel_rfl) h2
      injection e with e _
      exact ⟨(⟨a', n', c'⟩, bs), by rw [h1, e]; rfl, hr⟩)
    refine ⟨some a, len, _, (ps.map (·.1), ps.map (·.2)), hcs, by simpa using hlen, hl, hm, rowIn_of fun i v hv => ?_, by simp, fun i h xs h1 h2 => ?_⟩
    · rw [List.getElem?_map, List.getElem?_map, Option.map_eq_some_iff] at hv
      obtain ⟨h, hh, rfl⟩ := hv
      rw [Option.map_eq_some_iff] at hh
      obtain ⟨p, hp, rfl⟩ := hh
      exact (hps i p hp).1
    · simp only [List.getElem?_map, Option.map_eq_some_iff] at h1 h2
      obtain ⟨p, hp, rfl⟩ := h1
      obtain ⟨p', hp', rfl⟩ := h2
      rw [hp] at hp'
      injection hp' with hp'
      subst hp'
      exact (hps i p hp).2

def sumN (hs : List Hd) : Nat := (hs.map (·.n)).sum
theorem sumN_snoc {hs : List Hd} {k : Nat} {h : Hd} (hk : hs[k]? = some h) : sumN (hs.take (k + 1)) = sumN (hs.take k) + h.n := by
  unfold sumN; rw [take_snoc hk, List.map_append, List.sum_append]; simp
theorem sumN_take_le (hs : List Hd) (k : Nat) : sumN (hs.take k) ≤ sumN hs := by
  have : sumN hs = sumN (hs.take k) + sumN (hs.drop k) := by unfold sumN; rw [← List.sum_append, ← List.map_append, List.take_append_drop]
  omega
theorem sumN_at {hs : List Hd} {k : Nat} {h : Hd} (hk : hs[k]? = some h) : h.n ≤ sumN hs := by
  have := sumN_take_le hs (k + 1); rw [sumN_snoc hk] at this; omega

/-- What is left of l behind n and all rows; -1 where it is used up. -/
def szNest (l : Int) (n : Nat) (hs : List Hd) : Int := if l - n - sumN hs < 0 then -1 else l - n - sumN hs

theorem info_SB : (Try.prog.info? 26).map (fun i => (i.zero, i.size, i.bytes)) = some (some (.slice none 0 0), 1, 24) := by kernel_rfl
/-- A slice of slices in new memory. -/
def FreshN (w : World) (O E : TypeId) (n : Nat) (css : List (List Value)) (e : Ending) (w' : World) : Prop :=
  ∃ a c hs mid, e = .returned (.slice a n c) ∧ w.heap.size ≤ mid ∧ mid ≤ w'.heap.size ∧ Owned w.heap.size mid w' O 1 a n c (hs.map Hd.val) ∧ RowsOwn E w' mid w'.heap.size hs css ∧ hs.map (·.n) = css.map (·.length) ∧ Below w.heap.size w w'
theorem own_hi {lo hi n c : Nat} {w : World} {E : TypeId} {sz : Nat} {g : Nat} {xs : List Value} (h : w.ownsRow lo E sz (.slice (some ⟨g, 0, none⟩) n c) n xs) (hg : g < hi) : Owned lo hi w E sz (some ⟨g, 0, none⟩) n c xs :=
  ⟨h, fun x hx => by injection hx with hx; subst hx; exact hg⟩

/-- The marks of rows of these lengths. -/
def markRows (k0 : Int) : List Nat → List (List Bool)
  | [] => []
  | n :: ns => markB k0 n :: markRows (k0 + n) ns
end Go.Proofs.Ytahfbhfmhccgoaa
