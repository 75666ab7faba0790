/- A batch's served requests, plainly. -/
import Derived.Test.YtahfbhfmhccgoaaServe4
import Derived.Test.YtahfbhfmhccgoaaDrawBatch
import Derived.Test.YtahfbhfmhccgoaaSlotMark
set_option linter.unusedSimpArgs false
set_option linter.unusedVariables false
namespace Go.Proofs.Ytahfbhfmhccgoaa
open Go.RowKit Go.ChangeShapes Go.WideShapes Go.ChangeAt Go.Joins Go.Deep
open Go.ChangeMaps (open_string shut_string)
theorem batch_nodup {lines : Int} {es : List Rq} (h : BatchOk lines es) : NoDupId es := by
  unfold NoDupId
  rw [List.pairwise_iff_getElem]
  intro i j hi hj hij
  have h1 := h i es[i] (List.getElem?_eq_getElem hi)
  have h2 := h j es[j] (List.getElem?_eq_getElem hj)
  omega
theorem batch_ids {lines : Int} {es : List Rq} (h : BatchOk lines es) {i j : Nat} {a b : Rq} (ha : es[i]? = some a) (hb : es[j]? = some b) (hij : i ≠ j) : a.id ≠ b.id := by
  have h1 := h i a ha
  have h2 := h j b hb
  omega
theorem servable_batch {zs : List Int} {l u : Int} {n : Nat} (hok : slotsOkB zs l = true) (hl : 20 ≤ l) (hu : 0 ≤ u) (hu2 : u ≤ 1000) (hn : n ≤ 13) : servable zs l u n = true := by
  have h1 : u / l ≤ u := Int.ediv_le_self l hu
  exact servable_yes hok (btw_true.2 ⟨hu, by omega⟩) (by omega) (by omega)
/-- Who is served, with the time. -/
def whoS (es : List Rq) (zs : List Int) (l u : Int) : List (Rq × Int) := (stW es zs l (nSlots u l)).2
theorem served_who {lines : Int} {es : List Rq} {zs : List Int} {l u : Int} (h : BatchOk lines es) (hs : servable zs l u es.length = true) : servedAll es zs l u = (whoS es zs l u).map (fun x => ⟨x.1.id, x.2⟩) := by
  unfold servedAll whoS
  rw [if_pos hs]
  exact (stW_is es zs l (batch_nodup h) _).2
theorem who_at {es : List Rq} {zs : List Int} {l u : Int} (hl : 0 < l) {i : Nat} {x : Rq × Int} (hx : (whoS es zs l u)[i]? = some x) :
    ∃ q : Nat, es[q]? = some x.1 ∧ ownerAt zs l x.2 = x.1.tenant ∧ x.1.tm ≤ x.2 ∧ 0 ≤ x.2 ∧ x.2 < u ∧ x.2 % l = 0 ∧ x.2.tmod l = 0 := by
  have hg := good es zs l hl (nSlots u l)
  obtain ⟨h1, h2, h3, j, hj, h4⟩ := hg.mem x (List.mem_of_getElem? hx)
  obtain ⟨q, hq⟩ := List.getElem?_of_mem h1
  have h5 := (nSlots_iff (u := u) hl j).2 hj
  refine ⟨q, hq, h2.symm, h3, by rw [h4]; exact Int.mul_nonneg (by omega) (by omega), by rw [h4]; exact h5, by rw [h4]; exact Int.mul_emod_left _ _, by rw [h4]; exact Int.mul_tmod_left _ _⟩
theorem who_lt {es : List Rq} {zs : List Int} {l u : Int} (hl : 0 < l) {i k : Nat} {x y : Rq × Int} (hx : (whoS es zs l u)[i]? = some x) (hy : (whoS es zs l u)[k]? = some y) (hik : i < k) : x.2 < y.2 ∧ x.1.id ≠ y.1.id := by
  have hg := good es zs l hl (nSlots u l)
  have h1 := List.pairwise_iff_getElem.1 hg.inc i k (List.getElem?_eq_some_iff.1 hx).1 (List.getElem?_eq_some_iff.1 hy).1 hik
  have h2 := List.pairwise_iff_getElem.1 hg.ids i k (List.getElem?_eq_some_iff.1 hx).1 (List.getElem?_eq_some_iff.1 hy).1 hik
  have e1 : ((stW es zs l (nSlots u l)).2)[i]'(List.getElem?_eq_some_iff.1 hx).1 = x := (List.getElem?_eq_some_iff.1 hx).2
  have e2 : ((stW es zs l (nSlots u l)).2)[k]'(List.getElem?_eq_some_iff.1 hy).1 = y := (List.getElem?_eq_some_iff.1 hy).2
  rw [e1, e2] at h1 h2
  exact ⟨h1, h2⟩
/-- Those of one tenant. -/
def mineTo (L : List (Rq × Int)) (t : Int) (i : Nat) : List Sv := ((L.take i).filter (fun x => x.1.tenant == t)).map (fun x => ⟨x.1.id, x.2⟩)
theorem mineTo_yes {L : List (Rq × Int)} {t : Int} {i : Nat} {x : Rq × Int} (h : L[i]? = some x) (ht : (x.1.tenant == t) = true) : mineTo L t (i + 1) = mineTo L t i ++ [⟨x.1.id, x.2⟩] := by
  unfold mineTo
  rw [take_snoc h, List.filter_append, List.map_append]; simp [ht]
theorem mineTo_no {L : List (Rq × Int)} {t : Int} {i : Nat} {x : Rq × Int} (h : L[i]? = some x) (ht : (x.1.tenant == t) = false) : mineTo L t (i + 1) = mineTo L t i := by
  unfold mineTo
  rw [take_snoc h, List.filter_append, List.map_append]; simp [ht]
theorem keep_nodup {es : List Rq} (h : NoDupId es) (t : Int) : NoDupId (keepT es t) := List.Pairwise.filter _ h
theorem mine_alone {lines : Int} {es : List Rq} {zs : List Int} {l u t : Int} (h : BatchOk lines es) (hl : 0 < l) (hs : servable zs l u (keepT es t).length = true) : mineTo (whoS es zs l u) t (whoS es zs l u).length = servedAll (keepT es t) zs l u := by
  have hn := batch_nodup h
  unfold servedAll
  rw [if_pos hs, (stW_is (keepT es t) zs l (keep_nodup hn t) _).2]
  unfold mineTo whoS
  rw [List.take_of_length_le (Nat.le_refl _)]
  congr 1
  exact (stW_alone es zs l t hn hl (nSlots u l)).2.symm
theorem keepT_le (es : List Rq) (t : Int) : (keepT es t).length ≤ es.length := List.length_filter_le _ _
theorem mineTo_le (L : List (Rq × Int)) (t : Int) (i : Nat) : (mineTo L t i).length ≤ i := by
  unfold mineTo
  rw [List.length_map]
  exact Nat.le_trans (List.length_filter_le _ _) (by rw [List.length_take]; exact Nat.min_le_left _ _)
end Go.Proofs.Ytahfbhfmhccgoaa
