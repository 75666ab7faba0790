/- The choice of a request, plainly: all that the law asks of it. -/
import Derived.Test.YtahfbhfmhccgoaaChoose
set_option linter.unusedSimpArgs false
set_option linter.unusedVariables false
namespace Go.Proofs.Ytahfbhfmhccgoaa
open Go.RowKit Go.ChangeShapes Go.WideShapes Go.ChangeAt Go.Joins Go.Deep
open Go.ChangeMaps (open_string shut_string)
theorem ch_spec (es : List Rq) (able hit : List Bool) (lim : Int) : ∀ k : Nat, (chTo es able hit lim k = (-1, 0) ∧ ∀ i, i < k → rankOf es able hit lim i = 0) ∨
    (∃ i R : Nat, chTo es able hit lim k = ((i : Int), R) ∧ i < k ∧ 0 < R ∧ rankOf es able hit lim i = R ∧ (∀ m, m < k → rankOf es able hit lim m ≤ R) ∧ ∀ m, m < i → rankOf es able hit lim m < R)
  | 0 => .inl ⟨rfl, fun i hi => by omega⟩
  | k + 1 => by
    rcases ch_spec es able hit lim k with ⟨h1, h2⟩ | ⟨i, R, h1, h2, h3, h4, h5, h6⟩
    · by_cases h0 : rankOf es able hit lim k = 0
      · refine .inl ⟨ch_keep h1 (by rw [h0]; exact Nat.zero_le _), fun i hi => ?_⟩
        by_cases e : i = k
        · rw [e, h0]
        · exact h2 i (by omega)
      · refine .inr ⟨k, _, ch_take h1 rfl (by show 0 < _; omega), by omega, by omega, rfl, fun m hm => ?_, fun m hm => by rw [h2 m hm]; omega⟩
        by_cases e : m = k
        · rw [e]; exact Nat.le_refl _
        · rw [h2 m (by omega)]; omega
    · by_cases hr : rankOf es able hit lim k ≤ R
      · refine .inr ⟨i, R, ch_keep h1 hr, by omega, h3, h4, fun m hm => ?_, h6⟩
        by_cases e : m = k
        · rw [e]; exact hr
        · exact h5 m (by omega)
      · refine .inr ⟨k, _, ch_take h1 rfl (by show R < _; omega), by omega, by omega, rfl, fun m hm => ?_, fun m hm => ?_⟩
        · by_cases e : m = k
          · rw [e]; exact Nat.le_refl _
          · have := h5 m (by omega); omega
        · have := h5 m hm; omega
/-- All that the law asks of a choice. -/
theorem chosen_ok {es : List Rq} {able hit : List Bool} {cap now : Int} (h : 0 ≤ chosen es able hit cap now) :
    ∃ (i : Nat) (e : Rq), chosen es able hit cap now = i ∧ es[i]? = some e ∧ ableAt able i = true ∧ 0 ≤ cap ∧ cap ≤ 1000000 ∧ 0 ≤ now ∧ now ≤ 1000000 ∧
      ∀ (k : Nat) (f : Rq), es[k]? = some f → ableAt able k = true → (f.tm ≤ now - cap → e.tm ≤ now - cap ∧ i ≤ k) ∧ (¬ e.tm ≤ now - cap → ableAt hit k = true → ableAt hit i = true) := by
  unfold chosen at h ⊢
  by_cases hb : btw cap 0 1000000 = true ∧ btw now 0 1000000 = true
  · rw [if_pos hb] at h ⊢
    have b1 := btw_true.1 hb.1
    have b2 := btw_true.1 hb.2
    rcases ch_spec es able hit (now - cap) es.length with ⟨h1, _⟩ | ⟨i, R, h1, h2, h3, h4, h5, h6⟩
    · rw [h1] at h; simp at h
    · have he : es[i]? = some (es[i]'h2) := List.getElem?_eq_getElem h2
      generalize es[i]'h2 = e at he
      have ha : ableAt able i = true := by
        cases hq : ableAt able i with
        | true => rfl
        | false => rw [rank_no hq] at h4; omega
      refine ⟨i, e, by rw [h1], he, ha, by omega, by omega, by omega, by omega, fun k f hf hk => ?_⟩
      have hkl : k < es.length := (List.getElem?_eq_some_iff.1 hf).1
      have hR := h5 k hkl
      refine ⟨fun hl => ?_, fun hnl hh => ?_⟩
      · have r3 := rank_late (hit := hit) hf hk hl
        by_cases hle : e.tm ≤ now - cap
        · refine ⟨hle, ?_⟩
          by_cases hki : i ≤ k
          · exact hki
          · have := h6 k (by omega)
            have := rank_le es able hit (now - cap) i
            omega
        · cases hq : ableAt hit i with
          | true => rw [rank_hit he ha hle hq] at h4; omega
          | false => rw [rank_miss he ha hle hq] at h4; omega
      · cases hq : ableAt hit i with
        | true => rfl
        | false =>
          rw [rank_miss he ha hnl hq] at h4
          by_cases hl : f.tm ≤ now - cap
          · have := rank_late (hit := hit) hf hk hl; omega
          · have := rank_hit hf hk hl hh; omega
  · rw [if_neg hb] at h; omega
end Go.Proofs.Ytahfbhfmhccgoaa
