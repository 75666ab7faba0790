/- Plain facts on windows: the widest window passes, no window is wider; the margin of a delay is half the widest window around it. -/
import Derived.Test.YtahfbhfmhccgoaaDrift
set_option linter.unusedSimpArgs false
set_option linter.unusedVariables false
namespace Go.Proofs.Ytahfbhfmhccgoaa
open Go.RowKit Go.ChangeShapes Go.WideShapes Go.ChangeAt Go.Joins Go.Deep
open Go.ChangeMaps (open_string shut_string)

/-- All delays from s to s + m pass. -/
def allOn (xs : List Bool) (s m : Nat) : Prop := ∀ i, i < m → xs[s + i]? = some true
theorem allOn_zero (xs : List Bool) (s : Nat) : allOn xs s 0 := fun i h => by omega
theorem allOn_sub {xs : List Bool} {s m s' m' : Nat} (h : allOn xs s m) (h1 : s ≤ s') (h2 : s' + m' ≤ s + m) : allOn xs s' m' := fun i hi => by
  have := h (s' - s + i) (by omega)
  rwa [show s + (s' - s + i) = s' + i by omega] at this
theorem wwRun_inv (xs : List Bool) : ∀ k, k ≤ xs.length →
    ∃ f l r : Nat, wwRun xs k = ((f : Int), (l : Int), (r : Int)) ∧ f + l ≤ k ∧ r ≤ k ∧ r ≤ l ∧ allOn xs f l ∧ allOn xs (k - r) r ∧
      (∀ s m, s + m ≤ k → allOn xs s m → m ≤ l) ∧ (∀ s m, s + m = k → allOn xs s m → m ≤ r) := by
  intro k
  induction k with
  | zero => exact fun _ => ⟨0, 0, 0, rfl, by omega, by omega, by omega, allOn_zero _ _, allOn_zero _ _, fun s m h _ => by omega, fun s m h _ => by omega⟩
  | succ k ih =>
    intro hk
    obtain ⟨f, l, r, e, h1, h2, h3, h4, h5, h6, h7⟩ := ih (by omega)
    obtain ⟨z, hz⟩ : ∃ z, xs[k]? = some z := ⟨_, List.getElem?_eq_getElem (by omega)⟩
    rw [wwRun_snoc hz, e]
    unfold wwStep
    simp only
    cases z
    · refine ⟨f, l, 0, by simp, by omega, by omega, by omega, h4, allOn_zero _ _, fun s m hs ha => ?_, fun s m hs ha => ?_⟩
      · by_cases hsk : s + m ≤ k
        · exact h6 s m hsk ha
        · rcases Nat.eq_zero_or_pos m with h0 | h0
          · omega
          · have := ha (m - 1) (by omega)
            rw [show s + (m - 1) = k by omega, hz] at this
            cases this
      · rcases Nat.eq_zero_or_pos m with h0 | h0
        · omega
        · have := ha (m - 1) (by omega)
          rw [show s + (m - 1) = k by omega, hz] at this
          cases this
    · have hr : allOn xs (k + 1 - (r + 1)) (r + 1) := fun i hi => by
        by_cases hir : i < r
        · have := h5 i hir
          rwa [show k + 1 - (r + 1) + i = k - r + i by omega]
        · rw [show k + 1 - (r + 1) + i = k by omega]; exact hz
      have hlast : ∀ s m, s + m = k + 1 → allOn xs s m → m ≤ r + 1 := fun s m hs ha => by
        rcases Nat.eq_zero_or_pos m with h0 | h0
        · omega
        · have := h7 s (m - 1) (by omega) (allOn_sub ha (Nat.le_refl _) (by omega))
          omega
      by_cases hlr : l < r + 1
      · refine ⟨k + 1 - (r + 1), r + 1, r + 1, ?_, by omega, by omega, by omega, hr, hr, fun s m hs ha => ?_, hlast⟩
        · rw [if_pos rfl, if_pos (by omega)]
          refine Prod.ext (by simp only; omega) (Prod.ext (by simp) (by simp))
        · by_cases hsk : s + m ≤ k
          · have := h6 s m hsk ha; omega
          · exact hlast s m (by omega) ha
      · refine ⟨f, l, r + 1, ?_, by omega, by omega, by omega, h4, hr, fun s m hs ha => ?_, hlast⟩
        · rw [if_pos rfl, if_neg (by omega)]
          simp
        · by_cases hsk : s + m ≤ k
          · exact h6 s m hsk ha
          · have := hlast s m (by omega) ha; omega

/-- The widest window: it lies within the list, passes, and no window is wider. -/
theorem ww_inv (xs : List Bool) (h : xs.length ≤ 64) : ∃ f l : Nat, ww xs = ((f : Int), (l : Int)) ∧ f + l ≤ xs.length ∧ allOn xs f l ∧ ∀ s m, s + m ≤ xs.length → allOn xs s m → m ≤ l := by
  obtain ⟨f, l, r, e, h1, h2, h3, h4, h5, h6, h7⟩ := wwRun_inv xs xs.length (Nat.le_refl _)
  exact ⟨f, l, by rw [ww_yes rfl h, e], h1, h4, h6⟩

theorem mgOk_iff {xs : List Bool} {d m : Nat} (hd : allOn xs (d - m) (2 * m + 1)) (hm : m ≤ d) : mgOk xs d m = true ↔ m < d ∧ allOn xs (d - (m + 1)) (2 * (m + 1) + 1) := by
  constructor
  · intro h
    unfold mgOk at h
    simp only [Bool.and_eq_true, decide_eq_true_eq] at h
    obtain ⟨h1, h2, h3, h4⟩ := h
    refine ⟨h1, fun i hi => ?_⟩
    by_cases h0 : i = 0
    · subst h0
      unfold getB at h3
      rw [show d - (m + 1) + 0 = d - m - 1 by omega]
      cases hq : xs[d - m - 1]? with
      | none => rw [hq] at h3; cases h3
      | some z => rw [hq] at h3; simp at h3; rw [h3]
    · by_cases h9 : i = 2 * (m + 1)
      · subst h9
        unfold getB at h4
        rw [show d - (m + 1) + 2 * (m + 1) = d + m + 1 by omega]
        cases hq : xs[d + m + 1]? with
        | none => rw [hq] at h4; cases h4
        | some z => rw [hq] at h4; simp at h4; rw [h4]
      · have := hd (i - 1) (by omega)
        rwa [show d - m + (i - 1) = d - (m + 1) + i by omega] at this
  · rintro ⟨h1, h2⟩
    have ha := h2 0 (by omega)
    have hb := h2 (2 * (m + 1)) (by omega)
    rw [show d - (m + 1) + 0 = d - m - 1 by omega] at ha
    rw [show d - (m + 1) + 2 * (m + 1) = d + m + 1 by omega] at hb
    have hl := (List.getElem?_eq_some_iff.1 hb).1
    unfold mgOk
    rw [getB_at ha, getB_at hb, decide_eq_true h1, decide_eq_true hl]; rfl

/-- The margin: the window of that width around the delay passes, and no wider one around it does. -/
theorem mgFrom_inv (xs : List Bool) (d : Nat) : ∀ f m, m ≤ d → allOn xs (d - m) (2 * m + 1) → xs.length < d + m + 1 + f → ∃ M, mgFrom xs d f m = M ∧ m ≤ M ∧ M ≤ d ∧ allOn xs (d - M) (2 * M + 1) ∧ ∀ M', M < M' → M' ≤ d → ¬ allOn xs (d - M') (2 * M' + 1) := by
  intro f
  induction f with
  | zero =>
    intro m hm ha hf
    refine ⟨m, rfl, Nat.le_refl _, hm, ha, fun M' h1 h2 h3 => ?_⟩
    have := h3 (2 * M') (by omega)
    have := (List.getElem?_eq_some_iff.1 this).1
    omega
  | succ f ih =>
    intro m hm ha hf
    by_cases hk : mgOk xs d m = true
    · obtain ⟨h1, h2⟩ := (mgOk_iff ha hm).1 hk
      obtain ⟨M, e, h3, h4, h5, h6⟩ := ih (m + 1) (by omega) h2 (by omega)
      refine ⟨M, ?_, by omega, h4, h5, h6⟩
      rw [mgFrom_yes hk (by omega)]; exact e
    · refine ⟨m, mgFrom_no (by simpa using hk), Nat.le_refl _, hm, ha, fun M' h1 h2 h3 => hk ((mgOk_iff ha hm).2 ⟨by omega, allOn_sub h3 (by omega) (by omega)⟩)⟩

theorem margin_inv {xs : List Bool} {d : Nat} (h : xs.length ≤ 64) (hd : xs[d]? = some true) : ∃ M : Nat, margin xs d = M ∧ M ≤ d ∧ allOn xs (d - M) (2 * M + 1) ∧ ∀ M', M < M' → M' ≤ d → ¬ allOn xs (d - M') (2 * M' + 1) := by
  have hdl := (List.getElem?_eq_some_iff.1 hd).1
  obtain ⟨M, e, h1, h2, h3, h4⟩ := mgFrom_inv xs d 64 0 (by omega) (fun i hi => by rw [show d - 0 + i = d by omega]; exact hd) (by omega)
  refine ⟨M, ?_, h2, h3, h4⟩
  unfold margin
  rw [if_pos ⟨h, btw_mk (by omega) (by omega), by rw [Int.toNat_natCast]; exact getB_at hd⟩, Int.toNat_natCast, e]
theorem margin_le {xs : List Bool} {dl : Int} (h : xs.length ≤ 64) {f l : Nat} (hw : ∀ s m, s + m ≤ xs.length → allOn xs s m → m ≤ l) (hl : 0 < l) : margin xs dl ≤ ((l : Int) - 1) / 2 := by
  by_cases hc : btw dl 0 ((xs.length : Int) - 1) = true ∧ getB xs dl.toNat = true
  · obtain ⟨h1, h2⟩ := hc
    have h3 := btw_true.1 h1
    obtain ⟨d, rfl⟩ := Int.eq_ofNat_of_zero_le h3.1
    rw [Int.toNat_natCast] at h2
    have hd : xs[d]? = some true := by
      unfold getB at h2
      cases hq : xs[d]? with
      | none => rw [hq] at h2; cases h2
      | some z => rw [hq] at h2; simp at h2; rw [h2]
    obtain ⟨M, e, h4, h5, _⟩ := margin_inv h hd
    rw [e]
    have h6 := h5 (2 * M) (by omega)
    have h7 := (List.getElem?_eq_some_iff.1 h6).1
    have := hw (d - M) (2 * M + 1) (by omega) h5
    omega
  · unfold margin
    rw [if_neg (fun hh => hc hh.2)]
    omega
/-- At the middle of the widest window the margin is half its width. -/
theorem margin_best {xs : List Bool} (h : xs.length ≤ 64) {f l : Nat} (ha : allOn xs f l) (hw : ∀ s m, s + m ≤ xs.length → allOn xs s m → m ≤ l) (hl : 0 < l) : margin xs ((f : Int) + ((l : Int) - 1) / 2) = ((l : Int) - 1) / 2 := by
  obtain ⟨q, hq⟩ : ∃ q : Nat, ((l : Int) - 1) / 2 = (q : Int) := ⟨(l - 1) / 2, by omega⟩
  have hq1 : 2 * q + 1 ≤ l := by omega
  have hq2 : l ≤ 2 * q + 2 := by omega
  rw [hq, show (f : Int) + (q : Int) = ((f + q : Nat) : Int) by omega]
  have hd : xs[f + q]? = some true := ha q (by omega)
  obtain ⟨M, e, h1, h2, h3⟩ := margin_inv h hd
  rw [e]
  have h4 := (List.getElem?_eq_some_iff.1 (h2 (2 * M) (by omega))).1
  have h5 := hw (f + q - M) (2 * M + 1) (by omega) h2
  have h6 : q ≤ M := by
    rcases Nat.lt_or_ge M q with h7 | h7
    · exact absurd (allOn_sub ha (show f ≤ f + q - q by omega) (show f + q - q + (2 * q + 1) ≤ f + l by omega)) (h3 q h7 (by omega))
    · exact h7
  omega
end Go.Proofs.Ytahfbhfmhccgoaa
