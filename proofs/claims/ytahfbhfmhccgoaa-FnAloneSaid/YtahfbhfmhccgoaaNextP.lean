/- The next slot of a tenant, plainly. -/
import Derived.Test.YtahfbhfmhccgoaaSlots2
set_option linter.unusedSimpArgs false
set_option linter.unusedVariables false
namespace Go.Proofs.Ytahfbhfmhccgoaa
open Go.RowKit Go.ChangeShapes Go.WideShapes Go.ChangeAt Go.Joins Go.Deep
open Go.ChangeMaps (open_string shut_string)
theorem nsFrom_spec (zs : List Int) (l tn : Int) : ∀ (f : Nat) (b : Int), (nsFrom zs l tn f b = -1 ∧ ∀ i : Nat, i < f → ownerAt zs l (b + i * l) ≠ tn) ∨ (∃ i : Nat, i < f ∧ nsFrom zs l tn f b = b + i * l ∧ ownerAt zs l (b + i * l) = tn ∧ ∀ i' : Nat, i' < i → ownerAt zs l (b + i' * l) ≠ tn)
  | 0, b => .inl ⟨rfl, fun i hi => by omega⟩
  | f + 1, b => by
    by_cases h : (ownerAt zs l b == tn) = true
    · refine .inr ⟨0, by omega, ?_, ?_, fun i hi => by omega⟩
      · simp only [nsFrom]; rw [if_pos h]; simp
      · simpa using h
    · have e : nsFrom zs l tn (f + 1) b = nsFrom zs l tn f (b + l) := by simp only [nsFrom]; rw [if_neg h]
      have hs : ∀ i : Nat, b + ((i + 1 : Nat) : Int) * l = b + l + i * l := fun i => by rw [show ((i + 1 : Nat) : Int) = (i : Int) + 1 by omega, Int.add_mul, Int.one_mul]; omega
      have h0 : ownerAt zs l (b + ((0 : Nat) : Int) * l) ≠ tn := by simpa using h
      rcases nsFrom_spec zs l tn f (b + l) with ⟨h1, h2⟩ | ⟨i, hi, h1, h2, h3⟩
      · refine .inl ⟨by rw [e, h1], fun i hi => ?_⟩
        cases i with
        | zero => exact h0
        | succ i => rw [hs]; exact h2 i (by omega)
      · refine .inr ⟨i + 1, by omega, by rw [e, h1, hs], by rw [hs]; exact h2, fun i' hi' => ?_⟩
        cases i' with
        | zero => exact h0
        | succ i' => rw [hs]; exact h3 i' (by omega)
theorem owner_in {zs : List Int} {l t : Int} (hok : slotsOkB zs l = true) (ht : 0 ≤ t) : ∃ i : Nat, i < zs.length ∧ (i : Int) = t / l % zs.length ∧ zs[i]? = some (ownerAt zs l t) := by
  obtain ⟨_, h1, h2, h3, h4⟩ := slotsOkB_bd hok
  have hi0 : 0 ≤ t / l % (zs.length : Int) := Int.emod_nonneg _ (by omega)
  have hi1 : t / l % (zs.length : Int) < (zs.length : Int) := Int.emod_lt_of_pos _ (by omega)
  obtain ⟨i, hi⟩ := Int.eq_ofNat_of_zero_le hi0
  have hlt : i < zs.length := by rw [hi] at hi1; omega
  refine ⟨i, hlt, hi.symm, ?_⟩
  unfold ownerAt
  rw [if_pos ⟨hok, ht⟩, hi, Int.toNat_natCast, List.getElem?_eq_getElem hlt]; rfl
theorem owner_bd {zs : List Int} {l t : Int} (hok : slotsOkB zs l = true) (ht : 0 ≤ t) : 0 ≤ ownerAt zs l t ∧ ownerAt zs l t ≤ 3 := by
  obtain ⟨i, h1, h2, h3⟩ := owner_in hok ht
  exact (slotsOkB_bd hok).1 _ (List.mem_of_getElem? h3)
theorem div_at {l q : Int} (hl : 0 < l) : q * l / l = q := Int.mul_ediv_cancel _ (by omega)
/-- Where no slot is found, the tenant owns none. -/
theorem next_none {zs : List Int} {l tn t : Int} (hok : slotsOkB zs l = true) (ht : 0 ≤ t) (ht2 : t ≤ 1000000) (h : nextSlot zs l tn t < 0) : ∀ x : Int, 0 ≤ x → 0 ≤ ownerAt zs l x ∧ ownerAt zs l x ≠ tn := by
  obtain ⟨_, h1, h2, h3, h4⟩ := slotsOkB_bd hok
  have hq0 : 0 ≤ (t + l - 1) / l := Int.ediv_nonneg (by omega) (by omega)
  have e : nextSlot zs l tn t = nsFrom zs l tn zs.length ((t + l - 1) / l * l) := by unfold nextSlot; rw [if_pos ⟨hok, btw_true.2 ⟨ht, ht2⟩⟩]
  generalize (t + l - 1) / l = q at *
  have hq1 : 0 ≤ q * l := Int.mul_nonneg hq0 (by omega)
  rw [e] at h
  intro x hx
  refine ⟨(owner_bd hok hx).1, fun he => ?_⟩
  rcases nsFrom_spec zs l tn zs.length (q * l) with ⟨_, g2⟩ | ⟨i, hi, g1, _⟩
  · obtain ⟨i, j1, j2, j3⟩ := owner_in hok hx
    rw [he] at j3
    have hm0 : 0 ≤ ((i : Int) - q) % (zs.length : Int) := Int.emod_nonneg _ (by omega)
    have hm1 : ((i : Int) - q) % (zs.length : Int) < (zs.length : Int) := Int.emod_lt_of_pos _ (by omega)
    obtain ⟨m, hm⟩ := Int.eq_ofNat_of_zero_le hm0
    rw [hm] at hm1
    refine g2 m (by omega) ?_
    have hy : 0 ≤ q * l + (m : Int) * l := Int.add_nonneg hq1 (Int.mul_nonneg (by omega) (by omega))
    obtain ⟨i', k1, k2, k3⟩ := owner_in hok hy
    rw [← Int.add_mul, div_at (by omega), ← hm, Int.add_emod_emod, show q + ((i : Int) - q) = i by omega, Int.emod_eq_of_lt (by omega) (by omega)] at k2
    obtain rfl : i' = i := by omega
    rw [j3] at k3; injection k3 with k3; exact k3.symm
  · rw [g1] at h
    have : 0 ≤ (i : Int) * l := Int.mul_nonneg (by omega) (by omega)
    omega
/-- A slot that is found is the first one of the tenant from t on. -/
theorem next_some {zs : List Int} {l tn t : Int} (hok : slotsOkB zs l = true) (ht : 0 ≤ t) (ht2 : t ≤ 500) (h : 0 ≤ nextSlot zs l tn t) :
    ∃ p : Int, nextSlot zs l tn t = p * l ∧ t ≤ p * l ∧ p * l ≤ 100000 ∧ ownerAt zs l (p * l) = tn ∧ (∀ x : Int, x < p → t ≤ x * l → ownerAt zs l (x * l) ≠ tn) ∧ nextSlot zs l tn (p * l) = p * l := by
  obtain ⟨_, h1, h2, h3, h4⟩ := slotsOkB_bd hok
  have hq0 : 0 ≤ (t + l - 1) / l := Int.ediv_nonneg (by omega) (by omega)
  have e : nextSlot zs l tn t = nsFrom zs l tn zs.length ((t + l - 1) / l * l) := by unfold nextSlot; rw [if_pos ⟨hok, btw_true.2 ⟨ht, by omega⟩⟩]
  have b1 : (t + l - 1) / l * l ≤ t + l - 1 := Int.ediv_mul_le _ (by omega)
  have b2 : t + l - 1 < ((t + l - 1) / l + 1) * l := Int.lt_ediv_add_one_mul_self _ (by omega)
  generalize (t + l - 1) / l = q at *
  rw [e] at h ⊢
  rw [Int.add_mul, Int.one_mul] at b2
  rcases nsFrom_spec zs l tn zs.length (q * l) with ⟨g1, _⟩ | ⟨i, hi, g1, g2, g3⟩
  · omega
  · have hil : 0 ≤ (i : Int) * l := Int.mul_nonneg (by omega) (by omega)
    have hil2 : (i : Int) * l ≤ 16 * 1000 := Int.mul_le_mul (by omega) h4 (by omega) (by omega)
    rw [← Int.add_mul] at g1 g2
    have hb : (q + i) * l = q * l + i * l := Int.add_mul _ _ _
    refine ⟨q + i, g1, by omega, by omega, g2, fun x hx hxt => ?_, ?_⟩
    · have hxq : q - 1 < x := by
        have : (q - 1) * l < x * l := by rw [Int.sub_mul, Int.one_mul]; omega
        exact Int.lt_of_mul_lt_mul_right this (by omega)
      obtain ⟨j, hj⟩ := Int.eq_ofNat_of_zero_le (show 0 ≤ x - q by omega)
      have := g3 j (by omega)
      rw [← Int.add_mul, ← hj, show q + (x - q) = x by omega] at this
      exact this
    · have e2 : ((q + i) * l + l - 1) / l = q + i := by
        rw [show (q + i) * l + l - 1 = (l - 1) + (q + i) * l by omega, Int.add_mul_ediv_right _ _ (by omega), Int.ediv_eq_zero_of_lt (by omega) (by omega)]; omega
      unfold nextSlot
      rw [if_pos ⟨hok, btw_true.2 ⟨by omega, by omega⟩⟩, e2, nsFrom_yes (by omega) (by simp [g2])]
end Go.Proofs.Ytahfbhfmhccgoaa
