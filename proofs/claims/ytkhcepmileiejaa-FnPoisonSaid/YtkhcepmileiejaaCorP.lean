/- The correction of a word, and its symbols, plainly. -/
import Derived.Test.YtkhcepmileiejaaGfP
set_option linter.unusedSimpArgs false
set_option linter.unusedVariables false
namespace Go.Proofs.Ytkhcepmileiejaa
open Go.RowKit Go.ChangeShapes Go.WideShapes Go.ChangeAt Go.Joins Go.Deep
open Go.ChangeMaps (open_string shut_string)
/-- What the correction of a word gives: the word, its code, the place. -/
def corrW (w : List Nat) : List Nat × Int × Int :=
  if syn w 0 = 0 ∧ syn w 1 = 0 ∧ syn w 2 = 0 then (w, 0, -1)
  else if corrS (syn w 0) (syn w 1) (syn w 2) < 0 then (w, 2, -1)
  else (turn w (corrS (syn w 0) (syn w 1) (syn w 2)).toNat (syn w 0), 1, corrS (syn w 0) (syn w 1) (syn w 2))
theorem findU_bd (p : Nat → Bool) : ∀ (f i : Nat), (findU p f i = -1 ∧ ∀ k, i ≤ k → k < i + f → p k = false) ∨ ∃ k : Nat, findU p f i = k ∧ i ≤ k ∧ k < i + f ∧ p k = true
  | 0, i => .inl ⟨rfl, fun k h1 h2 => by omega⟩
  | f + 1, i => by
    by_cases h : p i = true
    · exact .inr ⟨i, by simp [findU, h], by omega, by omega, h⟩
    · have e : findU p (f + 1) i = findU p f (i + 1) := by simp only [findU]; rw [if_neg h]
      rcases findU_bd p f (i + 1) with ⟨h1, h2⟩ | ⟨k, h1, h2, h3, h4⟩
      · refine .inl ⟨by rw [e, h1], fun k hk1 hk2 => ?_⟩
        by_cases hki : k = i
        · subst hki; simpa using h
        · exact h2 k (by omega) (by omega)
      · exact .inr ⟨k, by rw [e, h1], by omega, by omega, h4⟩
theorem corrS_bd (a b c : Nat) : corrS a b c = -1 ∨ ∃ k : Nat, corrS a b c = k ∧ k < 11 := by
  unfold corrS
  rcases findU_bd _ 11 0 with ⟨h, _⟩ | ⟨k, h1, _, h3, _⟩
  · exact .inl h
  · exact .inr ⟨k, h1, by omega⟩
theorem corrW_clean {w : List Nat} (h : syn w 0 = 0 ∧ syn w 1 = 0 ∧ syn w 2 = 0) : corrW w = (w, 0, -1) := if_pos h
theorem corrW_lost {w : List Nat} (h : ¬ (syn w 0 = 0 ∧ syn w 1 = 0 ∧ syn w 2 = 0)) (h1 : corrS (syn w 0) (syn w 1) (syn w 2) < 0) : corrW w = (w, 2, -1) := by
  unfold corrW; rw [if_neg h, if_pos h1]
theorem corrW_fixed {w : List Nat} {k : Nat} (h : ¬ (syn w 0 = 0 ∧ syn w 1 = 0 ∧ syn w 2 = 0)) (h1 : corrS (syn w 0) (syn w 1) (syn w 2) = k) : corrW w = (turn w k (syn w 0), 1, (k : Int)) := by
  unfold corrW; rw [if_neg h, h1, if_neg (by omega), Int.toNat_natCast]
theorem turn_zero (w : List Nat) (k : Nat) : turn w k 0 = w := by
  unfold turn
  rw [Nat.xor_zero]
  apply List.ext_getElem?
  intro i
  by_cases h : k = i
  · subst h
    by_cases hk : k < w.length
    · rw [List.getElem?_set_self hk, List.getD_eq_getElem?_getD, List.getElem?_eq_getElem hk]; rfl
    · rw [List.getElem?_eq_none (by simp; omega), List.getElem?_eq_none (by omega)]
  · rw [List.getElem?_set_ne h]
theorem turn_turn (w : List Nat) (k x : Nat) (hk : k < w.length) : turn (turn w k x) k x = w := by
  have : (turn w k x).getD k 0 = w.getD k 0 ^^^ x := by rw [turn_at hk, if_pos rfl]
  unfold turn at this ⊢
  rw [this, List.set_set, Nat.xor_assoc, Nat.xor_self]
  exact turn_zero w k
theorem syn_flip {d : List Nat} (h : Sym d) (hl : d.length = 8) {k x : Nat} (hk : k < 11) (hx : x < 16) {j : Nat} (hj : j < 3) : syn (turn (encS d) k x) j = gm x (gp 2 (k * j)) := by
  have he := enc_sym h hl
  rw [syn_turn he.1 (by omega) hx, enc_syn h hl hj, Nat.zero_xor]
/-- One turned symbol is set right. -/
theorem corr_flip {d : List Nat} (h : Sym d) (hl : d.length = 8) {k x : Nat} (hk : k < 11) (hx : x < 16) :
    corrW (turn (encS d) k x) = if x = 0 then (encS d, 0, -1) else (encS d, 1, (k : Int)) := by
  have h0 := syn_flip h hl hk hx (show 0 < 3 by omega)
  have h1 := syn_flip h hl hk hx (show 1 < 3 by omega)
  have h2 := syn_flip h hl hk hx (show 2 < 3 by omega)
  rw [Nat.mul_zero, show gp 2 0 = 1 from rfl, gm_one hx] at h0
  rw [Nat.mul_one] at h1
  by_cases hz : x = 0
  · subst hz
    rw [if_pos rfl]
    rw [gm_zero (gp_lt (by omega) _)] at h1 h2
    rw [corrW_clean ⟨h0, h1, h2⟩, turn_zero]
  · rw [if_neg hz]
    have hc' : corrS (syn (turn (encS d) k x) 0) (syn (turn (encS d) k x) 1) (syn (turn (encS d) k x) 2) = k := by rw [h0, h1, h2]; exact corr_one hk hx hz
    rw [corrW_fixed (by rw [h0]; exact fun e => hz e.1) hc', h0, turn_turn _ _ _ (by rw [(enc_sym h hl).2]; exact hk)]
theorem two_all : upto 11 (fun k => upto 16 fun x => upto 16 fun y => x == 0 || y == 0 || ((corrS (x ^^^ y) (gm x (gp 2 k) ^^^ gm y (gp 2 ((k + 1) % 11))) (gm x (gp 2 (k * 2)) ^^^ gm y (gp 2 ((k + 1) % 11 * 2))) == -1) && !((x ^^^ y == 0) && ((gm x (gp 2 k) ^^^ gm y (gp 2 ((k + 1) % 11)) == 0) && (gm x (gp 2 (k * 2)) ^^^ gm y (gp 2 ((k + 1) % 11 * 2)) == 0))))) = true := by kernel_rfl
/-- Two turned neighbours are lost. -/
theorem corr_two {d : List Nat} (h : Sym d) (hl : d.length = 8) {k x y : Nat} (hk : k < 11) (hx : x < 16) (hy : y < 16) (hx0 : x ≠ 0) (hy0 : y ≠ 0) :
    corrW (turn (turn (encS d) k x) ((k + 1) % 11) y) = (turn (turn (encS d) k x) ((k + 1) % 11) y, 2, -1) := by
  have hs := enc_sym h hl
  have hf : ∀ j, j < 3 → syn (turn (turn (encS d) k x) ((k + 1) % 11) y) j = gm x (gp 2 (k * j)) ^^^ gm y (gp 2 ((k + 1) % 11 * j)) := fun j hj => by
    rw [syn_turn (turn_sym hs.1 hx) (by rw [turn_len, hs.2]; omega) hy, syn_flip h hl hk hx hj]
  have h0 := hf 0 (by omega); have h1 := hf 1 (by omega); have h2 := hf 2 (by omega)
  rw [Nat.mul_zero, Nat.mul_zero, show gp 2 0 = 1 from rfl, gm_one hx, gm_one hy] at h0
  rw [Nat.mul_one, Nat.mul_one] at h1
  have e := of_upto (of_upto (of_upto two_all hk) hx) hy
  rw [← h0, ← h1, ← h2] at e
  generalize turn (turn (encS d) k x) ((k + 1) % 11) y = w at *
  simp only [Bool.or_eq_true, Bool.and_eq_true, beq_iff_eq, Bool.not_eq_true', Bool.and_eq_false_iff, beq_eq_false_iff_ne] at e
  rcases e with (e | e) | e
  · exact absurd e hx0
  · exact absurd e hy0
  · exact corrW_lost (fun hh => by rcases e.2 with g | g | g; exact g hh.1; exact g hh.2.1; exact g hh.2.2) (by rw [e.1]; omega)
/-- A word's symbols, and the word that symbols make. -/
def symsOf (x : Nat) : List Nat := (List.range 8).map fun i => x / 16 ^ i % 16
def wordTo (d : List Nat) : Nat → Nat
  | 0 => 0
  | k + 1 => wordTo d k + d.getD k 0 * 16 ^ k
def wordOf (d : List Nat) : Nat := wordTo d d.length
theorem syms_sym (x : Nat) : Sym (symsOf x) ∧ (symsOf x).length = 8 := ⟨fun v hv => by
  obtain ⟨i, _, rfl⟩ := List.mem_map.1 hv; exact Nat.mod_lt _ (by omega), by simp [symsOf]⟩
theorem wordTo_syms (x : Nat) : ∀ k, k ≤ 8 → wordTo (symsOf x) k = x % 16 ^ k
  | 0, _ => by simp [wordTo, Nat.mod_one]
  | k + 1, hk => by
    simp only [wordTo]
    rw [wordTo_syms x k (by omega)]
    have : (symsOf x).getD k 0 = x / 16 ^ k % 16 := by
      rw [List.getD_eq_getElem?_getD]; simp [symsOf, show k < 8 by omega]
    rw [this, Nat.pow_succ, Nat.mod_mul, Nat.mul_comm (16 ^ k)]
theorem word_syms {x : Nat} (hx : x < 4294967296) : wordOf (symsOf x) = x := by
  unfold wordOf
  rw [(syms_sym x).2, wordTo_syms x 8 (Nat.le_refl _), Nat.mod_eq_of_lt (by omega)]
theorem wordTo_lt {d : List Nat} (h : Sym d) : ∀ k, wordTo d k < 16 ^ k
  | 0 => by simp [wordTo]
  | k + 1 => by
    simp only [wordTo]
    have h1 := wordTo_lt h k
    have h2 : d.getD k 0 * 16 ^ k ≤ 15 * 16 ^ k := Nat.mul_le_mul_right _ (by have := h.at k; omega)
    rw [Nat.pow_succ]; omega
end Go.Proofs.Ytkhcepmileiejaa
