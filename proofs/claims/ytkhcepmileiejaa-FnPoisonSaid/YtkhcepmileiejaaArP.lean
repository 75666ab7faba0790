/- Arrays, plainly: what writing, reading and scrubbing make of their contents. -/
import Derived.Test.YtkhcepmileiejaaCorP
import Derived.Test.YtkhcepmileiejaaGeo
import Derived.Test.YtkhcepmileiejaaCells
set_option linter.unusedSimpArgs false
set_option linter.unusedVariables false
namespace Go.Proofs.Ytkhcepmileiejaa
open Go.RowKit Go.ChangeShapes Go.WideShapes Go.ChangeAt Go.Joins Go.Deep
open Go.ChangeMaps (open_string shut_string)
def nats (zs : List Int) : List Nat := zs.map Int.toNat
def ints (ws : List Nat) : List Int := ws.map fun (x : Nat) => (x : Int)
theorem ints_len (ws : List Nat) : (ints ws).length = ws.length := by simp [ints]
theorem nats_ints (ws : List Nat) : nats (ints ws) = ws := by
  unfold nats ints
  rw [List.map_map]
  have : (Int.toNat ∘ fun (x : Nat) => (x : Int)) = id := by funext x; simp
  rw [this, List.map_id]
def symOkB (zs : List Int) (n : Int) : Bool := (zs.all fun z => btw z 0 15) && ((zs.length : Int) == n)
theorem symOk_of {zs : List Int} {n : Nat} (h : symOkB zs n = true) : ints (nats zs) = zs ∧ Sym (nats zs) ∧ (nats zs).length = n ∧ zs.length = n := by
  simp only [symOkB, Bool.and_eq_true, List.all_eq_true, btw_true, beq_iff_eq] at h
  obtain ⟨h1, h2⟩ := h
  have h3 : zs.length = n := by omega
  refine ⟨?_, ?_, by simp [nats, h3], h3⟩
  · unfold ints nats
    rw [List.map_map]
    conv => rhs; rw [← List.map_id zs]
    apply List.map_congr_left
    intro z hz
    have := h1 z hz
    simp; omega
  · intro x hx
    simp only [nats, List.mem_map] at hx
    obtain ⟨z, hz, rfl⟩ := hx
    have := h1 z hz; omega
theorem symOk_ints {ws : List Nat} {n : Nat} (h : Sym ws) (hl : ws.length = n) : symOkB (ints ws) n = true := by
  simp only [symOkB, Bool.and_eq_true, List.all_eq_true, btw_true, beq_iff_eq]
  refine ⟨fun z hz => ?_, by rw [ints_len, hl]⟩
  simp only [ints, List.mem_map] at hz
  obtain ⟨x, hx, rfl⟩ := hz
  have := h x hx; omega
/-- A word without syndromes is the code of its data. -/
theorem syn_split {d : List Nat} (h : Sym d) (hl : d.length = 8) {x y z : Nat} (hx : x < 16) (hy : y < 16) (hz : z < 16) (j : Nat) : syn ([x, y, z] ++ d) j = syn (data0 d) j ^^^ low x y z j := by
  have hd := data0_sym h
  have hl0 : (data0 d).length = 11 := by simp [data0, hl]
  have e : [x, y, z] ++ d = turn (turn (turn (data0 d) 0 x) 1 y) 2 z := by simp [turn, data0]
  rw [e, syn_turn (turn_sym (turn_sym hd hx) hy) (by simp only [turn_len]; omega) hz, syn_turn (turn_sym hd hx) (by simp only [turn_len]; omega) hy, syn_turn hd (by omega) hx]
  unfold low
  rw [Nat.xor_assoc, Nat.xor_assoc]
theorem xor_zero_eq {a b : Nat} (h : a ^^^ b = 0) : a = b := by
  have : (a ^^^ b) ^^^ b = 0 ^^^ b := by rw [h]
  rw [Nat.xor_assoc, Nat.xor_self, Nat.xor_zero, Nat.zero_xor] at this
  exact this
theorem enc_of_clean {w : List Nat} (h : Sym w) (hl : w.length = 11) (h0 : ∀ j, j < 3 → syn w j = 0) : encS (w.drop 3) = w := by
  match w, hl with
  | x :: y :: z :: d, hl =>
    have hd : d.length = 8 := by simpa using hl
    have hsd : Sym d := fun v hv => h v (by simp [hv])
    have hx := h x (by simp); have hy := h y (by simp); have hz := h z (by simp)
    have hs : ∀ j, j < 3 → syn (data0 d) j = low x y z j := fun j hj => by
      have := h0 j hj
      rw [show x :: y :: z :: d = [x, y, z] ++ d from rfl, syn_split hsd hd hx hy hz] at this
      exact xor_zero_eq this
    show encS d = _
    rw [← enc_is hsd hd]
    unfold encI
    rw [hs 0 (by omega), hs 1 (by omega), hs 2 (by omega)]
    have := of_upto (of_upto (of_upto chk_all hx) hy) hz
    simp only [Bool.and_eq_true, beq_iff_eq] at this
    rw [this.1.1, this.1.2, this.2]; rfl
theorem twice_all : upto 16 (fun a => upto 11 fun k => gm (gm a (gp 2 k)) (gp 2 k) == gm a (gp 2 (k * 2))) = true := by kernel_rfl
/-- What was set right has no syndromes left. -/
theorem fixed_clean {w : List Nat} (h : Sym w) (hl : w.length = 11) {k : Nat} (hk : corrS (syn w 0) (syn w 1) (syn w 2) = k) : k < 11 ∧ ∀ j, j < 3 → syn (turn w k (syn w 0)) j = 0 := by
  unfold corrS at hk
  rcases findU_bd _ 11 0 with ⟨h1, _⟩ | ⟨m, h1, _, h3, h4⟩
  · rw [h1] at hk; omega
  · rw [h1] at hk
    obtain rfl : m = k := by omega
    have hk11 : m < 11 := by omega
    refine ⟨hk11, fun j hj => ?_⟩
    simp only [Bool.and_eq_true, Bool.not_eq_true', beq_eq_false_iff_ne, beq_iff_eq] at h4
    obtain ⟨_, e1, e2⟩ := h4
    rw [syn_turn h (by omega) (syn_lt h 0)]
    have ht := of_upto (of_upto twice_all (syn_lt h 0)) hk11
    simp only [beq_iff_eq] at ht
    match j, hj with
    | 0, _ => rw [Nat.mul_zero, show gp 2 0 = 1 from rfl, gm_one (syn_lt h 0), Nat.xor_self]
    | 1, _ => rw [Nat.mul_one, e1, Nat.xor_self]
    | 2, _ => rw [← ht, e1, e2, Nat.xor_self]
theorem symsTo (d : List Nat) (h : Sym d) : ∀ k i, i < k → wordTo d k / 16 ^ i % 16 = d.getD i 0
  | 0, i, hi => by omega
  | k + 1, i, hi => by
    simp only [wordTo]
    by_cases hik : i = k
    · subst hik
      rw [Nat.add_mul_div_right _ _ (Nat.pow_pos (by omega)), Nat.div_eq_of_lt (wordTo_lt h i), Nat.zero_add, Nat.mod_eq_of_lt (h.at i)]
    · have := symsTo d h k i (by omega)
      rw [← this]
      have e : d.getD k 0 * 16 ^ k = (d.getD k 0 * 16 ^ (k - i - 1) * 16) * 16 ^ i := by
        rw [Nat.mul_assoc, Nat.mul_assoc]
        congr 1
        rw [Nat.mul_comm 16, ← Nat.mul_assoc, ← Nat.pow_add, ← Nat.pow_succ]
        congr 1; omega
      rw [e, Nat.add_mul_div_right _ _ (Nat.pow_pos (by omega)), Nat.add_mul_mod_self_right]
theorem syms_word {d : List Nat} (h : Sym d) (hl : d.length = 8) : symsOf (wordOf d) = d := by
  apply List.ext_getElem?
  intro i
  by_cases hi : i < 8
  · have := symsTo d h 8 i hi
    simp only [symsOf, wordOf, hl, List.getElem?_map, List.getElem?_range hi, Option.map_some]
    rw [this, List.getD_eq_getElem?_getD, List.getElem?_eq_getElem (by omega)]; rfl
  · rw [List.getElem?_eq_none (by simp [symsOf]; omega), List.getElem?_eq_none (by omega)]
theorem Sym.drop {w : List Nat} (h : Sym w) (k : Nat) : Sym (w.drop k) := fun x hx => h x (List.mem_of_mem_drop hx)
/-- What the encoder makes of the word that was read is the word set right. -/
theorem enc_back {w : List Nat} (h : Sym w) (hl : w.length = 11) (h0 : ∀ j, j < 3 → syn w j = 0) : encS (symsOf (wordOf (w.drop 3))) = w := by
  rw [syms_word (h.drop 3) (by simp [hl]), enc_of_clean h hl h0]
theorem wordOf_lt {d : List Nat} (h : Sym d) (hl : d.length = 8) : wordOf d < 4294967296 := by
  have := wordTo_lt h 8
  unfold wordOf; rw [hl]; simpa using this

/-- Whether an array is valid for a geometry. -/
def ageOk (z : Int) : Bool := btw z 0 100000
def arOk (g : Ge) (C : Con) : Bool := (geoOk g && (((C.cs.length : Int) == lineCnt g) && (((C.ag.length : Int) == bankCnt g * g.rw) && ((C.ht.length : Int) == bankCnt g * g.rw)))) && (C.cs.all (fun c => symOkB c.1 11) && (C.ag.all ageOk && C.ht.all ageOk))
theorem arOk_of {g : Ge} {C : Con} (h : arOk g C = true) : geoOk g = true ∧ (C.cs.length : Int) = lineCnt g ∧ (C.ag.length : Int) = bankCnt g * g.rw ∧ (C.ht.length : Int) = bankCnt g * g.rw ∧ (∀ c ∈ C.cs, symOkB c.1 11 = true) ∧ (∀ z ∈ C.ag, ageOk z = true) ∧ ∀ z ∈ C.ht, ageOk z = true := by
  simp only [arOk, Bool.and_eq_true, beq_iff_eq, List.all_eq_true] at h
  exact ⟨h.1.1, h.1.2.1, h.1.2.2.1, h.1.2.2.2, h.2.1, h.2.2.1, h.2.2.2⟩
structure Ad where
  b : Int
  r : Int
  c : Int
def adOk (g : Ge) (x : Ad) : Bool := btw x.b 0 (bankCnt g - 1) && (btw x.r 0 (g.rw - 1) && btw x.c 0 (g.cl - 1))
def adIdx (g : Ge) (x : Ad) : Int := (x.b * g.rw + x.r) * g.cl + x.c
theorem mul_lt_of {a m n : Int} (h0 : 0 ≤ a) (h1 : a ≤ m - 1) (hn : 0 < n) : 0 ≤ a * n ∧ a * n + n ≤ m * n := by
  have h2 : (a + 1) * n ≤ m * n := Int.mul_le_mul_of_nonneg_right (by omega) (by omega)
  rw [Int.add_mul, Int.one_mul] at h2
  exact ⟨Int.mul_nonneg h0 (by omega), h2⟩
theorem adOk_geo {g : Ge} {x : Ad} (h : adOk g x = true) : geoOk g = true := by
  cases hg : geoOk g
  · simp only [adOk, bankCnt, hg, Bool.and_eq_true, btw_true] at h
    simp at h; omega
  · rfl
theorem adIdx_bd {g : Ge} {x : Ad} (h : adOk g x = true) : 0 ≤ adIdx g x ∧ adIdx g x < lineCnt g := by
  have hg := adOk_geo h
  obtain ⟨_, _, _, _, h5, _, h7, _⟩ := geoOk_bd hg
  simp only [adOk, bankCnt, hg, Bool.and_eq_true, btw_true, if_true] at h
  obtain ⟨⟨b0, b1⟩, ⟨r0, r1⟩, c0, c1⟩ := h
  obtain ⟨k1, k2⟩ := mul_lt_of b0 b1 (n := g.rw) (by omega)
  obtain ⟨k3, k4⟩ := mul_lt_of (a := x.b * g.rw + x.r) (m := g.gr * g.bk * g.rw) (n := g.cl) (by omega) (by omega) (by omega)
  unfold adIdx lineCnt
  rw [hg, if_pos rfl]
  omega
/-- Reading one cell: the cell behind it, the word, the code. -/
def getC (c : List Int × Bool) : (List Int × Bool) × Int × Int :=
  if c.2 = true then (c, 0, 2)
  else if (corrW (nats c.1)).2.1 = 2 then ((c.1, true), 0, 2)
  else ((ints (corrW (nats c.1)).1, false), ((wordOf ((corrW (nats c.1)).1.drop 3) : Nat) : Int), (corrW (nats c.1)).2.1)
def putC (x : Nat) : List Int × Bool := (ints (encS (symsOf x)), false)
theorem getC_poison {c : List Int × Bool} (h : c.2 = true) : getC c = (c, 0, 2) := if_pos h
theorem getC_lost {c : List Int × Bool} (h : c.2 = false) (h1 : (corrW (nats c.1)).2.1 = 2) : getC c = ((c.1, true), 0, 2) := by
  unfold getC; rw [if_neg (by rw [h]; simp), if_pos h1]
theorem getC_read {c : List Int × Bool} (h : c.2 = false) (h1 : (corrW (nats c.1)).2.1 ≠ 2) : getC c = ((ints (corrW (nats c.1)).1, false), ((wordOf ((corrW (nats c.1)).1.drop 3) : Nat) : Int), (corrW (nats c.1)).2.1) := by
  unfold getC; rw [if_neg (by rw [h]; simp), if_neg h1]
end Go.Proofs.Ytkhcepmileiejaa
