/- The field of sixteen elements and the code over it, plainly. -/
import Derived.Test.YtkhcepmileiejaaCommon
set_option linter.unusedSimpArgs false
set_option linter.unusedVariables false
namespace Go.Proofs.Ytkhcepmileiejaa
open Go.RowKit Go.ChangeShapes Go.WideShapes Go.ChangeAt Go.Joins Go.Deep
open Go.ChangeMaps (open_string shut_string)
def mulK (a b : Nat) : Nat → Nat × Nat
  | 0 => (0, a)
  | k + 1 => (if b / 2 ^ k % 2 = 1 then (mulK a b k).1 ^^^ (mulK a b k).2 else (mulK a b k).1, if 2 * (mulK a b k).2 > 15 then (2 * (mulK a b k).2) ^^^ 19 else 2 * (mulK a b k).2)
def gm (a b : Nat) : Nat := (mulK a b 4).1
def gp (a : Nat) : Nat → Nat
  | 0 => 1
  | n + 1 => gm (gp a n) a
def upto (n : Nat) (p : Nat → Bool) : Bool := (List.range n).all p
theorem of_upto {n : Nat} {p : Nat → Bool} (h : upto n p = true) {k : Nat} (hk : k < n) : p k = true := List.all_eq_true.1 h k (List.mem_range.2 hk)
theorem gm_lt_all : upto 16 (fun a => upto 16 fun b => decide (gm a b < 16)) = true := by kernel_rfl
theorem gm_lt {a b : Nat} (ha : a < 16) (hb : b < 16) : gm a b < 16 := by simpa using of_upto (of_upto gm_lt_all ha) hb
theorem xor_lt_all : upto 16 (fun a => upto 16 fun b => decide (a ^^^ b < 16)) = true := by kernel_rfl
theorem xor_lt {a b : Nat} (ha : a < 16) (hb : b < 16) : a ^^^ b < 16 := by simpa using of_upto (of_upto xor_lt_all ha) hb
theorem gm_xor_all : upto 16 (fun a => upto 16 fun b => upto 16 fun c => gm (a ^^^ b) c == gm a c ^^^ gm b c) = true := by kernel_rfl
theorem gm_xor {a b c : Nat} (ha : a < 16) (hb : b < 16) (hc : c < 16) : gm (a ^^^ b) c = gm a c ^^^ gm b c := by simpa using of_upto (of_upto (of_upto gm_xor_all ha) hb) hc
theorem gm_assoc_all : upto 16 (fun a => upto 16 fun b => upto 16 fun c => gm (gm a b) c == gm a (gm b c)) = true := by kernel_rfl
theorem gm_zero_all : upto 16 (fun a => (gm 0 a == 0) && (gm a 0 == 0) && (gm a 1 == a) && (gm 1 a == a)) = true := by kernel_rfl
theorem gm_zero {a : Nat} (ha : a < 16) : gm 0 a = 0 := by have := of_upto gm_zero_all ha; simp at this; omega
theorem gm_one {a : Nat} (ha : a < 16) : gm a 1 = a := by have := of_upto gm_zero_all ha; simp at this; omega
theorem gp_lt {a : Nat} (ha : a < 16) : ∀ n, gp a n < 16
  | 0 => by show 1 < 16; omega
  | n + 1 => gm_lt (gp_lt ha n) ha
def synTo (w : List Nat) (j : Nat) : Nat → Nat
  | 0 => 0
  | k + 1 => synTo w j k ^^^ gm (w.getD k 0) (gp 2 (k * j))
def syn (w : List Nat) (j : Nat) : Nat := synTo w j w.length
def Sym (w : List Nat) : Prop := ∀ x ∈ w, x < 16
theorem Sym.at {w : List Nat} (h : Sym w) (k : Nat) : w.getD k 0 < 16 := by
  rw [List.getD_eq_getElem?_getD]
  cases e : w[k]? with
  | none => simp
  | some x => simpa using h x (List.mem_of_getElem? e)
theorem synTo_lt {w : List Nat} (h : Sym w) (j : Nat) : ∀ k, synTo w j k < 16
  | 0 => by simp [synTo]
  | k + 1 => xor_lt (synTo_lt h j k) (gm_lt (h.at k) (gp_lt (by omega) _))
theorem syn_lt {w : List Nat} (h : Sym w) (j : Nat) : syn w j < 16 := synTo_lt h j _
/-- The spec's factor f behind j steps. -/
def facT (x : Nat) : Nat → Nat
  | 0 => 1
  | j + 1 => gm (facT x j) x
theorem fac_all : upto 11 (fun i => upto 3 fun j => facT (gp 2 i) j == gp 2 (i * j)) = true := by kernel_rfl
theorem fac_is {i j : Nat} (hi : i < 11) (hj : j < 3) : facT (gp 2 i) j = gp 2 (i * j) := by simpa using of_upto (of_upto fac_all hi) hj
/-- The inverse and the logarithm, as the program looks for them. -/
def findU (p : Nat → Bool) : Nat → Nat → Int
  | 0, _ => -1
  | f + 1, i => if p i = true then (i : Int) else findU p f (i + 1)
def ginv (a : Nat) : Int := findU (fun x => gm a x == 1) 15 1
def glog (a : Nat) : Int := findU (fun n => gp 2 n == a) 15 0
/-- Where a wrong symbol stands: the program's way, and the reference's. -/
def corrI (s0 s1 s2 : Nat) : Int := if s0 ≠ 0 ∧ s1 ≠ 0 then (if glog (gm s1 (ginv s0).toNat) < 11 ∧ gm s1 (gm s1 (ginv s0).toNat) = s2 then glog (gm s1 (ginv s0).toNat) else -1) else -1
def corrS (s0 s1 s2 : Nat) : Int := findU (fun i => !(s0 == 0) && ((gm s0 (gp 2 i) == s1) && (gm s1 (gp 2 i) == s2))) 11 0
theorem corr_all : upto 16 (fun a => upto 16 fun b => upto 16 fun c => (a == 0 && b == 0 && c == 0) || (corrI a b c == corrS a b c)) = true := by kernel_rfl
theorem corr_is {a b c : Nat} (ha : a < 16) (hb : b < 16) (hc : c < 16) (h : ¬ (a = 0 ∧ b = 0 ∧ c = 0)) : corrI a b c = corrS a b c := by
  have := of_upto (of_upto (of_upto corr_all ha) hb) hc
  simp only [Bool.or_eq_true, Bool.and_eq_true, beq_iff_eq, and_assoc] at this
  exact this.resolve_left h
theorem log_all : upto 16 (fun a => upto 16 fun b => a == 0 || b == 0 || (decide (1 ≤ ginv a ∧ ginv a < 16) && decide (0 ≤ glog (gm b (ginv a).toNat) ∧ glog (gm b (ginv a).toNat) < 15))) = true := by kernel_rfl
theorem corr_one_all : upto 11 (fun k => upto 16 fun x => x == 0 || (corrS x (gm x (gp 2 k)) (gm x (gp 2 (k * 2))) == (k : Int))) = true := by kernel_rfl
/-- A single wrong symbol is found. -/
theorem corr_one {k x : Nat} (hk : k < 11) (hx : x < 16) (h0 : x ≠ 0) : corrS x (gm x (gp 2 k)) (gm x (gp 2 (k * 2))) = k := by
  have := of_upto (of_upto corr_one_all hk) hx
  simp only [Bool.or_eq_true, beq_iff_eq] at this
  exact this.resolve_left h0
/-- A symbol turned by y turns the syndromes by y's part. -/
def turn (w : List Nat) (p y : Nat) : List Nat := w.set p (w.getD p 0 ^^^ y)
theorem getD_set {w : List Nat} {p v k : Nat} (hp : p < w.length) : (w.set p v).getD k 0 = if k = p then v else w.getD k 0 := by
  rw [List.getD_eq_getElem?_getD, List.getD_eq_getElem?_getD]
  by_cases h : k = p
  · subst h; rw [if_pos rfl, List.getElem?_set_self hp]; rfl
  · rw [if_neg h, List.getElem?_set_ne (fun e => h e.symm)]
theorem turn_len (w : List Nat) (p y : Nat) : (turn w p y).length = w.length := by simp [turn]
theorem turn_sym {w : List Nat} {p y : Nat} (h : Sym w) (hy : y < 16) : Sym (turn w p y) := fun x hx => by
  rcases List.mem_or_eq_of_mem_set hx with hx | hx
  · exact h x hx
  · subst hx; exact xor_lt (h.at p) hy
theorem synTo_turn {w : List Nat} {p y : Nat} (h : Sym w) (hp : p < w.length) (hy : y < 16) (j : Nat) : ∀ k, synTo (turn w p y) j k = if p < k then synTo w j k ^^^ gm y (gp 2 (p * j)) else synTo w j k
  | 0 => by simp [synTo]
  | k + 1 => by
    simp only [synTo]
    rw [synTo_turn h hp hy j k]
    unfold turn
    rw [getD_set hp]
    by_cases h1 : k = p
    · subst h1
      rw [if_pos rfl, if_neg (by omega), if_pos (by omega), gm_xor (h.at k) hy (gp_lt (by omega) _), Nat.xor_assoc]
    · rw [if_neg h1]
      by_cases h2 : p < k
      · rw [if_pos h2, if_pos (by omega), Nat.xor_assoc, Nat.xor_assoc, Nat.xor_comm (gm y _)]
      · rw [if_neg h2, if_neg (by omega)]
theorem syn_turn {w : List Nat} {p y : Nat} (h : Sym w) (hp : p < w.length) (hy : y < 16) (j : Nat) : syn (turn w p y) j = syn w j ^^^ gm y (gp 2 (p * j)) := by
  unfold syn
  rw [turn_len, synTo_turn h hp hy, if_pos hp]
/-- One step of the division by the generator, from place i down. -/
def gen : List Nat := [8, 14, 7, 1]
def divK (r : List Nat) (i f : Nat) : Nat → List Nat
  | 0 => r
  | k + 1 => turn (divK r i f k) (i - 3 + k) (gm (gen.getD k 0) f)
def divStep (r : List Nat) (i : Nat) : List Nat := divK r i (r.getD i 0) 4
def divTo (r : List Nat) : Nat → List Nat
  | 0 => r
  | k + 1 => divStep (divTo r k) (10 - k)
theorem divK_len (r : List Nat) (i f : Nat) : ∀ k, (divK r i f k).length = r.length
  | 0 => rfl
  | k + 1 => by simp only [divK]; rw [turn_len, divK_len r i f k]
theorem gen_lt : ∀ k, gen.getD k 0 < 16 := fun k => by
  match k with
  | 0 | 1 | 2 | 3 => simp [gen]
  | k + 4 => simp [gen]
theorem divK_sym {r : List Nat} {i f : Nat} (h : Sym r) (hf : f < 16) : ∀ k, Sym (divK r i f k)
  | 0 => h
  | k + 1 => turn_sym (divK_sym h hf k) (gm_lt (gen_lt k) hf)
theorem gen_all : upto 8 (fun i => upto 16 fun f => upto 3 fun j => gm (gm 8 f) (gp 2 ((i + 0) * j)) ^^^ (gm (gm 14 f) (gp 2 ((i + 1) * j)) ^^^ (gm (gm 7 f) (gp 2 ((i + 2) * j)) ^^^ gm (gm 1 f) (gp 2 ((i + 3) * j)))) == 0) = true := by kernel_rfl
theorem divStep_syn {r : List Nat} {i j : Nat} (h : Sym r) (hl : r.length = 11) (h3 : 3 ≤ i) (hi : i < 11) (hj : j < 3) : syn (divStep r i) j = syn r j := by
  have hf := h.at i
  have hk := fun k => divK_len r i (r.getD i 0) k
  have hs := fun k => divK_sym (i := i) h hf k
  have e := of_upto (of_upto (of_upto gen_all (show i - 3 < 8 by omega)) hf) hj
  simp only [beq_iff_eq] at e
  unfold divStep
  simp only [divK]
  have g0 : gm (gen.getD 0 0) (r.getD i 0) < 16 := gm_lt (gen_lt 0) hf
  have g1 : gm (gen.getD 1 0) (r.getD i 0) < 16 := gm_lt (gen_lt 1) hf
  have g2 : gm (gen.getD 2 0) (r.getD i 0) < 16 := gm_lt (gen_lt 2) hf
  have g3 : gm (gen.getD 3 0) (r.getD i 0) < 16 := gm_lt (gen_lt 3) hf
  rw [syn_turn (turn_sym (turn_sym (turn_sym h g0) g1) g2) (by simp only [turn_len, hl]; omega) g3, syn_turn (turn_sym (turn_sym h g0) g1) (by simp only [turn_len, hl]; omega) g2, syn_turn (turn_sym h g0) (by simp only [turn_len, hl]; omega) g1, syn_turn h (by omega) g0]
  rw [Nat.xor_assoc, Nat.xor_assoc, Nat.xor_assoc]
  rw [show gen.getD 0 0 = 8 from rfl, show gen.getD 1 0 = 14 from rfl, show gen.getD 2 0 = 7 from rfl, show gen.getD 3 0 = 1 from rfl, e, Nat.xor_zero]
theorem turn_at {w : List Nat} {p y k : Nat} (hp : p < w.length) : (turn w p y).getD k 0 = if k = p then w.getD p 0 ^^^ y else w.getD k 0 := getD_set hp
theorem divStep_at {r : List Nat} {i k : Nat} (h : Sym r) (hl : r.length = 11) (h3 : 3 ≤ i) (hi : i < 11) (hk : i ≤ k) : (divStep r i).getD k 0 = if k = i then 0 else r.getD k 0 := by
  unfold divStep
  simp only [divK]
  have hf := h.at i
  rw [turn_at (by simp only [turn_len, hl]; omega)]
  by_cases e : k = i
  · subst e
    rw [if_pos (by omega), if_pos rfl, turn_at (by simp only [turn_len, hl]; omega), if_neg (by omega), turn_at (by simp only [turn_len, hl]; omega), if_neg (by omega), turn_at (by omega), if_neg (by omega), show k - 3 + 3 = k by omega]
    have : gm (gen.getD 3 0) (r.getD k 0) = r.getD k 0 := by
      have := of_upto gm_zero_all hf; simp at this; exact this.2
    rw [this, Nat.xor_self]
  · rw [if_neg (by omega), if_neg e, turn_at (by simp only [turn_len, hl]; omega), if_neg (by omega), turn_at (by simp only [turn_len, hl]; omega), if_neg (by omega), turn_at (by omega), if_neg (by omega)]
theorem divTo_inv {r : List Nat} (h : Sym r) (hl : r.length = 11) : ∀ k, k ≤ 8 → Sym (divTo r k) ∧ (divTo r k).length = 11 ∧ (∀ j, j < 3 → syn (divTo r k) j = syn r j) ∧ ∀ i, 11 - k ≤ i → i < 11 → (divTo r k).getD i 0 = 0
  | 0, _ => ⟨h, hl, fun _ _ => rfl, fun i h1 h2 => by omega⟩
  | k + 1, hk => by
    obtain ⟨h1, h2, h3, h4⟩ := divTo_inv h hl k (by omega)
    simp only [divTo]
    refine ⟨divK_sym h1 (h1.at _) 4, by unfold divStep; rw [divK_len, h2], fun j hj => by rw [divStep_syn h1 h2 (by omega) (by omega) hj, h3 j hj], fun i hi1 hi2 => ?_⟩
    rw [divStep_at h1 h2 (by omega) (by omega) (by omega)]
    split
    · rfl
    · exact h4 i (by omega) hi2
/-- What is left stands for the check symbols: as the program solves for them. -/
def chk1 (s0 s1 s2 : Nat) : Nat := gm (gm 2 (s0 ^^^ s1) ^^^ gm 5 (s0 ^^^ s2)) 13
def chk2 (s0 s1 s2 : Nat) : Nat := gm (gm 3 (s0 ^^^ s2) ^^^ gm 5 (s0 ^^^ s1)) 13
def chk0 (s0 s1 s2 : Nat) : Nat := s0 ^^^ chk1 s0 s1 s2 ^^^ chk2 s0 s1 s2
def low (x y z j : Nat) : Nat := gm x (gp 2 (0 * j)) ^^^ (gm y (gp 2 (1 * j)) ^^^ gm z (gp 2 (2 * j)))
theorem chk_all : upto 16 (fun x => upto 16 fun y => upto 16 fun z => chk0 (low x y z 0) (low x y z 1) (low x y z 2) == x && chk1 (low x y z 0) (low x y z 1) (low x y z 2) == y && chk2 (low x y z 0) (low x y z 1) (low x y z 2) == z) = true := by kernel_rfl
theorem ginv4 : ginv 4 = 13 := by kernel_rfl
def data0 (d : List Nat) : List Nat := [0, 0, 0] ++ d
def encS (d : List Nat) : List Nat := (divTo (data0 d) 8).take 3 ++ d
def encI (d : List Nat) : List Nat := [chk0 (syn (data0 d) 0) (syn (data0 d) 1) (syn (data0 d) 2), chk1 (syn (data0 d) 0) (syn (data0 d) 1) (syn (data0 d) 2), chk2 (syn (data0 d) 0) (syn (data0 d) 1) (syn (data0 d) 2)] ++ d
theorem data0_sym {d : List Nat} (h : Sym d) : Sym (data0 d) := fun x hx => by
  rcases List.mem_append.1 hx with hx | hx
  · simp at hx; omega
  · exact h x hx
theorem syn_low {x y z : Nat} {r : List Nat} (hl : r.length = 11) (h0 : r.getD 0 0 = x) (h1 : r.getD 1 0 = y) (h2 : r.getD 2 0 = z) (h : ∀ i, 3 ≤ i → i < 11 → r.getD i 0 = 0) (j : Nat) : syn r j = low x y z j := by
  unfold syn
  rw [hl]
  have key : ∀ k, k ≤ 8 → synTo r j (3 + k) = low x y z j := fun k => by
    induction k with
    | zero => intro _; simp only [synTo, h0, h1, h2, Nat.zero_xor]; unfold low; rw [Nat.xor_assoc]
    | succ k ih =>
      intro hk
      show synTo r j (3 + k + 1) = _
      simp only [synTo]
      rw [ih (by omega), h (3 + k) (by omega) (by omega), gm_zero (gp_lt (by omega) _), Nat.xor_zero]
  exact key 8 (by omega)
theorem take3 {r : List Nat} (h : r.length = 11) : r.take 3 = [r.getD 0 0, r.getD 1 0, r.getD 2 0] := by
  match r, h with
  | a :: b :: c :: r, _ => rfl
theorem enc_parts {d : List Nat} (h : Sym d) (hl : d.length = 8) : ∃ x y z, x < 16 ∧ y < 16 ∧ z < 16 ∧ encS d = [x, y, z] ++ d ∧ encI d = [x, y, z] ++ d ∧ ∀ j, j < 3 → syn (data0 d) j = low x y z j := by
  have hl0 : (data0 d).length = 11 := by simp [data0, hl]
  obtain ⟨h1, h2, h3, h4⟩ := divTo_inv (data0_sym h) hl0 8 (Nat.le_refl _)
  generalize hr : divTo (data0 d) 8 = r at *
  have hs : ∀ j, syn r j = low (r.getD 0 0) (r.getD 1 0) (r.getD 2 0) j := fun j => syn_low h2 rfl rfl rfl h4 j
  refine ⟨r.getD 0 0, r.getD 1 0, r.getD 2 0, h1.at 0, h1.at 1, h1.at 2, ?_, ?_, fun j hj => by rw [← h3 j hj, hs]⟩
  · unfold encS
    rw [hr]
    rw [take3 h2]
  · have e0 : syn (data0 d) 0 = low (r.getD 0 0) (r.getD 1 0) (r.getD 2 0) 0 := by rw [← h3 0 (by omega), hs]
    have e1 : syn (data0 d) 1 = low (r.getD 0 0) (r.getD 1 0) (r.getD 2 0) 1 := by rw [← h3 1 (by omega), hs]
    have e2 : syn (data0 d) 2 = low (r.getD 0 0) (r.getD 1 0) (r.getD 2 0) 2 := by rw [← h3 2 (by omega), hs]
    have this := of_upto (of_upto (of_upto chk_all (h1.at 0)) (h1.at 1)) (h1.at 2)
    generalize r.getD 0 0 = x at *
    generalize r.getD 1 0 = y at *
    generalize r.getD 2 0 = z at *
    unfold encI
    rw [e0, e1, e2]
    simp only [Bool.and_eq_true, beq_iff_eq] at this
    rw [this.1.1, this.1.2, this.2]
theorem enc_is {d : List Nat} (h : Sym d) (hl : d.length = 8) : encI d = encS d := by
  obtain ⟨x, y, z, _, _, _, h1, h2, _⟩ := enc_parts h hl
  rw [h1, h2]
theorem enc_sym {d : List Nat} (h : Sym d) (hl : d.length = 8) : Sym (encS d) ∧ (encS d).length = 11 := by
  obtain ⟨x, y, z, hx, hy, hz, h1, h2, _⟩ := enc_parts h hl
  rw [h1]
  refine ⟨fun v hv => ?_, by simp [hl]⟩
  rcases List.mem_append.1 hv with hv | hv
  · simp at hv; omega
  · exact h v hv
theorem enc_drop {d : List Nat} (h : Sym d) (hl : d.length = 8) : (encS d).drop 3 = d := by
  obtain ⟨x, y, z, hx, hy, hz, h1, h2, _⟩ := enc_parts h hl
  rw [h1]; rfl
theorem enc_syn {d : List Nat} (h : Sym d) (hl : d.length = 8) {j : Nat} (hj : j < 3) : syn (encS d) j = 0 := by
  obtain ⟨x, y, z, hx, hy, hz, h1, h2, h3⟩ := enc_parts h hl
  have hd := data0_sym h
  have hl0 : (data0 d).length = 11 := by simp [data0, hl]
  have e : encS d = turn (turn (turn (data0 d) 0 x) 1 y) 2 z := by
    rw [h1]; simp [turn, data0]
  rw [e, syn_turn (turn_sym (turn_sym hd hx) hy) (by simp only [turn_len]; omega) hz, syn_turn (turn_sym hd hx) (by simp only [turn_len]; omega) hy, syn_turn hd (by omega) hx, h3 j hj, Nat.xor_assoc, Nat.xor_assoc]
  exact Nat.xor_self _
end Go.Proofs.Ytkhcepmileiejaa
