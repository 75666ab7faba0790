/- The text of an error log in plain lists: the encoding, both decoders' readings of it, and that both give back what was encoded. No program here. -/
import Derived.Test.YtheifhjnbpbkhaaDoorErrors
import Derived.Lib.ItoaNum
import Derived.Lib.ItoaLen
import Derived.Lib.Split
import Derived.Lib.CountLaws
set_option linter.unusedSimpArgs false
set_option linter.unusedVariables false
namespace Go.Proofs.YtheifhjnbpbkhaaDoor
open Go.RowKit Go.ChangeShapes Go.WideShapes Go.ChangeAt Go.Joins Go.Deep
open Go.ChangeMaps (open_string shut_string)
open Go.Lib (decDigits)
def decI (z : Int) : List UInt8 := decDigits z.toNat
def ent (e : En) : List UInt8 := decI e.line ++ 58 :: (decI e.code ++ 58 :: decI e.times)
def ents : List En → List UInt8
  | [] => []
  | e :: es => 32 :: (ent e ++ ents es)
def bodyB (n : Int) (es : List En) : List UInt8 := decI n ++ (ents es ++ [32])
def sumB : List UInt8 → Nat
  | [] => 0
  | c :: l => c.toNat + sumB l
def encB (n : Int) (es : List En) : List UInt8 := bodyB n es ++ (decI ((sumB (bodyB n es) % 9973 : Nat) : Int) ++ [59])
def numOk (n : Int) : Bool := btw n 1 1000000000
def encOk (n : Int) (es : List En) : Bool := errorsOkB es && numOk n
def enc (n : Int) (es : List En) : List UInt8 := if encOk n es = true then encB n es else []
/-! ### Digits -/
def isDig (c : UInt8) : Bool := decide (48 ≤ c.toNat) && decide (c.toNat ≤ 57)
def valF (n : Int) (c : UInt8) : Int := n * 10 + ((c.toNat : Int) - 48)
def val (l : List UInt8) : Int := l.foldl valF 0
theorem val_snoc (l : List UInt8) (c : UInt8) : val (l ++ [c]) = valF (val l) c := by simp [val]
theorem dig_of {u : Nat} (h : u < 10) : isDig (UInt8.ofNat (48 + u)) = true ∧ ((UInt8.ofNat (48 + u)).toNat : Int) - 48 = (u : Int) := by
  have e : (UInt8.ofNat (48 + u)).toNat = 48 + u := by simp [UInt8.toNat_ofNat']; omega
  unfold isDig; rw [e]; exact ⟨by simp; omega, by omega⟩
theorem dec_step {u : Nat} (h : ¬ u < 10) : decDigits u = decDigits (u / 10) ++ [UInt8.ofNat (48 + u % 10)] := by rw [decDigits, dif_neg h]
theorem dec_val (u : Nat) : val (decDigits u) = (u : Int) := by
  induction u using Nat.strongRecOn with
  | _ u ih =>
    by_cases h : u < 10
    · rw [Go.Lib.decDigits_one h]
      have := (dig_of h).2
      simp only [val, List.foldl_cons, List.foldl_nil, valF]; omega
    · rw [dec_step h, val_snoc, ih (u / 10) (by omega)]
      have := (dig_of (u := u % 10) (by omega)).2
      unfold valF; omega
theorem dec_dig (u : Nat) : (decDigits u).all isDig = true := by
  induction u using Nat.strongRecOn with
  | _ u ih =>
    by_cases h : u < 10
    · rw [Go.Lib.decDigits_one h, List.all_cons, (dig_of h).1]; rfl
    · rw [dec_step h, List.all_append, ih (u / 10) (by omega), List.all_cons, (dig_of (u := u % 10) (by omega)).1]; rfl
theorem dec_ne (u : Nat) : decDigits u ≠ [] := fun h => by
  have h1 := congrArg List.length h
  rw [Go.Lib.decDigits_length] at h1
  have := Go.Lib.nDigits_pos u
  simp only [List.length_nil] at h1
  omega
theorem dec_head (u : Nat) (h : ¬ u < 10) : (decDigits u)[0]? ≠ some 48 := by
  induction u using Nat.strongRecOn with
  | _ u ih =>
    rw [dec_step h]
    by_cases h2 : u / 10 < 10
    · rw [Go.Lib.decDigits_one h2]
      simp only [List.singleton_append, List.getElem?_cons_zero, ne_eq, Option.some.injEq]
      intro e
      have := congrArg UInt8.toNat e
      simp [UInt8.toNat_ofNat'] at this
      omega
    · have := ih (u / 10) (by omega) h2
      rw [List.getElem?_append_left (List.length_pos_iff.2 (dec_ne _))]; exact this
theorem dec_len (u k : Nat) (h : u < 10 ^ (k + 1)) : (decDigits u).length ≤ k + 1 := by
  induction k generalizing u with
  | zero => rw [Go.Lib.decDigits_one (by simpa using h)]; simp
  | succ k ih =>
    by_cases h2 : u < 10
    · rw [Go.Lib.decDigits_one h2]; simp
    · rw [dec_step h2, List.length_append]
      have := ih (u / 10) (by rw [Nat.pow_succ] at h; omega)
      simp; omega
def pUok (l : List UInt8) : Bool := (decide (1 ≤ l.length) && decide (l.length ≤ 10)) && ((decide (l.length ≤ 1) || !(l[0]? == some 48)) && (l.all isDig && decide (val l ≤ 1000000000)))
def pU (l : List UInt8) : Int := if pUok l = true then val l else 0
theorem pU_dec {z : Int} (h0 : 0 ≤ z) (h1 : z ≤ 1000000000) : pU (decI z) = z := by
  have hv := dec_val z.toNat
  have h2 : pUok (decI z) = true := by
    unfold pUok decI
    have l1 := List.length_pos_iff.2 (dec_ne z.toNat)
    have l2 := dec_len z.toNat 9 (by omega)
    simp only [Bool.and_eq_true, Bool.or_eq_true, decide_eq_true_eq, Bool.not_eq_true']
    refine ⟨⟨l1, by omega⟩, ?_, dec_dig _, by rw [hv]; omega⟩
    by_cases hz : z.toNat < 10
    · left; rw [Go.Lib.decDigits_one hz]; simp
    · right; simpa using dec_head _ hz
  unfold pU; rw [if_pos h2]; unfold decI; rw [hv]; omega
/-! ### Splitting at one byte -/
theorem occ_one (s : List UInt8) (c : UInt8) (i : Nat) : Go.Lib.occAt s [c] i = (s[i]? == some c) := by
  unfold Go.Lib.occAt
  by_cases h : i < s.length
  · rw [List.drop_eq_getElem_cons h, List.getElem?_eq_getElem h]
    simp [List.isPrefixOf, Bool.beq_comm]
  · rw [List.drop_eq_nil_of_le (by omega), List.getElem?_eq_none (by omega)]; rfl
theorem split_miss {s : List UInt8} {c : UInt8} (h : c ∉ s) : Go.Lib.split s [c] = [s] := by
  have hi : Go.Lib.index s [c] = -1 := Go.Lib.index_none fun j _ => by
    rw [occ_one]
    cases e : s[j]? with
    | none => rfl
    | some d =>
      have := List.mem_of_getElem? e
      have hd : d ≠ c := fun e => h (e ▸ this)
      simpa using hd
  unfold Go.Lib.split
  rw [Go.Lib.count_miss hi]; rfl
theorem split_hit {a b : List UInt8} {c : UInt8} (h : c ∉ a) : Go.Lib.split (a ++ c :: b) [c] = a :: Go.Lib.split b [c] := by
  have hi : Go.Lib.index (a ++ c :: b) [c] = (a.length : Int) := Go.Lib.index_first (by simp) (by rw [occ_one]; simp) fun j hj => by
    rw [occ_one, List.getElem?_append_left hj, List.getElem?_eq_getElem hj]
    have : a[j] ≠ c := fun e => h (e ▸ List.getElem_mem hj)
    simpa using this
  unfold Go.Lib.split
  rw [Go.Lib.count_hit (by simp) hi, Nat.add_comm, Go.Lib.splitK, hi]
  have hm : ¬ ((a.length : Int) == -1) = true := by simp
  rw [if_neg hm]
  simp
theorem dig_not {c : UInt8} {l : List UInt8} (h : l.all isDig = true) (hc : isDig c = false) : c ∉ l := fun hm => by
  rw [List.all_eq_true.1 h c hm] at hc; cases hc
theorem dec_not (z : Int) {c : UInt8} (hc : isDig c = false) : c ∉ decI z := dig_not (dec_dig _) hc
theorem ent_no32 (e : En) : (32 : UInt8) ∉ ent e := by
  unfold ent
  simp only [List.mem_append, List.mem_cons, not_or]
  exact ⟨dec_not _ (by decide), by decide, dec_not _ (by decide), by decide, dec_not _ (by decide)⟩
theorem split_ent (e : En) : Go.Lib.split (ent e) [58] = [decI e.line, decI e.code, decI e.times] := by
  unfold ent
  rw [split_hit (dec_not _ (by decide)), split_hit (dec_not _ (by decide)), split_miss (dec_not _ (by decide))]
theorem split_ents (es : List En) (a t : List UInt8) (ha : (32 : UInt8) ∉ a) (ht : (32 : UInt8) ∉ t) : Go.Lib.split (a ++ (ents es ++ 32 :: t)) [32] = a :: (es.map ent ++ [t]) := by
  induction es generalizing a with
  | nil => rw [show ents [] ++ 32 :: t = 32 :: t from rfl, split_hit ha, split_miss ht]; rfl
  | cons e es ih =>
    rw [show a ++ (ents (e :: es) ++ 32 :: t) = a ++ 32 :: (ent e ++ (ents es ++ 32 :: t)) by simp [ents], split_hit ha, ih _ (ent_no32 e)]
    rfl
/-! ### The program's reading -/
def ent1 (w : List UInt8) : Option En := match Go.Lib.split w [58] with
  | [a, b, c] => some ⟨pU a, pU b, pU c⟩
  | _ => none
def midW (ws : List (List UInt8)) : List (List UInt8) := (ws.drop 1).take (ws.length - 2)
def okMid (l : List (List UInt8)) : Bool := l.all fun w => (ent1 w).isSome
def midEs (l : List (List UInt8)) : List En := l.filterMap ent1
def dcdI (t : List UInt8) : Option (Int × List En) :=
  if okMid (midW (Go.Lib.split t [32])) = true ∧ t ≠ [] ∧ enc (pU ((Go.Lib.split t [32]).headD [])) (midEs (midW (Go.Lib.split t [32]))) = t
  then some (pU ((Go.Lib.split t [32]).headD []), midEs (midW (Go.Lib.split t [32]))) else none
theorem entry_bd {e : En} (h : entryOk e = true) : (0 ≤ e.line ∧ e.line ≤ 1023) ∧ (1 ≤ e.code ∧ e.code ≤ 2) ∧ (1 ≤ e.times ∧ e.times ≤ 999) := by
  unfold entryOk at h
  simp only [Bool.and_eq_true, Bool.or_eq_true, beq_iff_eq] at h
  obtain ⟨h1, h2, h3⟩ := h
  exact ⟨btw_true.1 h1, by omega, btw_true.1 h3⟩
theorem ent1_ent {e : En} (h : entryOk e = true) : ent1 (ent e) = some e := by
  obtain ⟨a, b, c⟩ := entry_bd h
  unfold ent1
  rw [split_ent]
  simp only
  rw [pU_dec a.1 (by omega), pU_dec (by omega) (by omega), pU_dec (by omega) (by omega)]
theorem ok_entries {es : List En} (h : errorsOkB es = true) : ∀ e ∈ es, entryOk e = true := by
  intro e he
  obtain ⟨k, hk⟩ := List.getElem?_of_mem he
  have hl := (List.getElem?_eq_some_iff.1 hk).1
  unfold errorsOkB errTo at h
  rw [Bool.and_eq_true, List.all_eq_true] at h
  have := h.2 k (List.mem_range.2 hl)
  rw [hk] at this
  simp only [Bool.and_eq_true] at this
  exact this.1
theorem encB_split (n : Int) (es : List En) : Go.Lib.split (encB n es) [32] = decI n :: (es.map ent ++ [decI ((sumB (bodyB n es) % 9973 : Nat) : Int) ++ [59]]) := by
  have := split_ents es (decI n) (decI ((sumB (bodyB n es) % 9973 : Nat) : Int) ++ [59]) (dec_not _ (by decide)) (by
    simp only [List.mem_append, List.mem_singleton, not_or]; exact ⟨dec_not _ (by decide), by decide⟩)
  rw [← this]
  congr 1
  unfold encB
  simp [bodyB]
theorem mid_enc (a t : List UInt8) (l : List (List UInt8)) : midW (a :: (l ++ [t])) = l := by
  unfold midW; simp
theorem map_ent1 {es : List En} (h : ∀ e ∈ es, entryOk e = true) : okMid (es.map ent) = true ∧ midEs (es.map ent) = es := by
  induction es with
  | nil => exact ⟨rfl, rfl⟩
  | cons e es ih =>
    obtain ⟨a, b⟩ := ih fun x hx => h x (List.mem_cons_of_mem _ hx)
    have he := ent1_ent (h e List.mem_cons_self)
    unfold okMid midEs at *
    simp only [List.map_cons, List.all_cons, List.filterMap_cons, he, Option.isSome_some, Bool.true_and]
    exact ⟨a, by rw [b]⟩
theorem encB_ne (n : Int) (es : List En) : encB n es ≠ [] := by unfold encB; simp
theorem num_bd {n : Int} (h : numOk n = true) : 1 ≤ n ∧ n ≤ 1000000000 := btw_true.1 h
theorem encOk_parts {n : Int} {es : List En} (h : encOk n es = true) : errorsOkB es = true ∧ numOk n = true := by unfold encOk at h; simpa using h
theorem dcdI_enc {n : Int} {es : List En} (h : encOk n es = true) : dcdI (encB n es) = some (n, es) := by
  obtain ⟨h1, h2⟩ := encOk_parts h
  obtain ⟨a, b⟩ := map_ent1 (ok_entries h1)
  have hn : pU (decI n) = n := pU_dec (by have := num_bd h2; omega) (num_bd h2).2
  unfold dcdI
  rw [encB_split, mid_enc, List.headD_cons, hn, b, a]
  have : enc n es = encB n es := if_pos h
  rw [if_pos ⟨rfl, encB_ne _ _, this⟩]
theorem dcdI_some {t : List UInt8} {n : Int} {es : List En} (h : dcdI t = some (n, es)) : encOk n es = true ∧ encB n es = t := by
  unfold dcdI at h
  split at h
  · next hc =>
    obtain ⟨hc1, hc2, hc3⟩ := hc
    simp only [Option.some.injEq, Prod.mk.injEq] at h
    rw [h.1, h.2] at hc3
    unfold enc at hc3
    by_cases hk : encOk n es = true
    · rw [if_pos hk] at hc3; exact ⟨hk, hc3⟩
    · rw [if_neg hk] at hc3; exact absurd hc3.symm hc2
  · cases h
/-! ### The reference's reading -/
def numsL : List UInt8 → Int → Bool → List Int → List Int
  | [], _, _, out => out
  | c :: l, n, inn, out => if out.length < 24 then (if isDig c = true then numsL l (min (n * 10 + ((c.toNat : Int) - 48)) 1000000001) true out else numsL l 0 false (if inn = true then out ++ [n] else out)) else out
def entsOf : List Int → List En
  | a :: b :: c :: d :: r => ⟨a, b, c⟩ :: entsOf (d :: r)
  | _ => []
def dcdS (t : List UInt8) : Option (Int × List En) :=
  if t.length ≤ 200 ∧ 2 ≤ (numsL t 0 false []).length ∧ t ≠ [] ∧ enc ((numsL t 0 false []).headD 0) (entsOf ((numsL t 0 false []).drop 1)) = t
  then some ((numsL t 0 false []).headD 0, entsOf ((numsL t 0 false []).drop 1)) else none
theorem nums_digs : ∀ (l r : List UInt8) (n : Int) (inn : Bool) (out : List Int), out.length < 24 → l.all isDig = true → (∀ k, k ≤ l.length → (l.take k).foldl valF n ≤ 1000000001) → l ≠ [] → numsL (l ++ r) n inn out = numsL r (l.foldl valF n) true out
  | [], _, _, _, _, _, _, _, h => absurd rfl h
  | c :: l, r, n, inn, out, ho, hd, hb, _ => by
    simp only [List.all_cons, Bool.and_eq_true] at hd
    have h1 := hb 1 (by simp)
    simp only [List.take_succ_cons, List.take_zero, List.foldl_cons, List.foldl_nil] at h1
    have e : min (n * 10 + ((c.toNat : Int) - 48)) 1000000001 = valF n c := by unfold valF at *; omega
    rw [List.cons_append]
    show (if _ then _ else _) = _
    rw [if_pos ho, if_pos hd.1, e]
    by_cases hl : l = []
    · subst hl; rfl
    · rw [nums_digs l r (valF n c) true out ho hd.2 (fun k hk => by
        have := hb (k + 1) (by simp; omega)
        simpa using this) hl]
      rfl
theorem val_take_le {l : List UInt8} (hd : l.all isDig = true) (k : Nat) : 0 ≤ val (l.take k) ∧ val (l.take k) ≤ val l := by
  have step : ∀ (x : List UInt8) (n : Int), x.all isDig = true → 0 ≤ n → n ≤ x.foldl valF n := by
    intro x
    induction x with
    | nil => intro n _ _; exact Int.le_refl _
    | cons c x ih =>
      intro n h h0
      simp only [List.all_cons, Bool.and_eq_true] at h
      have hc := h.1
      unfold isDig at hc
      simp only [Bool.and_eq_true, decide_eq_true_eq] at hc
      have hv : n ≤ valF n c := by unfold valF; omega
      exact Int.le_trans hv (ih (valF n c) h.2 (by omega))
  have h1 : (l.take k).all isDig = true := List.all_eq_true.2 fun x hx => List.all_eq_true.1 hd x (List.mem_of_mem_take hx)
  have h2 : (l.drop k).all isDig = true := List.all_eq_true.2 fun x hx => List.all_eq_true.1 hd x (List.mem_of_mem_drop hx)
  have h0 : 0 ≤ val (l.take k) := step (l.take k) 0 h1 (Int.le_refl _)
  refine ⟨h0, ?_⟩
  have e : val l = (l.drop k).foldl valF (val (l.take k)) := by
    conv => lhs; rw [← List.take_append_drop k l]
    unfold val; rw [List.foldl_append]
  rw [e]; exact step _ _ h2 h0
theorem nums_dec {z : Int} {c : UInt8} {r : List UInt8} {out : List Int} (h0 : 0 ≤ z) (h1 : z ≤ 1000000000) (hc : isDig c = false) (ho : out.length < 24) : numsL (decI z ++ c :: r) 0 false out = numsL r 0 false (out ++ [z]) := by
  unfold decI
  have hv := dec_val z.toNat
  rw [nums_digs (decDigits z.toNat) (c :: r) 0 false out ho (dec_dig _) (fun k _ => by
    have := (val_take_le (dec_dig z.toNat) k).2
    rw [hv] at this
    show val _ ≤ _
    omega) (dec_ne _)]
  show (if _ then _ else _) = _
  rw [if_pos ho, if_neg (by rw [hc]; simp), if_pos rfl]
  have : (decDigits z.toNat).foldl valF 0 = z := by show val _ = z; rw [hv]; omega
  rw [this]
theorem nums_pass {c : UInt8} {r : List UInt8} {out : List Int} (hc : isDig c = false) (ho : out.length < 24) : numsL (c :: r) 0 false out = numsL r 0 false out := by
  show (if _ then _ else _) = _
  rw [if_pos ho, if_neg (by rw [hc]; simp)]; rfl
def flatE : List En → List Int
  | [] => []
  | e :: es => e.line :: e.code :: e.times :: flatE es
theorem flatE_len (es : List En) : (flatE es).length = 3 * es.length := by
  induction es with
  | nil => rfl
  | cons e es ih => simp [flatE, ih]; omega
theorem nums_ents (es : List En) (z s : Int) (out : List Int) (h0 : 0 ≤ z) (h1 : z ≤ 1000000000) (hs0 : 0 ≤ s) (hs1 : s ≤ 1000000000) (he : ∀ e ∈ es, entryOk e = true) (ho : out.length + 3 * es.length + 2 ≤ 24) :
    numsL (decI z ++ (ents es ++ 32 :: (decI s ++ [59]))) 0 false out = out ++ z :: (flatE es ++ [s]) := by
  induction es generalizing z out with
  | nil =>
    rw [show ents [] ++ 32 :: (decI s ++ [59]) = 32 :: (decI s ++ [59]) from rfl, nums_dec h0 h1 (by decide) (by simp at ho; omega), show decI s ++ [59] = decI s ++ 59 :: [] from rfl, nums_dec hs0 hs1 (by decide) (by simp at ho ⊢; omega)]
    simp [numsL, flatE]
  | cons e es ih =>
    obtain ⟨a, b, c⟩ := entry_bd (he e List.mem_cons_self)
    simp only [List.length_cons] at ho
    rw [show decI z ++ (ents (e :: es) ++ 32 :: (decI s ++ [59])) = decI z ++ 32 :: (decI e.line ++ 58 :: (decI e.code ++ 58 :: (decI e.times ++ (ents es ++ 32 :: (decI s ++ [59]))))) by simp [ents, ent],
      nums_dec h0 h1 (by decide) (by omega), nums_dec a.1 (by omega) (by decide) (by simp; omega), nums_dec (by omega) (by omega) (by decide) (by simp; omega),
      ih e.times _ (by omega) (by omega) (fun x hx => he x (List.mem_cons_of_mem _ hx)) (by simp; omega)]
    simp [flatE]
theorem ents_flat (es : List En) (s : Int) : entsOf (flatE es ++ [s]) = es := by
  induction es with
  | nil => rfl
  | cons e es ih =>
    cases es with
    | nil => rfl
    | cons f es => show (⟨e.line, e.code, e.times⟩ : En) :: entsOf (flatE (f :: es) ++ [s]) = _; rw [ih]
theorem ent_len {e : En} (h : entryOk e = true) : (ent e).length ≤ 10 := by
  obtain ⟨a, b, c⟩ := entry_bd h
  have l1 := dec_len e.line.toNat 3 (by omega)
  have l2 := dec_len e.code.toNat 0 (by omega)
  have l3 := dec_len e.times.toNat 2 (by omega)
  unfold ent decI
  simp only [List.length_append, List.length_cons]
  omega
theorem ents_len {es : List En} (h : ∀ e ∈ es, entryOk e = true) : (ents es).length ≤ 11 * es.length := by
  induction es with
  | nil => exact Nat.le_refl _
  | cons e es ih =>
    have a := ent_len (h e List.mem_cons_self)
    have b := ih fun x hx => h x (List.mem_cons_of_mem _ hx)
    simp only [ents, List.length_cons, List.length_append]
    omega
theorem encB_len {n : Int} {es : List En} (h : encOk n es = true) : (encB n es).length ≤ 82 ∧ (bodyB n es).length ≤ 77 ∧ es.length ≤ 6 := by
  obtain ⟨h1, h2⟩ := encOk_parts h
  have hl : es.length ≤ 6 := by unfold errorsOkB at h1; simp only [Bool.and_eq_true, decide_eq_true_eq] at h1; exact h1.1
  have a := ents_len (ok_entries h1)
  have b := dec_len n.toNat 9 (by have := num_bd h2; omega)
  have c := dec_len (sumB (bodyB n es) % 9973) 3 (by omega)
  have hb : (bodyB n es).length ≤ 77 := by unfold bodyB decI; simp only [List.length_append, List.length_cons, List.length_nil]; omega
  refine ⟨?_, hb, hl⟩
  unfold encB decI
  simp only [List.length_append, List.length_cons, List.length_nil, Int.toNat_natCast]
  omega
theorem dcdS_enc {n : Int} {es : List En} (h : encOk n es = true) : dcdS (encB n es) = some (n, es) := by
  obtain ⟨h1, h2⟩ := encOk_parts h
  obtain ⟨l1, l2, l3⟩ := encB_len h
  have hn := num_bd h2
  have hnum : numsL (encB n es) 0 false [] = n :: (flatE es ++ [((sumB (bodyB n es) % 9973 : Nat) : Int)]) := by
    have := nums_ents es n ((sumB (bodyB n es) % 9973 : Nat) : Int) [] (by omega) hn.2 (by omega) (by omega) (ok_entries h1) (by simp; omega)
    rw [List.nil_append] at this
    rw [← this]
    congr 1
    unfold encB
    simp [bodyB]
  unfold dcdS
  rw [hnum]
  simp only [List.headD_cons, List.drop_succ_cons, List.drop_zero, ents_flat]
  have : enc n es = encB n es := if_pos h
  rw [if_pos ⟨by omega, by simp, encB_ne _ _, this⟩]
theorem dcdS_some {t : List UInt8} {n : Int} {es : List En} (h : dcdS t = some (n, es)) : encOk n es = true ∧ encB n es = t := by
  unfold dcdS at h
  split at h
  · next hc =>
    obtain ⟨hc0, hc1, hc2, hc3⟩ := hc
    simp only [Option.some.injEq, Prod.mk.injEq] at h
    rw [h.1, h.2] at hc3
    unfold enc at hc3
    by_cases hk : encOk n es = true
    · rw [if_pos hk] at hc3; exact ⟨hk, hc3⟩
    · rw [if_neg hk] at hc3; exact absurd hc3.symm hc2
  · cases h
/-- Both decoders read the same. -/
theorem dcd_same (t : List UInt8) : dcdI t = dcdS t := by
  cases hI : dcdI t with
  | some r =>
    obtain ⟨n, es⟩ := r
    obtain ⟨h1, h2⟩ := dcdI_some hI
    rw [← h2, dcdS_enc h1]
  | none =>
    cases hS : dcdS t with
    | none => rfl
    | some r =>
      obtain ⟨n, es⟩ := r
      obtain ⟨h1, h2⟩ := dcdS_some hS
      rw [← h2, dcdI_enc h1] at hI; cases hI
end Go.Proofs.YtheifhjnbpbkhaaDoor
