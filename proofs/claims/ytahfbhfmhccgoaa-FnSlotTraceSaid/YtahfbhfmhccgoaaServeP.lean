/- A fixed schedule, plainly: what each slot serves, by indexes and by the requests themselves. -/
import Derived.Test.YtahfbhfmhccgoaaKeep
import Derived.Test.YtahfbhfmhccgoaaSlots2
import Derived.Test.YtahfbhfmhccgoaaServed
set_option linter.unusedSimpArgs false
set_option linter.unusedVariables false
namespace Go.Proofs.Ytahfbhfmhccgoaa
open Go.RowKit Go.ChangeShapes Go.WideShapes Go.ChangeAt Go.Joins Go.Deep
open Go.ChangeMaps (open_string shut_string)
def befB (a b : Rq) : Bool := decide (a.tm < b.tm) || (decide (a.tm = b.tm) && decide (a.id < b.id))
def canB (o b : Int) (d : Bool) (r : Rq) : Bool := !d && ((r.tenant == o) && decide (r.tm ≤ b))
/-- Whether r stands before the best so far. -/
def befAt (rs : List Rq) (p : Int) (r : Rq) : Bool := match rs[p.toNat]? with | some q => befB r q | none => false
def pickTo (rs : List Rq) (ds : List Bool) (o b : Int) : Nat → Int
  | 0 => -1
  | k + 1 =>
    match rs[k]?, ds[k]? with
    | some r, some d => if canB o b d r = true ∧ (pickTo rs ds o b k < 0 ∨ befAt rs (pickTo rs ds o b k) r = true) then (k : Int) else pickTo rs ds o b k
    | _, _ => pickTo rs ds o b k
section
variable {rs : List Rq} {ds : List Bool} {o b : Int} {k : Nat} {r : Rq} {d : Bool} {p : Int}
theorem pick_no (hp : pickTo rs ds o b k = p) (hr : rs[k]? = some r) (hd : ds[k]? = some d) (h : canB o b d r = false) : pickTo rs ds o b (k + 1) = p := by
  simp only [pickTo, hr, hd, h]; simp [hp]
theorem pick_yes (hp : pickTo rs ds o b k = p) (hr : rs[k]? = some r) (hd : ds[k]? = some d) (h : canB o b d r = true) (h1 : p < 0 ∨ befAt rs p r = true) : pickTo rs ds o b (k + 1) = k := by
  simp only [pickTo, hr, hd, h, hp]; rw [if_pos ⟨trivial, h1⟩]
theorem pick_keep (hp : pickTo rs ds o b k = p) (hr : rs[k]? = some r) (hd : ds[k]? = some d) (h0 : 0 ≤ p) (h1 : befAt rs p r = false) : pickTo rs ds o b (k + 1) = p := by
  simp only [pickTo, hr, hd, hp]; rw [if_neg (by simp [h1]; omega)]
theorem pick_bd (rs : List Rq) (ds : List Bool) (o b : Int) : ∀ k : Nat, -1 ≤ pickTo rs ds o b k ∧ pickTo rs ds o b k < k
  | 0 => by simp [pickTo]
  | k + 1 => by
    have ih := pick_bd rs ds o b k
    simp only [pickTo]
    split
    · split <;> omega
    · omega
end
/-- What stands behind j slots: which requests are done, and what each slot serves. -/
def runS (rs : List Rq) (zs : List Int) (l : Int) : Nat → List Bool × List Int
  | 0 => (List.replicate rs.length false, [])
  | j + 1 =>
    ((if 0 ≤ pickTo rs (runS rs zs l j).1 (ownerAt zs l (j * l)) (j * l) rs.length then (runS rs zs l j).1.set (pickTo rs (runS rs zs l j).1 (ownerAt zs l (j * l)) (j * l) rs.length).toNat true else (runS rs zs l j).1),
     (runS rs zs l j).2 ++ [pickTo rs (runS rs zs l j).1 (ownerAt zs l (j * l)) (j * l) rs.length])
def pickS (rs : List Rq) (zs : List Int) (l : Int) (j : Nat) : Int := pickTo rs (runS rs zs l j).1 (ownerAt zs l (j * l)) (j * l) rs.length
theorem runS_len (rs : List Rq) (zs : List Int) (l : Int) : ∀ j, (runS rs zs l j).1.length = rs.length ∧ (runS rs zs l j).2.length = j
  | 0 => by simp [runS]
  | j + 1 => by
    obtain ⟨h1, h2⟩ := runS_len rs zs l j
    simp only [runS]
    refine ⟨?_, by simp [h2]⟩
    split <;> simp [h1]
theorem runS_no {rs : List Rq} {zs : List Int} {l : Int} {j : Nat} {p : Int} (h : pickS rs zs l j = p) (hp : p < 0) : runS rs zs l (j + 1) = ((runS rs zs l j).1, (runS rs zs l j).2 ++ [p]) := by
  unfold pickS at h; simp only [runS, h]; rw [if_neg (by omega)]
theorem runS_yes {rs : List Rq} {zs : List Int} {l : Int} {j m : Nat} (h : pickS rs zs l j = m) : runS rs zs l (j + 1) = ((runS rs zs l j).1.set m true, (runS rs zs l j).2 ++ [(m : Int)]) := by
  unfold pickS at h; simp only [runS, h]; rw [if_pos (by omega)]; rfl
theorem pickS_bd (rs : List Rq) (zs : List Int) (l : Int) (j : Nat) : -1 ≤ pickS rs zs l j ∧ pickS rs zs l j < rs.length := pick_bd _ _ _ _ _
/-- The index of the request of each slot that serves one, and the slot's beginning. -/
def whichS (rs : List Rq) (zs : List Int) (l : Int) (j : Nat) : List Int := (runS rs zs l j).2.filter (0 ≤ ·)
def beginS (rs : List Rq) (zs : List Int) (l : Int) : Nat → List Int
  | 0 => []
  | j + 1 => if 0 ≤ pickS rs zs l j then beginS rs zs l j ++ [(j : Int) * l] else beginS rs zs l j
def svAt (rs : List Rq) (p b : Int) : Sv := ⟨((rs[p.toNat]?).map (·.id)).getD 0, b⟩
def servedS (rs : List Rq) (zs : List Int) (l : Int) : Nat → List Sv
  | 0 => []
  | j + 1 => if 0 ≤ pickS rs zs l j then servedS rs zs l j ++ [svAt rs (pickS rs zs l j) ((j : Int) * l)] else servedS rs zs l j
section
variable {rs : List Rq} {zs : List Int} {l : Int} {j : Nat}
theorem which_no (h : pickS rs zs l j < 0) : whichS rs zs l (j + 1) = whichS rs zs l j := by
  unfold whichS; rw [runS_no rfl h, List.filter_append]; simp; omega
theorem which_yes {m : Nat} (h : pickS rs zs l j = m) : whichS rs zs l (j + 1) = whichS rs zs l j ++ [(m : Int)] := by
  unfold whichS; rw [runS_yes h, List.filter_append]; simp
theorem begin_no (h : pickS rs zs l j < 0) : beginS rs zs l (j + 1) = beginS rs zs l j := by simp only [beginS]; rw [if_neg (by omega)]
theorem begin_yes {m : Nat} (h : pickS rs zs l j = m) : beginS rs zs l (j + 1) = beginS rs zs l j ++ [(j : Int) * l] := by simp only [beginS]; rw [if_pos (by omega)]
theorem served_no (h : pickS rs zs l j < 0) : servedS rs zs l (j + 1) = servedS rs zs l j := by simp only [servedS]; rw [if_neg (by omega)]
theorem served_yes {m : Nat} (h : pickS rs zs l j = m) : servedS rs zs l (j + 1) = servedS rs zs l j ++ [svAt rs m ((j : Int) * l)] := by simp only [servedS]; rw [if_pos (by omega), h]
theorem begin_len : ∀ j, (beginS rs zs l j).length = (whichS rs zs l j).length
  | 0 => rfl
  | j + 1 => by
    by_cases h : pickS rs zs l j < 0
    · rw [begin_no h, which_no h, begin_len j]
    · obtain ⟨m, hm⟩ := Int.eq_ofNat_of_zero_le (show 0 ≤ pickS rs zs l j by omega)
      rw [begin_yes hm, which_yes hm, List.length_append, List.length_append, begin_len j]; rfl
theorem which_le : ∀ j, (whichS rs zs l j).length ≤ j := fun j => by
  have := List.length_filter_le (fun x : Int => decide (0 ≤ x)) (runS rs zs l j).2
  rw [(runS_len rs zs l j).2] at this; exact this
theorem served_zip : ∀ j, servedS rs zs l j = List.zipWith (svAt rs) (whichS rs zs l j) (beginS rs zs l j)
  | 0 => rfl
  | j + 1 => by
    by_cases h : pickS rs zs l j < 0
    · rw [begin_no h, which_no h, served_no h, served_zip j]
    · obtain ⟨m, hm⟩ := Int.eq_ofNat_of_zero_le (show 0 ≤ pickS rs zs l j by omega)
      rw [begin_yes hm, which_yes hm, served_yes hm, List.zipWith_append (by rw [begin_len]), served_zip j]; rfl
theorem which_bd : ∀ j, ∀ x ∈ whichS rs zs l j, 0 ≤ x ∧ x < rs.length
  | 0 => by simp [whichS, runS]
  | j + 1 => by
    intro x hx
    by_cases h : pickS rs zs l j < 0
    · rw [which_no h] at hx; exact which_bd j x hx
    · obtain ⟨m, hm⟩ := Int.eq_ofNat_of_zero_le (show 0 ≤ pickS rs zs l j by omega)
      rw [which_yes hm] at hx
      rcases List.mem_append.1 hx with hx | hx
      · exact which_bd j x hx
      · have := pickS_bd rs zs l j
        simp at hx; omega
theorem begin_bd (hl : 0 ≤ l) : ∀ j, ∀ x ∈ beginS rs zs l j, 0 ≤ x ∧ x ≤ (j : Int) * l
  | 0 => by simp [beginS]
  | j + 1 => by
    intro x hx
    have e : ((j + 1 : Nat) : Int) * l = (j : Int) * l + l := by rw [show ((j + 1 : Nat) : Int) = (j : Int) + 1 by omega, Int.add_mul, Int.one_mul]
    have h0 : 0 ≤ (j : Int) * l := Int.mul_nonneg (by omega) hl
    by_cases h : pickS rs zs l j < 0
    · rw [begin_no h] at hx; have := begin_bd hl j x hx; omega
    · obtain ⟨m, hm⟩ := Int.eq_ofNat_of_zero_le (show 0 ≤ pickS rs zs l j by omega)
      rw [begin_yes hm] at hx
      rcases List.mem_append.1 hx with hx | hx
      · have := begin_bd hl j x hx; omega
      · simp at hx; omega
end
/-- What is not done yet, in the list's order. -/
def und : List Rq → List Bool → List Rq
  | r :: rs, d :: ds => if d = true then und rs ds else r :: und rs ds
  | _, _ => []
def minSt (o b : Int) (acc : Option Rq) (r : Rq) : Option Rq :=
  if canB o b false r = true then (match acc with | none => some r | some q => if befB r q = true then some r else some q) else acc
def minF (o b : Int) (W : List Rq) : Option Rq := W.foldl (minSt o b) none
def optAt (rs : List Rq) (p : Int) : Option Rq := if p < 0 then none else rs[p.toNat]?
theorem und_take (rs : List Rq) (ds : List Bool) (k : Nat) (r : Rq) (d : Bool) (hr : rs[k]? = some r) (hd : ds[k]? = some d) :
    und (rs.take (k + 1)) (ds.take (k + 1)) = und (rs.take k) (ds.take k) ++ (if d = true then [] else [r]) := by
  induction k generalizing rs ds with
  | zero =>
    match rs, ds, hr, hd with
    | r' :: rs, d' :: ds, hr, hd =>
      simp at hr hd; subst hr hd
      simp [und]
  | succ k ih =>
    match rs, ds, hr, hd with
    | r' :: rs, d' :: ds, hr, hd =>
      simp only [List.take_succ_cons, und]
      rw [ih rs ds (by simpa using hr) (by simpa using hd)]
      split <;> simp
theorem pick_min (rs : List Rq) (ds : List Bool) (o b : Int) (hl : ds.length = rs.length) : ∀ k : Nat, k ≤ rs.length → minF o b (und (rs.take k) (ds.take k)) = optAt rs (pickTo rs ds o b k)
  | 0, _ => rfl
  | k + 1, hk => by
    have ih := pick_min rs ds o b hl k (by omega)
    have hr : rs[k]? = some (rs[k]'(by omega)) := List.getElem?_eq_getElem _
    have hd : ds[k]? = some (ds[k]'(by omega)) := List.getElem?_eq_getElem _
    generalize rs[k]'(by omega) = r at hr
    generalize ds[k]'(by omega) = d at hd
    rw [und_take rs ds k r d hr hd]
    have hbd := pick_bd rs ds o b k
    cases d with
    | true =>
      rw [pick_no rfl hr hd (by simp [canB])]
      simpa using ih
    | false =>
      unfold minF at ih ⊢
      simp only [Bool.false_eq_true, if_false, List.foldl_append, List.foldl_cons, List.foldl_nil, ih]
      cases hc : canB o b false r with
      | false =>
        rw [pick_no rfl hr hd hc]
        unfold minSt; rw [if_neg (by simp [hc])]
      | true =>
        unfold minSt; rw [if_pos hc]
        by_cases hp : pickTo rs ds o b k < 0
        · rw [pick_yes rfl hr hd hc (.inl hp)]
          have e1 : optAt rs (pickTo rs ds o b k) = none := by unfold optAt; rw [if_pos hp]
          have e2 : optAt rs (k : Int) = some r := by unfold optAt; rw [if_neg (by omega), Int.toNat_natCast, hr]
          rw [e1, e2]
        · have hq : rs[(pickTo rs ds o b k).toNat]? = some (rs[(pickTo rs ds o b k).toNat]'(by omega)) := List.getElem?_eq_getElem _
          generalize rs[(pickTo rs ds o b k).toNat]'(by omega) = q at hq
          have e1 : optAt rs (pickTo rs ds o b k) = some q := by unfold optAt; rw [if_neg hp, hq]
          have e3 : befAt rs (pickTo rs ds o b k) r = befB r q := by unfold befAt; rw [hq]
          rw [e1]
          simp only
          cases hb : befB r q with
          | true =>
            rw [pick_yes rfl hr hd hc (.inr (by rw [e3, hb]))]
            have e2 : optAt rs (k : Int) = some r := by unfold optAt; rw [if_neg (by omega), Int.toNat_natCast, hr]
            rw [e2]; rfl
          | false =>
            rw [pick_keep rfl hr hd (by omega) (by rw [e3, hb]), e1]; rfl
theorem pick_minS (rs : List Rq) (zs : List Int) (l : Int) (j : Nat) : minF (ownerAt zs l (j * l)) (j * l) (und rs (runS rs zs l j).1) = optAt rs (pickS rs zs l j) := by
  have := pick_min rs (runS rs zs l j).1 (ownerAt zs l (j * l)) (j * l) (runS_len rs zs l j).1 rs.length (Nat.le_refl _)
  rwa [List.take_of_length_le (Nat.le_refl _), List.take_of_length_le (by rw [(runS_len rs zs l j).1]; exact Nat.le_refl _)] at this
theorem minF_can (o b : Int) : ∀ (W : List Rq) (acc : Option Rq) (r : Rq), W.foldl (minSt o b) acc = some r → acc = some r ∨ (r ∈ W ∧ canB o b false r = true)
  | [], acc, r, h => .inl h
  | w :: W, acc, r, h => by
    rcases minF_can o b W (minSt o b acc w) r h with h1 | h1
    · unfold minSt at h1
      split at h1
      · next hc =>
        split at h1
        · injection h1 with h1; subst h1; exact .inr ⟨by simp, hc⟩
        · split at h1
          · injection h1 with h1; subst h1; exact .inr ⟨by simp, hc⟩
          · exact .inl h1
      · exact .inl h1
    · exact .inr ⟨by simp [h1.1], h1.2⟩
theorem canB_true {o b : Int} {d : Bool} {r : Rq} : canB o b d r = true ↔ d = false ∧ r.tenant = o ∧ r.tm ≤ b := by simp [canB]
/-- The same by the requests themselves: those not done, and who was served when. -/
def stW (rs : List Rq) (zs : List Int) (l : Int) : Nat → List Rq × List (Rq × Int)
  | 0 => (rs, [])
  | j + 1 => match minF (ownerAt zs l (j * l)) (j * l) (stW rs zs l j).1 with
    | none => stW rs zs l j
    | some r => ((stW rs zs l j).1.filter (fun q => !(q.id == r.id)), (stW rs zs l j).2 ++ [(r, (j : Int) * l)])
def NoDupId (rs : List Rq) : Prop := rs.Pairwise (fun a b => a.id ≠ b.id)
theorem und_mem : ∀ (rs : List Rq) (ds : List Bool) (r : Rq), r ∈ und rs ds → r ∈ rs
  | [], ds, r, h => by simp [und] at h
  | q :: rs, [], r, h => by simp [und] at h
  | q :: rs, d :: ds, r, h => by
    simp only [und] at h
    split at h
    · exact List.mem_cons_of_mem _ (und_mem rs ds r h)
    · rcases List.mem_cons.1 h with h | h
      · simp [h]
      · exact List.mem_cons_of_mem _ (und_mem rs ds r h)
theorem und_set : ∀ (rs : List Rq) (ds : List Bool) (m : Nat) (r : Rq), NoDupId rs → ds.length = rs.length → rs[m]? = some r → und rs (ds.set m true) = (und rs ds).filter (fun q => !(q.id == r.id))
  | [], ds, m, r, _, _, h => by simp at h
  | q :: rs, [], m, r, _, hl, _ => by simp at hl
  | q :: rs, d :: ds, 0, r, hn, hl, h => by
    simp at h; subst h
    simp only [List.set_cons_zero, und]
    have hall : ∀ x ∈ und rs ds, (!(x.id == q.id)) = true := fun x hx => by
      have := (List.pairwise_cons.1 hn).1 x (und_mem rs ds x hx)
      simp; exact fun e => this e.symm
    have e : (und rs ds).filter (fun x => !(x.id == q.id)) = und rs ds := List.filter_eq_self.2 hall
    cases d with
    | true => simp [e]
    | false => simp [e]
  | q :: rs, d :: ds, m + 1, r, hn, hl, h => by
    have hr : rs[m]? = some r := by simpa using h
    have ih := und_set rs ds m r (List.pairwise_cons.1 hn).2 (by simpa using hl) hr
    have hne : q.id ≠ r.id := (List.pairwise_cons.1 hn).1 r (List.mem_of_getElem? hr)
    simp only [List.set_cons_succ, und, ih]
    split
    · rfl
    · rw [List.filter_cons]; simp [hne]
theorem stW_is (rs : List Rq) (zs : List Int) (l : Int) (hn : NoDupId rs) : ∀ j, (stW rs zs l j).1 = und rs (runS rs zs l j).1 ∧ servedS rs zs l j = (stW rs zs l j).2.map (fun x => ⟨x.1.id, x.2⟩)
  | 0 => by
    refine ⟨?_, rfl⟩
    have : ∀ rs : List Rq, und rs (List.replicate rs.length false) = rs := fun rs => by
      induction rs with
      | nil => rfl
      | cons r rs ih => rw [List.length_cons, List.replicate_succ]; simp [und, ih]
    simp [stW, runS, this]
  | j + 1 => by
    obtain ⟨h1, h2⟩ := stW_is rs zs l hn j
    have hp := pick_minS rs zs l j
    have hb := pickS_bd rs zs l j
    by_cases h : pickS rs zs l j < 0
    · have e : optAt rs (pickS rs zs l j) = none := by unfold optAt; rw [if_pos h]
      simp only [stW, h1, hp, e]
      rw [runS_no rfl h, served_no h]
      exact ⟨rfl, h2⟩
    · obtain ⟨m, hm⟩ := Int.eq_ofNat_of_zero_le (show 0 ≤ pickS rs zs l j by omega)
      have hr : rs[m]? = some (rs[m]'(by omega)) := List.getElem?_eq_getElem _
      generalize rs[m]'(by omega) = r at hr
      have e : optAt rs (pickS rs zs l j) = some r := by rw [hm]; unfold optAt; rw [if_neg (by omega), Int.toNat_natCast, hr]
      simp only [stW, h1, hp, e]
      rw [runS_yes hm, served_yes hm]
      refine ⟨(und_set rs _ m r hn (runS_len rs zs l j).1 hr).symm, ?_⟩
      rw [List.map_append, ← h2]
      simp [svAt, hr]
theorem minF_filter (o b : Int) (W : List Rq) (t : Int) (h : o = t) : minF o b (W.filter fun e => e.tenant == t) = minF o b W := by
  subst h
  unfold minF
  rw [List.foldl_filter]
  congr 1
  funext acc r
  split
  · rfl
  · next hne =>
    unfold minSt
    rw [if_neg (by rw [canB_true]; simp at hne; simp [hne])]
theorem minF_none (o b : Int) (W : List Rq) (h : ∀ r ∈ W, r.tenant ≠ o) : minF o b W = none := by
  cases e : minF o b W with
  | none => rfl
  | some r =>
    rcases minF_can o b W none r e with h1 | ⟨h1, h2⟩
    · cases h1
    · exact absurd (canB_true.1 h2).2.1 (h r h1)
theorem filter_comm {α : Type} (p q : α → Bool) (xs : List α) : (xs.filter p).filter q = (xs.filter q).filter p := by
  rw [List.filter_filter, List.filter_filter]; congr 1; funext x; exact Bool.and_comm _ _
/-- Who is served, when: all that the law asks. -/
structure Good (rs : List Rq) (zs : List Int) (l : Int) (j : Nat) : Prop where
  sub : ∀ q ∈ (stW rs zs l j).1, q ∈ rs
  mem : ∀ x ∈ (stW rs zs l j).2, x.1 ∈ rs ∧ x.1.tenant = ownerAt zs l x.2 ∧ x.1.tm ≤ x.2 ∧ (∃ i : Nat, i < j ∧ x.2 = i * l)
  ids : (stW rs zs l j).2.Pairwise (fun x y => x.1.id ≠ y.1.id)
  inc : (stW rs zs l j).2.Pairwise (fun x y => x.2 < y.2)
  off : ∀ x ∈ (stW rs zs l j).2, ∀ q ∈ (stW rs zs l j).1, q.id ≠ x.1.id
theorem good (rs : List Rq) (zs : List Int) (l : Int) (hl : 0 < l) : ∀ j, Good rs zs l j
  | 0 => ⟨fun q h => h, by simp [stW], by simp [stW], by simp [stW], by simp [stW]⟩
  | j + 1 => by
    obtain ⟨h1, h2, h3, h4, h5⟩ := good rs zs l hl j
    have hw : ∀ x ∈ (stW rs zs l j).2, ∃ i : Nat, i < j + 1 ∧ x.2 = i * l := fun x hx => by
      obtain ⟨i, hi, e⟩ := (h2 x hx).2.2.2; exact ⟨i, by omega, e⟩
    cases e : minF (ownerAt zs l (j * l)) (j * l) (stW rs zs l j).1 with
    | none =>
      have es : stW rs zs l (j + 1) = stW rs zs l j := by simp only [stW, e]
      constructor
      all_goals rw [es]
      · exact h1
      · exact fun x hx => ⟨(h2 x hx).1, (h2 x hx).2.1, (h2 x hx).2.2.1, hw x hx⟩
      · exact h3
      · exact h4
      · exact h5
    | some r =>
      have es : stW rs zs l (j + 1) = ((stW rs zs l j).1.filter (fun q => !(q.id == r.id)), (stW rs zs l j).2 ++ [(r, (j : Int) * l)]) := by simp only [stW, e]
      have hc : r ∈ (stW rs zs l j).1 ∧ canB (ownerAt zs l (j * l)) (j * l) false r = true := by
        rcases minF_can _ _ _ none r e with h | h
        · cases h
        · exact h
      have hcc := canB_true.1 hc.2
      constructor
      all_goals rw [es]
      · exact fun q hq => h1 q (List.mem_filter.1 hq).1
      · intro x hx
        rcases List.mem_append.1 hx with hx | hx
        · exact ⟨(h2 x hx).1, (h2 x hx).2.1, (h2 x hx).2.2.1, hw x hx⟩
        · simp at hx; subst hx
          exact ⟨h1 r hc.1, hcc.2.1, hcc.2.2, j, by omega, rfl⟩
      · refine List.pairwise_append.2 ⟨h3, by simp, fun x hx y hy => ?_⟩
        simp at hy; subst hy
        exact fun e => h5 x hx r hc.1 e.symm
      · refine List.pairwise_append.2 ⟨h4, by simp, fun x hx y hy => ?_⟩
        simp at hy; subst hy
        obtain ⟨i, hi, e⟩ := (h2 x hx).2.2.2
        rw [e]
        exact Int.mul_lt_mul_of_pos_right (by omega) hl
      · intro x hx q hq
        have hq' := List.mem_filter.1 hq
        rcases List.mem_append.1 hx with hx | hx
        · exact h5 x hx q hq'.1
        · simp at hx; subst hx
          have := hq'.2; simp at this; exact this
theorem nodup_eq {rs : List Rq} (hn : NoDupId rs) : ∀ {a b : Rq}, a ∈ rs → b ∈ rs → a.id = b.id → a = b := by
  induction rs with
  | nil => intro a b h; simp at h
  | cons r rs ih =>
    intro a b ha hb e
    have h1 := List.pairwise_cons.1 hn
    rcases List.mem_cons.1 ha with ha1 | ha1 <;> rcases List.mem_cons.1 hb with hb1 | hb1
    · rw [ha1, hb1]
    · subst ha1; exact absurd e (h1.1 b hb1)
    · subst hb1; exact absurd e.symm (h1.1 a ha1)
    · exact ih h1.2 ha1 hb1 e
theorem stW_alone (rs : List Rq) (zs : List Int) (l t : Int) (hn : NoDupId rs) (hl : 0 < l) : ∀ j, (stW (rs.filter fun e => e.tenant == t) zs l j).1 = (stW rs zs l j).1.filter (fun e => e.tenant == t) ∧ (stW (rs.filter fun e => e.tenant == t) zs l j).2 = (stW rs zs l j).2.filter (fun x => x.1.tenant == t)
  | 0 => ⟨rfl, rfl⟩
  | j + 1 => by
    obtain ⟨h1, h2⟩ := stW_alone rs zs l t hn hl j
    have hsub := (good rs zs l hl j).sub
    generalize hS : stW rs zs l j = S at h1 h2 hsub
    generalize hT : stW (rs.filter fun e => e.tenant == t) zs l j = T at h1 h2
    simp only [stW, hS, hT, h1]
    cases e : minF (ownerAt zs l (j * l)) (j * l) S.1 with
    | none =>
      have e2 : minF (ownerAt zs l (j * l)) (j * l) (S.1.filter fun e => e.tenant == t) = none := by
        by_cases ho : ownerAt zs l (j * l) = t
        · rw [minF_filter _ _ _ _ ho, e]
        · exact minF_none _ _ _ (fun r hr => by
            have := (List.mem_filter.1 hr).2; simp at this; rw [this]; exact fun e => ho e.symm)
      rw [e2]
      exact ⟨h1, h2⟩
    | some r =>
      have hc : r.tenant = ownerAt zs l (j * l) := by
        rcases minF_can _ _ S.1 none r e with h | ⟨_, h⟩
        · cases h
        · exact (canB_true.1 h).2.1
      by_cases ho : ownerAt zs l (j * l) = t
      · rw [minF_filter _ _ _ _ ho, e]
        refine ⟨filter_comm _ _ _, ?_⟩
        simp only [h2, List.filter_append]
        congr 1
        simp [hc, ho]
      · rw [minF_none _ _ _ (fun q hr => by
            have := (List.mem_filter.1 hr).2; simp at this; rw [this]; exact fun e => ho e.symm)]
        simp only
        refine ⟨?_, ?_⟩
        · rw [h1, filter_comm]
          refine (List.filter_eq_self.2 fun q hq => ?_).symm
          have hq' := List.mem_filter.1 hq
          have ht := hq'.2
          simp at ht
          simp
          intro hid
          have hr : r ∈ S.1 := by
            rcases minF_can _ _ S.1 none r e with h | ⟨h, _⟩
            · cases h
            · exact h
          have := nodup_eq hn (hsub q hq'.1) (hsub r hr) hid
          subst this
          exact ho (hc.symm.trans ht)
        · rw [h2, List.filter_append]; simp [hc, ho]
end Go.Proofs.Ytahfbhfmhccgoaa
