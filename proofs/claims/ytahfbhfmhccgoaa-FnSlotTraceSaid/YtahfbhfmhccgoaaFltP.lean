/- A trace of the kinds 1 to 4 without faults, in plain Lean. -/
import Derived.Test.YtahfbhfmhccgoaaTrc5
set_option linter.unusedSimpArgs false
set_option linter.unusedVariables false
namespace Go.Proofs.Ytahfbhfmhccgoaa
open Go.RowKit Go.ChangeShapes Go.WideShapes Go.ChangeAt Go.Joins Go.Deep
open Go.ChangeMaps (open_string shut_string)
def bankG (t : Tm) (a b : Int) : Int :=
  if a = 1 then (if b = 1 then t.ras + t.rp else if b = 4 then t.ras else t.rcd)
  else if a = 2 then (if b = 1 then t.rtp + t.rp else if b = 4 then t.rtp else 0)
  else if a = 3 then (if b = 1 then t.wr + t.rp else if b = 4 then t.wr else 0)
  else (if b = 1 then t.rp else 0)
def rankG (t : Tm) (a b : Int) (near : Bool) : Int :=
  if a = 1 then (if b = 1 then (if near = true then t.rrdl else t.rrds) else 0)
  else if a = 2 then (if b = 2 then (if near = true then t.ccdl else t.ccds) else if b = 3 then t.rtw else 0)
  else if a = 3 then (if b = 3 then (if near = true then t.ccdl else t.ccds) else if b = 2 then (if near = true then t.wtrl else t.wtrs) else 0)
  else 0
def grpOf (g : Ge) (b : Int) : Int := b / g.bk
def gapG (g : Ge) (t : Tm) (f e : Ev) : Int :=
  if f.bank = e.bank then max (max 1 (rankG t f.kind e.kind (grpOf g f.bank == grpOf g e.bank))) (bankG t f.kind e.kind) else max 1 (rankG t f.kind e.kind (grpOf g f.bank == grpOf g e.bank))
def acts (P : List Ev) : List Int := (P.filter fun e => e.kind == 1).map Ev.tm
def bkTo (bs : List Bk) (e : Ev) : List Bk := if e.kind = 1 then bs.set e.bank.toNat ⟨true, e.row⟩ else if e.kind = 4 then bs.set e.bank.toNat ⟨false, 0⟩ else bs
def bkOf (nb : Nat) (P : List Ev) : List Bk := P.foldl bkTo (List.replicate nb ⟨false, 0⟩)
/-- A well-formed command of the kinds 1 to 4. -/
def CmdIs (nb rows cols k b r c : Int) : Prop := (0 ≤ b ∧ b < nb) ∧ ((k = 1 ∧ (0 ≤ r ∧ r < rows) ∧ c = 0) ∨ (k = 2 ∧ r = 0 ∧ 0 ≤ c ∧ c < cols) ∨ (k = 3 ∧ r = 0 ∧ 0 ≤ c ∧ c < cols) ∨ (k = 4 ∧ r = 0 ∧ c = 0))
/-- An event e may stand behind the events P. -/
structure FineP (g : Ge) (t : Tm) (nb : Nat) (P : List Ev) (e : Ev) : Prop where
  form : CmdIs nb g.rw g.cl e.kind e.bank e.row e.col
  lo : 0 ≤ e.tm
  hi : e.tm ≤ 1000000
  after : ∀ f, P.getLast? = some f → f.tm < e.tm
  opn : ∃ b, (bkOf nb P)[e.bank.toNat]? = some b ∧ b.opn = !(e.kind == 1)
  gap : ∀ f ∈ P, f.tm + gapG g t f e ≤ e.tm
  faw : e.kind = 1 → ∀ z, 4 ≤ (acts P).length → (acts P)[(acts P).length - 4]? = some z → z + t.faw ≤ e.tm
def CleanTr (g : Ge) (t : Tm) (nb : Nat) (L : List Ev) : Prop := ∀ k e, L[k]? = some e → FineP g t nb (L.take k) e
theorem clean_nil (g : Ge) (t : Tm) (nb : Nat) : CleanTr g t nb [] := fun k e h => by simp at h
theorem clean_snoc {g : Ge} {t : Tm} {nb : Nat} {L : List Ev} {e : Ev} (h : CleanTr g t nb L) (hf : FineP g t nb L e) : CleanTr g t nb (L ++ [e]) := by
  intro k f hk
  by_cases hlt : k < L.length
  · rw [List.getElem?_append_left hlt] at hk
    rw [List.take_append_of_le_length (by omega)]
    exact h k f hk
  · have hk2 : k = L.length := by
      have := (List.getElem?_eq_some_iff.1 hk).1
      simp at this; omega
    subst hk2
    rw [List.getElem?_append_right (Nat.le_refl _), Nat.sub_self] at hk
    simp at hk; subst hk
    rw [List.take_append_of_le_length (Nat.le_refl _), List.take_length]
    exact hf
theorem bkOf_snoc (nb : Nat) (P : List Ev) (e : Ev) : bkOf nb (P ++ [e]) = bkTo (bkOf nb P) e := by unfold bkOf; rw [List.foldl_append]; rfl
theorem bkTo_len (bs : List Bk) (e : Ev) : (bkTo bs e).length = bs.length := by
  unfold bkTo; split
  · simp
  · split <;> simp
theorem bkOf_len (nb : Nat) (P : List Ev) : (bkOf nb P).length = nb := by
  unfold bkOf
  suffices ∀ (Q : List Ev) (bs : List Bk), (Q.foldl bkTo bs).length = bs.length by rw [this]; simp
  intro Q
  induction Q with
  | nil => intro bs; rfl
  | cons e Q ih => intro bs; rw [List.foldl_cons, ih, bkTo_len]
/-- A bank of a rank: closed ones have row 0. -/
def BkOk (rows : Int) (b : Bk) : Prop := (0 ≤ b.row ∧ b.row < rows) ∧ (b.opn = false → b.row = 0)
theorem bkTo_ok {rows : Int} {nb : Int} {cols : Int} {bs : List Bk} {e : Ev} (hr : 0 < rows) (h : ∀ b ∈ bs, BkOk rows b) (hf : CmdIs nb rows cols e.kind e.bank e.row e.col) : ∀ b ∈ bkTo bs e, BkOk rows b := by
  intro b hb
  unfold bkTo at hb
  obtain ⟨_, hk⟩ := hf
  split at hb
  · next h1 =>
    rcases List.mem_or_eq_of_mem_set hb with hb | hb
    · exact h b hb
    · subst hb
      rcases hk with ⟨_, hr2, _⟩ | ⟨h2, _⟩ | ⟨h2, _⟩ | ⟨h2, _⟩
      · exact ⟨hr2, fun h => by cases h⟩
      all_goals omega
  · split at hb
    · rcases List.mem_or_eq_of_mem_set hb with hb | hb
      · exact h b hb
      · subst hb; exact ⟨⟨by simp, hr⟩, fun _ => rfl⟩
    · exact h b hb
theorem clean_banks {g : Ge} {t : Tm} {nb : Nat} {L : List Ev} (hr : 0 < g.rw) (h : CleanTr g t nb L) : ∀ k, k ≤ L.length → ∀ b ∈ bkOf nb (L.take k), BkOk g.rw b
  | 0, _ => fun b hb => by
    rw [List.take_zero] at hb
    unfold bkOf at hb
    rw [List.foldl_nil] at hb
    rw [(List.mem_replicate.1 hb).2]
    exact ⟨⟨by simp, hr⟩, fun _ => rfl⟩
  | k + 1, hk => by
    have he : L[k]? = some (L[k]'(by omega)) := List.getElem?_eq_getElem _
    rw [take_snoc he, bkOf_snoc]
    exact bkTo_ok hr (clean_banks hr h k (by omega)) (h k _ he).form
theorem acts_snoc (P : List Ev) (e : Ev) : acts (P ++ [e]) = if e.kind = 1 then acts P ++ [e.tm] else acts P := by
  unfold acts
  rw [List.filter_append, List.map_append]
  by_cases h : e.kind = 1
  · simp [h]
  · simp [h]
end Go.Proofs.Ytahfbhfmhccgoaa
