/- A drawn region whose last operation writes what the region's loads read: the condition S on the world is wanted behind every operation but that last one, which waits for all loads that are taken first. -/
import Derived.Deep.RegionHeld
set_option linter.unusedSimpArgs false
set_option linter.unusedVariables false
namespace Go.Proofs.YtheifhjnbpbkhaaDoor
section
variable {P : Program} {ops : Array Oper} {Q : Exit → Act → World → Prop} {md : Region.Mode} {S : World → Prop} {L : Nat}

/-- Operation j waits for operation i, over at most so many edges. -/
def waitsFor (md : Region.Mode) (ops : Array Oper) (i : Nat) : Nat → Nat → Bool
  | 0, _ => false
  | f + 1, j => match ops[j]? with
    | some o => o.after.any fun e => Region.binds md e && (e.on == i || waitsFor md ops i f e.on)
    | none => false

/-- L waits for i, and none of those that wait for i has come up. -/
def heldUp (md : Region.Mode) (ops : Array Oper) (listed : Array Bool) (i k L : Nat) : Bool :=
  waitsFor md ops i k L && (List.range ops.size).all fun j => !waitsFor md ops i k j || !listed.getD j true

theorem waitsFor_succ {i : Nat} : ∀ (f j : Nat), waitsFor md ops i f j = true → waitsFor md ops i (f + 1) j = true
  | 0, _, h => by cases h
  | f + 1, j, h => by
    unfold waitsFor at h ⊢
    cases ho : ops[j]? with
    | none => rw [ho] at h; cases h
    | some o =>
      rw [ho] at h
      simp only at h ⊢
      obtain ⟨e, he, hb⟩ := Array.any_eq_true'.1 h
      refine Array.any_eq_true'.2 ⟨e, he, ?_⟩
      simp only [Bool.and_eq_true, Bool.or_eq_true] at hb ⊢
      exact ⟨hb.1, hb.2.imp id (waitsFor_succ f e.on)⟩

theorem waitsFor_in {i f j : Nat} (h : waitsFor md ops i f j = true) : j < ops.size := by
  cases f with
  | zero => cases h
  | succ f =>
    unfold waitsFor at h
    cases ho : ops[j]? with
    | none => rw [ho] at h; cases h
    | some o => exact (Array.getElem?_eq_some_iff.1 ho).1

/-- Who waits for i is not ready while i has not come up. -/
theorem waits_not_ready {i k j : Nat} {listed : Array Bool} (hi : listed.getD i true = false)
    (hall : ∀ j, waitsFor md ops i k j = true → listed.getD j true = false) (hw : waitsFor md ops i k j = true) : j ∉ Region.ready md ops listed := by
  intro hj
  obtain ⟨_, oj, hoj, hdone⟩ := mem_ready.1 hj
  have off : ∀ x : Nat, listed.getD x true = false → listed.getD x false = true → False := fun x h0 h1 => by
    rcases Nat.lt_or_ge x listed.size with h' | h'
    · simp [h'] at h0 h1; rw [h0] at h1; cases h1
    · simp [Array.getElem?_eq_none h'] at h1
  cases k with
  | zero => cases hw
  | succ k =>
    have hw' := hw
    unfold waitsFor at hw
    rw [hoj] at hw
    simp only at hw
    obtain ⟨e, he, hb⟩ := Array.any_eq_true'.1 hw
    simp only [Bool.and_eq_true, Bool.or_eq_true, beq_iff_eq] at hb
    rcases hb.2 with hb2 | hb2
    · exact off i hi (by rw [← hb2]; exact hdone e he hb.1)
    · exact off e.on (hall _ (waitsFor_succ k _ hb2)) (hdone e he hb.1)

/-- Whatever order is picked from here on, and S holds behind every operation but L that is carried out. -/
def wpAnyK (P : Program) (md : Region.Mode) (ops : Array Oper) (Q : Exit → Act → World → Prop) (S : World → Prop) (L : Nat) : Nat → Array Bool → Act → World → Prop
  | 0, listed, a, w => Region.ready md ops listed = [] ∧ Q .normal a w
  | fuel + 1, listed, a, w =>
    (Region.ready md ops listed = [] → Q .normal a w) ∧
    ∀ i ∈ Region.ready md ops listed, wpOp P ops Q i (fun a' w' => (i = L ∨ S w') ∧ wpAnyK P md ops Q S L fuel (listed.setIfInBounds i true) a' w') a w

theorem wpAny_of_heldK : ∀ (fuel : Nat) (listed : Array Bool) (a : Act) (w : World), wpAnyK P md ops Q S L fuel listed a w → wpAny P md ops Q fuel listed a w
  | 0, _, _, _, h => h
  | fuel + 1, _, _, _, h => ⟨h.1, fun i hi => wpOp_mono (fun a' w' h' => wpAny_of_heldK fuel _ a' w' h'.2) (h.2 i hi)⟩

theorem wpAnyK_first {i k : Nat} {oi : Oper} {v : Value} (hi : ops[i]? = some oi) (hsel : ∀ (j : Nat) (o : Oper) cs b, ops[j]? = some o → o.op ≠ .select cs b)
    (hQ : ∀ c a w, Q (.panic c) (a.put oi.dst v) w → Q (.panic c) a w) (hLw : waitsFor md ops i k L = true) :
    ∀ (fuel : Nat) (listed : Array Bool) (a : Act) (w : World),
      (∀ j, waitsFor md ops i k j = true → listed.getD j true = false) →
      (∀ j oj, ops[j]? = some oj → j ≠ i → listed.getD j true = false → (∀ e ∈ oj.after, Region.binds md e = true → e.on ≠ i) → oi.apart ops oj = true) →
      i ∈ Region.ready md ops listed → YieldsIf P ops S oi v a → S w →
      wpAnyK P md ops Q S L fuel (listed.setIfInBounds i true) (a.put oi.dst v) w → wpAnyK P md ops Q S L (fuel + 1) listed a w := by
  intro fuel
  induction fuel with
  | zero =>
    intro listed a w _ _ hr hy hS H
    refine ⟨fun h => (by rw [h] at hr; cases hr), fun j hj => ?_⟩
    by_cases hji : j = i
    · subst hji; exact hy.wpOp hi hS ⟨.inr hS, H⟩
    · have := ready_mono hj hji
      rw [H.1] at this
      cases this
  | succ fuel ih =>
    intro listed a w hwait hfree hr hy hS H
    refine ⟨fun h => (by rw [h] at hr; cases hr), fun j hj => ?_⟩
    by_cases hji : j = i
    · subst hji; exact hy.wpOp hi hS ⟨.inr hS, H⟩
    · have h1 := H.2 j (ready_mono hj hji)
      obtain ⟨hjun, oj, hoj, hall⟩ := mem_ready.1 hj
      have hiun := (mem_ready.1 hr).1
      have hjL : j ≠ L := fun e => waits_not_ready hiun hwait hLw (e ▸ hj)
      have hnot : ∀ e ∈ oj.after, Region.binds md e = true → e.on ≠ i := fun e he hb heq => by
        have h1 := hall e he hb
        have h0 := (mem_ready.1 hr).1
        rw [heq] at h1
        rcases Nat.lt_or_ge i listed.size with h' | h'
        · simp [h'] at h0 h1; rw [h0] at h1; cases h1
        · simp [Array.getElem?_eq_none h'] at h1
      have h2 := wpOp_putIf hoj (hfree j oj hoj hji hjun hnot) (fun cs b => hsel i oi cs b hi) (fun cs b => hsel j oj cs b hoj) hQ hy h1
      have hfree' : ∀ k ok, ops[k]? = some ok → k ≠ i → (listed.setIfInBounds j true).getD k true = false →
          (∀ e ∈ ok.after, Region.binds md e = true → e.on ≠ i) → oi.apart ops ok = true := fun k ok hk hki hun hno => by
        refine hfree k ok hk hki ?_ hno
        by_cases hjk : j = k
        · subst hjk; exact hjun
        · rw [getD_set_ne true hjk] at hun; exact hun
      have hwait' : ∀ x, waitsFor md ops i k x = true → (listed.setIfInBounds j true).getD x true = false := fun x hx => by
        have hjx : j ≠ x := fun e => waits_not_ready hiun hwait hx (e ▸ hj)
        rw [getD_set_ne true hjx]; exact hwait x hx
      refine wpOp_mono (fun a' w' h3 => ?_) h2
      have hS' : S w' := h3.2.1.resolve_left hjL
      refine ⟨.inr hS', ih (listed.setIfInBounds j true) a' w' hwait' hfree' (ready_mono hr (Ne.symm hji)) h3.1 hS' ?_⟩
      rw [Array.setIfInBounds_comm _ _ hji]
      exact h3.2.2

theorem wpAnyK_take {i : Nat} (k : Nat) {oi : Oper} {v : Value} {fuel : Nat} {listed : Array Bool} {a : Act} {w : World} (hi : ops[i]? = some oi)
    (hs : Region.noSelect ops = true) (hf : Region.free md ops listed i = true) (hr : (Region.ready md ops listed).contains i = true) (hu : heldUp md ops listed i k L = true)
    (hQ : ∀ c a w, Q (.panic c) (a.put oi.dst v) w → Q (.panic c) a w) (hy : YieldsIf P ops S oi v a) (hS : S w)
    (h : wpAnyK P md ops Q S L fuel (listed.setIfInBounds i true) (a.put oi.dst v) w) : wpAnyK P md ops Q S L (fuel + 1) listed a w := by
  simp only [heldUp, Bool.and_eq_true, List.all_eq_true, List.mem_range, Bool.or_eq_true, Bool.not_eq_true'] at hu
  refine wpAnyK_first (k := k) hi (Region.noSelect_spec hs) hQ hu.1 fuel listed a w (fun j hj => ?_) (Region.free_spec hi hf) (by simpa using hr) hy hS h
  rcases hu.2 j (waitsFor_in hj) with h' | h'
  · rw [hj] at h'; cases h'
  · exact h'

theorem wpAnyK_all {rs : List Nat} {fuel : Nat} {listed : Array Bool} {a : Act} {w : World} (hr : Region.ready md ops listed = rs) (hne : rs ≠ [])
    (h : ∀ i ∈ rs, wpOp P ops Q i (fun a' w' => (i = L ∨ S w') ∧ wpAnyK P md ops Q S L fuel (listed.setIfInBounds i true) a' w') a w) : wpAnyK P md ops Q S L (fuel + 1) listed a w :=
  ⟨fun h0 => absurd (hr ▸ h0) hne, hr ▸ h⟩

theorem wpAnyK_done {listed : Array Bool} {a : Act} {w : World} (hr : Region.ready md ops listed = []) (h : Q .normal a w) :
    ∀ fuel, wpAnyK P md ops Q S L fuel listed a w
  | 0 => ⟨hr, h⟩
  | _ + 1 => ⟨fun _ => h, by rw [hr]; simp⟩

/-- One operation only may come up next. -/
theorem wpAnyK_one {i : Nat} {o : Oper} {fuel : Nat} {listed : Array Bool} {a : Act} {w : World} (hr : Region.ready md ops listed = [i]) (ho : ops[i]? = some o)
    (h : ∀ K' : Act → World → Prop, Shut (∀ a w, (i = L ∨ S w) → ((i = L ∨ S w) → wpAnyK P md ops Q S L fuel (listed.setIfInBounds i true) a w) → K' a w) → if Region.wanted o (yielded ops a.tmps) = true then Oper.wp P o a w K' Q else K' (a.put o.dst undef) w) :
    wpAnyK P md ops Q S L (fuel + 1) listed a w := by
  refine wpAnyK_all hr (by simp) fun j hj => ?_
  obtain rfl : j = i := by simpa using hj
  exact wpOp_step ho (fun K' hK => h K' (fun a w hS hW => hK a w ⟨hS, hW hS⟩))

theorem wp_region_last {id : Nat} {a : Act} {w : World} (S : World → Prop) (L : Nat) (hm : P.follows .mixedOrders = true) (hS : S w.drew)
    (h : S w.drew → wpAnyK P .any ops Q S L ops.size (Array.replicate ops.size false) a w.drew) : (Code.region id ops true).wp P Q a w :=
  wp_region_any hm (wpAny_of_heldK _ _ _ _ (h hS))
end
end Go.Proofs.YtheifhjnbpbkhaaDoor
