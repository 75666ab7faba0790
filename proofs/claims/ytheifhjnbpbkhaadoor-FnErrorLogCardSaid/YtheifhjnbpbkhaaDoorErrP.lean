/- Adding to an error list keeps it valid; a truncated text holds no version. Plain lists, no program. -/
import Derived.Test.YtheifhjnbpbkhaaDoorEncP
import Derived.Test.YtheifhjnbpbkhaaDoorErrAdd
set_option linter.unusedSimpArgs false
set_option linter.unusedVariables false
namespace Go.Proofs.YtheifhjnbpbkhaaDoor
open Go.RowKit Go.ChangeShapes Go.WideShapes Go.ChangeAt Go.Joins Go.Deep
open Go.ChangeMaps (open_string shut_string)
def OkP (es : List En) : Prop := es.length ≤ 6 ∧ (∀ e ∈ es, entryOk e = true) ∧ ∀ (i j : Nat) (f e : En), i < j → es[i]? = some f → es[j]? = some e → keyIs e.line e.code f = false
theorem okP_of {es : List En} (h : errorsOkB es = true) : OkP es := by
  have hl : es.length ≤ 6 := by unfold errorsOkB at h; simp only [Bool.and_eq_true, decide_eq_true_eq] at h; exact h.1
  have ht : errTo es es.length = true := by unfold errorsOkB at h; simp only [Bool.and_eq_true] at h; exact h.2
  unfold errTo at ht
  rw [List.all_eq_true] at ht
  have at' : ∀ j e, es[j]? = some e → entryOk e = true ∧ ((es.take j).all fun f => !keyIs e.line e.code f) = true := fun j e he => by
    have := ht j (List.mem_range.2 (List.getElem?_eq_some_iff.1 he).1)
    rw [he] at this
    simpa using this
  refine ⟨hl, fun e he => ?_, fun i j f e hij hf he => ?_⟩
  · obtain ⟨j, hj⟩ := List.getElem?_of_mem he
    exact (at' j e hj).1
  · have h2 := List.all_eq_true.1 (at' j e he).2 f (List.mem_of_getElem? (i := i) (by rw [List.getElem?_take, if_pos hij]; exact hf))
    simpa using h2
theorem okP_to {es : List En} (h : OkP es) : errorsOkB es = true := by
  unfold errorsOkB errTo
  have hl : es.length ≤ 6 := h.1
  rw [decide_eq_true hl, Bool.true_and, List.all_eq_true]
  intro j hj
  obtain ⟨e, he⟩ : ∃ e, es[j]? = some e := ⟨_, List.getElem?_eq_getElem (List.mem_range.1 hj)⟩
  rw [he]
  simp only [Bool.and_eq_true]
  refine ⟨h.2.1 e (List.mem_of_getElem? he), List.all_eq_true.2 fun f hf => ?_⟩
  obtain ⟨i, hi⟩ := List.getElem?_of_mem hf
  rw [List.getElem?_take] at hi
  split at hi
  · next hlt => rw [h.2.2 i j f e hlt hi he]; rfl
  · cases hi
theorem errFrom_none {line code : Int} : ∀ (es : List En) (i : Int), 0 ≤ i → errFrom line code es i = -1 → ∀ e ∈ es, keyIs line code e = false
  | [], _, _, _ => fun e he => by cases he
  | a :: es, i, hi, h => fun e he => by
    by_cases hp : keyIs line code a = true
    · have : errFrom line code (a :: es) i = i := if_pos hp
      omega
    · have h2 : errFrom line code (a :: es) i = errFrom line code es (i + 1) := if_neg hp
      rcases List.mem_cons.1 he with rfl | he
      · simpa using hp
      · exact errFrom_none es (i + 1) (by omega) (by rw [← h2]; exact h) e he
theorem okP_app {es : List En} {e : En} (h : OkP es) (hl : es.length < 6) (he : entryOk e = true) (hk : ∀ f ∈ es, keyIs e.line e.code f = false) : OkP (es ++ [e]) := by
  refine ⟨by rw [List.length_append]; simp; omega, fun x hx => ?_, fun i j f x hij hf hx => ?_⟩
  · rcases List.mem_append.1 hx with hx | hx
    · exact h.2.1 x hx
    · rw [List.mem_singleton.1 hx]; exact he
  · have hjl := (List.getElem?_eq_some_iff.1 hx).1
    rw [List.length_append] at hjl
    simp only [List.length_cons, List.length_nil] at hjl
    have hfi : es[i]? = some f := by rwa [List.getElem?_append_left (by omega)] at hf
    by_cases hj : j < es.length
    · rw [List.getElem?_append_left hj] at hx
      exact h.2.2 i j f x hij hfi hx
    · rw [List.getElem?_append_right (by omega), show j - es.length = 0 by omega] at hx
      obtain rfl : e = x := by simpa using hx
      exact hk f (List.mem_of_getElem? hfi)
theorem okP_drop {es : List En} (h : OkP es) : OkP (es.drop 1) :=
  ⟨by rw [List.length_drop]; have := h.1; omega, fun e he => h.2.1 e (List.mem_of_mem_drop he), fun i j f e hij hf he => by
    rw [List.getElem?_drop] at hf he
    exact h.2.2 (1 + i) (1 + j) f e (by omega) hf he⟩
theorem okP_set {es : List En} {m : Nat} {f g : En} (h : OkP es) (hf : es[m]? = some f) (hg : entryOk g = true) (h1 : g.line = f.line) (h2 : g.code = f.code) : OkP (es.set m g) := by
  have key : ∀ (i : Nat) (x : En), (es.set m g)[i]? = some x → ∃ y : En, es[i]? = some y ∧ x.line = y.line ∧ x.code = y.code := fun i x hx => by
    by_cases hi : m = i
    · subst hi
      rw [List.getElem?_set_self (List.getElem?_eq_some_iff.1 hf).1] at hx
      obtain rfl := Option.some.inj hx
      exact ⟨f, hf, h1, h2⟩
    · rw [List.getElem?_set_ne hi] at hx
      exact ⟨x, hx, rfl, rfl⟩
  refine ⟨by rw [List.length_set]; exact h.1, fun e he => ?_, fun i j x e hij hx he => ?_⟩
  · rcases List.mem_or_eq_of_mem_set he with h3 | rfl
    · exact h.2.1 e h3
    · exact hg
  · obtain ⟨x', hx', a1, a2⟩ := key i x hx
    obtain ⟨e', he', b1, b2⟩ := key j e he
    have := h.2.2 i j x' e' hij hx' he'
    unfold keyIs at *
    rw [a1, a2, b1, b2]; exact this
theorem addL_ok {es : List En} {line code : Int} (h : errorsOkB es = true) : errorsOkB (addL es line code) = true := by
  cases hk : addOk es line code with
  | false => rw [addL_no hk]; exact h
  | true =>
    have hP := okP_of h
    have hnew : entryOk (newEn line code) = true := by unfold addOk at hk; rw [Bool.and_eq_true] at hk; exact hk.2
    by_cases hpos : 0 ≤ errAt es line code
    · obtain ⟨m, f, hm, hf⟩ := errAt_nat hpos
      rw [addL_hit hk hm hf]
      refine okP_to (okP_set hP hf ?_ rfl rfl)
      have hfo := hP.2.1 f (List.mem_of_getElem? hf)
      obtain ⟨a, b, c⟩ := entry_bd hfo
      unfold entryOk bumped at *
      simp only [Bool.and_eq_true] at hfo ⊢
      exact ⟨hfo.1, hfo.2.1, btw_mk (by omega) (by omega)⟩
    · have hm := errAt_neg hpos
      have hno : ∀ f ∈ es, keyIs line code f = false := errFrom_none es 0 (by omega) hm
      by_cases hl : es.length = 6
      · rw [addL_full hk hm hl]
        exact okP_to (okP_app (okP_drop hP) (by rw [List.length_drop]; omega) hnew (fun f hf => hno f (List.mem_of_mem_drop hf)))
      · rw [addL_new hk hm (by have := hP.1; omega)]
        exact okP_to (okP_app hP (by have := hP.1; omega) hnew hno)
theorem addOk_in {es : List En} {line code : Int} (h : errorsOkB es = true) (h1 : 0 ≤ line) (h2 : line ≤ 1023) (h3 : 1 ≤ code) (h4 : code ≤ 2) : addOk es line code = true := by
  unfold addOk newEn entryOk
  rw [h, Bool.true_and]
  simp only [Bool.and_eq_true, Bool.or_eq_true, beq_iff_eq]
  exact ⟨btw_mk h1 h2, by omega, by decide⟩
/-! ### A truncated text -/
theorem ent_no59 (e : En) : (59 : UInt8) ∉ ent e := by
  unfold ent
  simp only [List.mem_append, List.mem_cons, not_or]
  exact ⟨dec_not _ (by decide), by decide, dec_not _ (by decide), by decide, dec_not _ (by decide)⟩
theorem ents_no59 (es : List En) : (59 : UInt8) ∉ ents es := by
  induction es with
  | nil => simp [ents]
  | cons e es ih =>
    simp only [ents, List.mem_cons, List.mem_append, not_or]
    exact ⟨by decide, ent_no59 e, ih⟩
theorem encB_front (n : Int) (es : List En) : ∃ x : List UInt8, encB n es = x ++ [59] ∧ (59 : UInt8) ∉ x := by
  refine ⟨bodyB n es ++ decI ((sumB (bodyB n es) % 9973 : Nat) : Int), by unfold encB; rw [List.append_assoc], ?_⟩
  unfold bodyB
  simp only [List.mem_append, List.mem_singleton, not_or]
  exact ⟨⟨dec_not _ (by decide), ents_no59 es, by decide⟩, dec_not _ (by decide)⟩
theorem dcd_cut {n : Int} {es : List En} {k : Nat} (hk : k < (encB n es).length) : dcdI ((encB n es).take k) = none := by
  cases h : dcdI ((encB n es).take k) with
  | none => rfl
  | some r =>
    obtain ⟨n', es'⟩ := r
    obtain ⟨_, h2⟩ := dcdI_some h
    obtain ⟨x, hx, hx2⟩ := encB_front n es
    obtain ⟨y, hy, _⟩ := encB_front n' es'
    rw [hx, List.length_append] at hk
    simp only [List.length_cons, List.length_nil] at hk
    rw [hx, List.take_append_of_le_length (by omega)] at h2
    exfalso
    apply hx2
    apply List.mem_of_mem_take (i := k)
    rw [← h2, hy]; simp
end Go.Proofs.YtheifhjnbpbkhaaDoor
