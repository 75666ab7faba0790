/- The log's two slots: one holds the version at hand, the other none or an older one. Plain lists, no program. -/
import Derived.Test.YtheifhjnbpbkhaaDoorErrP
import Derived.Test.YtheifhjnbpbkhaaDoorLog4
set_option linter.unusedSimpArgs false
set_option linter.unusedVariables false
namespace Go.Proofs.YtheifhjnbpbkhaaDoor
open Go.RowKit Go.ChangeShapes Go.WideShapes Go.ChangeAt Go.Joins Go.Deep
open Go.ChangeMaps (open_string shut_string)
/-- The log holds version n with the entries es. -/
def LogSt (ss : List ByteArray) (n : Int) (es : List En) : Prop :=
  encOk n es = true ∧ (∀ s ∈ ss, s.size ≤ 1048576) ∧ ∃ y : ByteArray, decN (dcdI (toL y)) < n ∧ (ss = [strOf (encB n es), y] ∨ ss = [y, strOf (encB n es)])
theorem toL_strOf (l : List UInt8) : toL (strOf l) = l := rfl
theorem logSt_best {ss : List ByteArray} {n : Int} {es : List En} (h : LogSt ss n es) :
    (bestOf ss = 0 ∧ ∃ y, decN (dcdI (toL y)) < n ∧ ss = [strOf (encB n es), y]) ∨ (bestOf ss = 1 ∧ ∃ y, decN (dcdI (toL y)) < n ∧ ss = [y, strOf (encB n es)]) := by
  obtain ⟨hok, _, y, hy, hss⟩ := h
  have hd : dcdI (toL (strOf (encB n es))) = some (n, es) := dcdI_enc hok
  have hn := (num_bd (encOk_parts hok).2).1
  rcases hss with rfl | rfl
  · refine .inl ⟨?_, y, hy, rfl⟩
    show (bStep (bStep (0, -1, 0) _) _).2.1 = 0
    have e1 : bStep (0, -1, 0) (strOf (encB n es)) = (1, 0, n) := by
      unfold bStep; rw [hd]; rw [if_pos ⟨rfl, by show (n : Int) > 0; omega⟩]; rfl
    rw [e1]; unfold bStep
    rw [if_neg (fun hh => by have := hh.2; simp only at this; omega)]
  · refine .inr ⟨?_, y, hy, rfl⟩
    show (bStep (bStep (0, -1, 0) _) _).2.1 = 1
    obtain ⟨b, m, e1, hm⟩ : ∃ b m, bStep (0, -1, 0) y = (1, b, m) ∧ m < n := by
      unfold bStep
      split
      · exact ⟨_, _, rfl, hy⟩
      · exact ⟨_, _, rfl, by show (0 : Int) < n; omega⟩
    rw [e1]; unfold bStep; rw [hd]; rw [if_pos ⟨rfl, by show (n : Int) > m; omega⟩]
theorem logSt_len {ss : List ByteArray} {n : Int} {es : List En} (h : LogSt ss n es) : ss.length = 2 := by
  obtain ⟨_, _, y, _, h1 | h1⟩ := h <;> rw [h1] <;> rfl
theorem logSt_read {ss : List ByteArray} {n : Int} {es : List En} (h : LogSt ss n es) : rdL ss = some (n, es) := by
  have hd : dcdI (toL (strOf (encB n es))) = some (n, es) := dcdI_enc h.1
  rcases logSt_best h with ⟨hb, y, _, rfl⟩ | ⟨hb, y, _, rfl⟩
  · exact (rdL_at (b := 0) hb rfl).trans hd
  · exact (rdL_at (b := 1) hb rfl).trans hd
theorem enc_is {n : Int} {es : List En} (h : encOk n es = true) : enc n es = encB n es := if_pos h
theorem encOk_of {n : Int} {es : List En} (h : errorsOkB es = true) (h0 : 1 ≤ n) (h1 : n ≤ 1000000000) : encOk n es = true := by
  unfold encOk; rw [h, Bool.true_and]; exact btw_mk h0 h1
theorem logSt_wrOk {ss : List ByteArray} {n : Int} {es list : List En} (h : LogSt ss n es) (hl : errorsOkB list = true) (hn : n ≤ 1000) : wrOk ss list = true := by
  have h1 := (num_bd (encOk_parts h.1).2).1
  unfold wrOk wrT
  rw [logSt_len h, logSt_read h]
  rw [show decN (some (n, es)) = n from rfl, enc_is (encOk_of hl (by omega) (by omega))]
  have h2 : 0 ≤ bestOf ss := by rcases logSt_best h with ⟨hb, _⟩ | ⟨hb, _⟩ <;> omega
  rw [decide_eq_true h2]
  cases h3 : encB (n + 1) list with
  | nil => exact absurd h3 (encB_ne _ _)
  | cons a b => rfl
theorem decN_cut {n : Int} {es : List En} {k : Nat} (hk : k < (encB n es).length) : decN (dcdI ((encB n es).take k)) = 0 := by rw [dcd_cut hk]; rfl
theorem strOf_sz (l : List UInt8) : (strOf l).size = l.length := by unfold strOf ByteArray.size; simp
theorem logSt_cut {ss : List ByteArray} {n bytes : Int} {es list : List En} (h : LogSt ss n es) (hl : errorsOkB list = true) (hn : n ≤ 1000) (h0 : 0 ≤ bytes) (h1 : bytes < ((encB (n + 1) list).length : Int)) : LogSt (wrL ss list bytes) n es := by
  have hw := logSt_wrOk h hl hn
  have hn1 := (num_bd (encOk_parts h.1).2).1
  have hok := encOk_of (n := n + 1) hl (by omega) (by omega)
  have hlen := (encB_len hok).1
  have hT : wrT ss list = encB (n + 1) list := by unfold wrT; rw [logSt_read h]; exact enc_is hok
  have hC : cutT (wrT ss list) bytes = (encB (n + 1) list).take bytes.toNat := by unfold cutT; rw [hT, if_pos ⟨h0, h1⟩]
  have hz : ∀ y, y = strOf ((encB (n + 1) list).take bytes.toNat) → decN (dcdI (toL y)) < n ∧ y.size ≤ 1048576 := fun y hy => by
    rw [hy, toL_strOf, decN_cut (by omega), strOf_sz, List.length_take]; exact ⟨by omega, by omega⟩
  have hW : wrL ss list bytes = ss.set (1 - bestOf ss).toNat (strOf (cutT (wrT ss list) bytes)) := if_pos hw
  rw [hC] at hW
  obtain ⟨z1, z2⟩ := hz _ rfl
  generalize strOf ((encB (n + 1) list).take bytes.toNat) = Y at hW z1 z2
  rw [hW]
  rcases logSt_best h with ⟨hb, y, hy, rfl⟩ | ⟨hb, y, hy, rfl⟩
  · rw [hb]
    refine ⟨h.1, fun s hs => ?_, Y, z1, .inl rfl⟩
    rcases List.mem_or_eq_of_mem_set hs with h3 | rfl
    · exact h.2.1 s h3
    · exact z2
  · rw [hb]
    refine ⟨h.1, fun s hs => ?_, Y, z1, .inr rfl⟩
    rcases List.mem_or_eq_of_mem_set hs with h3 | rfl
    · exact h.2.1 s h3
    · exact z2
theorem logSt_new {ss : List ByteArray} {n bytes : Int} {es list : List En} (h : LogSt ss n es) (hl : errorsOkB list = true) (hn : n ≤ 1000) (h1 : ¬ (0 ≤ bytes ∧ bytes < ((encB (n + 1) list).length : Int))) : LogSt (wrL ss list bytes) (n + 1) list := by
  have hw := logSt_wrOk h hl hn
  have hn1 := (num_bd (encOk_parts h.1).2).1
  have hok := encOk_of (n := n + 1) hl (by omega) (by omega)
  have hlen := (encB_len hok).1
  have hT : wrT ss list = encB (n + 1) list := by unfold wrT; rw [logSt_read h]; exact enc_is hok
  have hC : cutT (wrT ss list) bytes = encB (n + 1) list := by unfold cutT; rw [hT, if_neg h1]
  have hW : wrL ss list bytes = ss.set (1 - bestOf ss).toNat (strOf (cutT (wrT ss list) bytes)) := if_pos hw
  rw [hC] at hW
  have z2 : (strOf (encB (n + 1) list)).size ≤ 1048576 := by rw [strOf_sz]; omega
  have z3 : decN (dcdI (toL (strOf (encB n es)))) < n + 1 := by
    rw [show dcdI (toL (strOf (encB n es))) = some (n, es) from dcdI_enc h.1]; show (n : Int) < n + 1; omega
  rw [hW]
  rcases logSt_best h with ⟨hb, y, hy, rfl⟩ | ⟨hb, y, hy, rfl⟩
  · rw [hb]
    refine ⟨hok, fun s hs => ?_, _, z3, .inr rfl⟩
    rcases List.mem_or_eq_of_mem_set hs with h3 | rfl
    · exact h.2.1 s h3
    · exact z2
  · rw [hb]
    refine ⟨hok, fun s hs => ?_, _, z3, .inl rfl⟩
    rcases List.mem_or_eq_of_mem_set hs with h3 | rfl
    · exact h.2.1 s h3
    · exact z2
theorem logSt_zero : LogSt log0 1 [] := by
  have hok : encOk 1 [] = true := by decide
  have hlen := (encB_len hok).1
  unfold log0
  rw [enc_is hok]
  have hd : decN (dcdI (toL (strOf []))) = 0 := by
    cases h : dcdI (toL (strOf [])) with
    | none => rfl
    | some r => exact absurd (dcdI_some h).2 (encB_ne _ _)
  refine ⟨hok, fun s hs => ?_, strOf [], by omega, .inl rfl⟩
  rcases List.mem_cons.1 hs with rfl | hs
  · rw [strOf_sz]; omega
  · rw [List.mem_singleton.1 hs, strOf_sz]; simp
end Go.Proofs.YtheifhjnbpbkhaaDoor
