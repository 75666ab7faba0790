/- ErrorsOk of the program. -/
import Derived.Test.YtheifhjnbpbkhaaDoorErrors2
set_option linter.unusedSimpArgs false
set_option linter.unusedVariables false
namespace Go.Proofs.YtheifhjnbpbkhaaDoor
open Go.RowKit Go.ChangeShapes Go.WideShapes Go.ChangeAt Go.Joins Go.Deep
open Go.ChangeMaps (open_string shut_string)

theorem key_hit {es : List En} {line code : Int} {f : En} {k m : Nat} (hf : es[m]? = some f) (h : m < k) (hk : keyIs line code f = true) : ((es.take k).all fun f => !keyIs line code f) = false := by
  rw [List.all_eq_false]
  exact ⟨f, List.mem_of_getElem? (by rw [List.getElem?_take_of_lt h]; exact hf), by rw [hk]; simp⟩
theorem key_next {es : List En} {line code : Int} {f : En} {m : Nat} (h : ((es.take m).all fun f => !keyIs line code f) = true) (hf : es[m]? = some f) (hk : keyIs line code f = false) : ((es.take (m + 1)).all fun f => !keyIs line code f) = true := by
  rw [take_snoc hf, List.all_append, h, List.all_cons, hk]; rfl
set_option maxHeartbeats 1000000 in
theorem impl_ErrorsOk (a : Option Addr) (n c : Nat) (es : List En) (w : World) (ha : IsStructs enF 3 w a n c es) (hs : n ≤ 1048576) :
    Calls Tryd.prog 34 #[.slice a n c] w fun r w' => r = .returned (.bool (errorsOkB es)) ∧ Below w.heap.size w w' := by
  have HA := hide ha
  have hc := ha.2.1
  clear ha
  go_enter Tryd.func34, Tryd.ntmps34
  go_wp2
  go_loopw [9] (fun i wr => ∃ k : Nat, k ≤ n ∧ i = .int .i64 k ∧ Hid (errTo es k = true) ∧ Below w.heap.size w wr) (fun i _ => n - (intOf i).toNat)
  case atStart => exact ⟨0, by omega, rfl, hide rfl, Below.refl _ _⟩
  case round =>
    obtain ⟨k, hk, rfl, HT, hB⟩ := hrel
    by_cases hlt : k < n
    · obtain ⟨e, b1, o1, he, rfl, hlb, hcell⟩ := HA.out.get enF_len (by omega) hlt
      have e0 : wr.cell? ⟨b1, o1 + k * 3, none⟩ = some (.int .i64 e.line) := (hB.cell (p := ⟨b1, o1 + (k * 3 + 0), none⟩) hlb).trans (hcell 0 _ rfl)
      have e1 : wr.cell? ⟨b1, o1 + k * 3 + 1, none⟩ = some (.int .i64 e.code) := (hB.cell (p := ⟨b1, o1 + (k * 3 + 1), none⟩) hlb).trans (hcell 1 _ rfl)
      have e2 : wr.cell? ⟨b1, o1 + k * 3 + 2, none⟩ = some (.int .i64 e.times) := (hB.cell (p := ⟨b1, o1 + (k * 3 + 2), none⟩) hlb).trans (hcell 2 _ rfl)
      have HE := hide he
      have h1 : (0 : Int) ≤ (k : Int) := by omega
      have h2 : (k : Int) < (n : Int) := by omega
      have hs1 := hB.size
      have hl1 : b1 < wr.heap.size := by omega
      have HB := hide hB
      obtain ⟨wo, hwo⟩ : ∃ wo, wo = wr := ⟨_, rfl⟩
      subst hwo
      clear hcell he
      cases hb1 : btw e.line 0 1023
      · go_wp2_with (first | (go_at_call 40; refine (impl_between _ _ _ _).mono ?_; rintro e w1 ⟨rfl, rfl⟩))
        go_ret
        exact ⟨ret_bool (by rw [errTo_no HE.out (.inl (by unfold entryOk; rw [hb1]; rfl))]), by go_grown⟩
      · cases hb2 : btw e.times 1 999
        · by_cases hc1 : e.code = 1
          · go_wp2_with (first | (go_at_call 40; refine (impl_between _ _ _ _).mono ?_; rintro e w1 ⟨rfl, rfl⟩))
            go_ret
            exact ⟨ret_bool (by rw [errTo_no HE.out (.inl (by unfold entryOk; rw [hb2]; simp))]), by go_grown⟩
          · by_cases hc2 : e.code = 2
            all_goals go_wp2_with (first | (go_at_call 40; refine (impl_between _ _ _ _).mono ?_; rintro e w1 ⟨rfl, rfl⟩))
            all_goals go_ret
            all_goals exact ⟨ret_bool (by rw [errTo_no HE.out (.inl (by unfold entryOk; rw [hb2]; simp))]), by go_grown⟩
        · by_cases hc12 : e.code = 1 ∨ e.code = 2
          · have hok : entryOk e = true := by unfold entryOk; rw [hb1, hb2]; simpa using hc12
            have HC := hide hc12
            rcases hc12 with hc1 | hc2
            all_goals
              have h3 : (k : Int) ≤ (n : Int) := by omega
              go_wp2_with (first | (go_at_call 40; refine (impl_between _ _ _ _).mono ?_; rintro e w1 ⟨rfl, rfl⟩))
              go_loopw [38] (fun j wi => ∃ m : Nat, m ≤ k ∧ j = .int .i64 m ∧ Hid (((es.take m).all fun f => !keyIs e.line e.code f) = true) ∧ Below w.heap.size w wi ∧ wo.heap.size < wi.heap.size ∧ wi.cell? ⟨wo.heap.size, 0, none⟩ = some (.int .i64 e.line) ∧ wi.cell? ⟨wo.heap.size, 1, none⟩ = some (.int .i64 e.code)) (fun j _ => k - (intOf j).toNat)
              case atStart => exact ⟨0, by omega, rfl, hide (by simp), by go_grown, by simp, by simp [go_sem, *], by simp [go_sem, *]⟩
              case round =>
                obtain ⟨m, hm, rfl, HM, hB2, hs2, g0, g1⟩ := hrel
                by_cases hlt2 : m < k
                · obtain ⟨f, b2, o2, hf, hbo, hlb2, hcell⟩ := HA.out.get enF_len (by omega) (show m < n by omega)
                  obtain ⟨rfl, rfl⟩ : b1 = b2 ∧ o1 = o2 := by simpa using hbo
                  have f0 : wr.cell? ⟨b1, o1 + m * 3, none⟩ = some (.int .i64 f.line) := (hB2.cell (p := ⟨b1, o1 + (m * 3 + 0), none⟩) hlb2).trans (hcell 0 _ rfl)
                  have f1 : wr.cell? ⟨b1, o1 + m * 3 + 1, none⟩ = some (.int .i64 f.code) := (hB2.cell (p := ⟨b1, o1 + (m * 3 + 1), none⟩) hlb2).trans (hcell 1 _ rfl)
                  have f2 : wr.cell? ⟨b1, o1 + m * 3 + 2, none⟩ = some (.int .i64 f.times) := (hB2.cell (p := ⟨b1, o1 + (m * 3 + 2), none⟩) hlb2).trans (hcell 2 _ rfl)
                  have HF := hide hf
                  have h4 : (0 : Int) ≤ (m : Int) := by omega
                  have h5 : (m : Int) < (k : Int) := by omega
                  have hs3 := hB2.size
                  have hl2 : b1 < wr.heap.size := by omega
                  have HB2 := hide hB2
                  clear hcell hf
                  by_cases hk1 : e.line = f.line
                  · by_cases hk2 : e.code = f.code
                    · have HN := hide (errTo_no HE.out (.inr (key_hit HF.out hlt2 (by unfold keyIs; rw [hk1, hk2]; simp))))
                      go_wp2
                      go_ret
                      exact ⟨ret_bool (by rw [HN.out]), by go_grown⟩
                    · have HN := hide (key_next HM.out HF.out (by unfold keyIs; simp only [Bool.and_eq_false_iff, beq_eq_false_iff_ne]; exact .inr (Ne.symm hk2)))
                      go_wp2
                      go_roundw
                      case rel => exact ⟨m + 1, by omega, by go_num, HN, by go_grown, by simp; omega, by simp [go_sem, *], by simp [go_sem, *]⟩
                      case measure => simp [intOf]; omega
                  · have HN := hide (key_next HM.out HF.out (by unfold keyIs; simp only [Bool.and_eq_false_iff, beq_eq_false_iff_ne]; exact .inl (Ne.symm hk1)))
                    go_wp2
                    go_roundw
                    case rel => exact ⟨m + 1, by omega, by go_num, HN, by go_grown, by simp; omega, by simp [go_sem, *], by simp [go_sem, *]⟩
                    case measure => simp [intOf]; omega
                · have HN := hide (errTo_next HT.out HE.out hok (by rw [show k = m by omega]; exact HM.out))
                  go_wp2
                  go_roundw
                  case rel => exact ⟨k + 1, by omega, by go_num, HN, by go_grown⟩
                  case measure => simp [intOf]; omega
          · obtain ⟨hc1, hc2⟩ : ¬ e.code = 1 ∧ ¬ e.code = 2 := by omega
            go_wp2_with (first | (go_at_call 40; refine (impl_between _ _ _ _).mono ?_; rintro e w1 ⟨rfl, rfl⟩))
            go_ret
            exact ⟨ret_bool (by rw [errTo_no HE.out (.inl (by unfold entryOk; simp [hc1, hc2]))]), by go_grown⟩
    · go_wp2
      go_ret
      exact ⟨ret_bool (by unfold errorsOkB; rw [HA.out.1, show n = k by omega, HT.out, Bool.and_true]; exact (by simp only [decide_eq_decide]; omega)), hB⟩
theorem impl_ErrorsOk_is (a : Option Addr) (n c : Nat) (es : List En) (b : Bool) (h : errorsOkB es = b) (w : World) (ha : IsStructs enF 3 w a n c es) (hs : n ≤ 1048576) :
    Calls Tryd.prog 34 #[.slice a n c] w fun r w' => r = .returned (.bool b) ∧ Below w.heap.size w w' := by subst h; exact impl_ErrorsOk a n c es w ha hs
theorem spec_ErrorsOk_is (a : Option Addr) (n c : Nat) (es : List En) (b : Bool) (h : errorsOkB es = b) (w : World) (ha : IsStructs enF 3 w a n c es) (hs : n ≤ 1048576) :
    Calls Tryd.prog 35 #[.slice a n c] w fun r w' => r = .returned (.bool b) ∧ Below w.heap.size w w' := by subst h; exact spec_ErrorsOk a n c es w ha hs
end Go.Proofs.YtheifhjnbpbkhaaDoor
