/- The queue of requests of the reference, as far as a draw needs it: it returns some list, with some answer. -/
import Derived.Test.YtahfbhfmhccgoaaServe1
import Derived.Test.YtahfbhfmhccgoaaDrawGeo
set_option linter.unusedSimpArgs false
set_option linter.unusedVariables false
namespace Go.Proofs.Ytahfbhfmhccgoaa
open Go.RowKit Go.ChangeShapes Go.WideShapes Go.ChangeAt Go.Joins Go.Deep
open Go.ChangeMaps (open_string shut_string)
def SomeBool (w : World) (e : Ending) (w' : World) : Prop := ∃ b : Bool, e = .returned (.bool b) ∧ Below w.heap.size w w'
set_option maxHeartbeats 800000 in
theorem spec_IsWord (x : Int) (w : World) : Calls Try.prog 160 #[.int .i64 x] w fun e w' => e = .returned (.bool (btw x 0 4294967295)) ∧ w = w' := by
  go_enter Try.func160, Try.ntmps160
  go_wp2_with (first | (go_at_call 78; refine (spec_l01In _ _ _ _).mono ?_; rintro e w1 ⟨rfl, rfl⟩))
  go_ret
  exact ⟨rfl, rfl⟩
def rqOkB (lines : Int) (r : Rq) : Bool := btw r.id 1 100000 && (btw r.tenant 0 3 && (decide (0 ≤ r.line) && (decide (r.line < lines) && (btw r.data 0 4294967295 && ((r.write || r.data == 0) && btw r.tm 0 1000000)))))
set_option maxHeartbeats 2000000 in
theorem spec_RequestOk (lines : Int) (r : Rq) (w : World) :
    Calls Try.prog 159 #[.int .i64 lines, .agg #[.int .i64 r.id, .int .i64 r.tenant, .int .i64 r.line, .bool r.write, .int .i64 r.data, .int .i64 r.tm]] w fun e w' => e = .returned (.bool (rqOkB lines r)) ∧ Below w.heap.size w w' := by
  cases q0 : btw r.id 1 100000
  · skip
    have HV := hide (show rqOkB lines r = false by unfold rqOkB; simp [q0])
    go_enter Try.func159, Try.ntmps159
    go_wp2_with (first | (go_at_call 78; refine (spec_l01In _ _ _ _).mono ?_; rintro e w1 ⟨rfl, rfl⟩) | (go_at_call 160; refine (spec_IsWord _ _).mono ?_; rintro e w1 ⟨rfl, rfl⟩))
    go_ret
    exact ⟨ret_bool HV.out.symm, by go_grown⟩
  · skip
    cases q1 : btw r.tenant 0 3
    · skip
      have HV := hide (show rqOkB lines r = false by unfold rqOkB; simp [q0, q1])
      go_enter Try.func159, Try.ntmps159
      go_wp2_with (first | (go_at_call 78; refine (spec_l01In _ _ _ _).mono ?_; rintro e w1 ⟨rfl, rfl⟩) | (go_at_call 160; refine (spec_IsWord _ _).mono ?_; rintro e w1 ⟨rfl, rfl⟩))
      go_ret
      exact ⟨ret_bool HV.out.symm, by go_grown⟩
    · skip
      rcases Classical.em (0 ≤ r.line) with q2 | q2
      rotate_left
      · skip
        have HV := hide (show rqOkB lines r = false by unfold rqOkB; simp [q0, q1, q2])
        go_enter Try.func159, Try.ntmps159
        go_wp2_with (first | (go_at_call 78; refine (spec_l01In _ _ _ _).mono ?_; rintro e w1 ⟨rfl, rfl⟩) | (go_at_call 160; refine (spec_IsWord _ _).mono ?_; rintro e w1 ⟨rfl, rfl⟩))
        go_ret
        exact ⟨ret_bool HV.out.symm, by go_grown⟩
      · skip
        rcases Classical.em (r.line < lines) with q3 | q3
        rotate_left
        · skip
          have HV := hide (show rqOkB lines r = false by unfold rqOkB; simp [q0, q1, q2, q3])
          go_enter Try.func159, Try.ntmps159
          go_wp2_with (first | (go_at_call 78; refine (spec_l01In _ _ _ _).mono ?_; rintro e w1 ⟨rfl, rfl⟩) | (go_at_call 160; refine (spec_IsWord _ _).mono ?_; rintro e w1 ⟨rfl, rfl⟩))
          go_ret
          exact ⟨ret_bool HV.out.symm, by go_grown⟩
        · skip
          cases q4 : btw r.data 0 4294967295
          · skip
            have HV := hide (show rqOkB lines r = false by unfold rqOkB; simp [q0, q1, q2, q3, q4])
            go_enter Try.func159, Try.ntmps159
            go_wp2_with (first | (go_at_call 78; refine (spec_l01In _ _ _ _).mono ?_; rintro e w1 ⟨rfl, rfl⟩) | (go_at_call 160; refine (spec_IsWord _ _).mono ?_; rintro e w1 ⟨rfl, rfl⟩))
            go_ret
            exact ⟨ret_bool HV.out.symm, by go_grown⟩
          · skip
            cases q5 : r.write
            · rcases Classical.em (r.data = 0) with q6 | q6
              rotate_left
              · have q7 : (r.data == 0) = false := by simpa using q6
                have HV := hide (show rqOkB lines r = false by unfold rqOkB; simp [q0, q1, q2, q3, q4, q5, q6])
                go_enter Try.func159, Try.ntmps159
                go_wp2_with (first | (go_at_call 78; refine (spec_l01In _ _ _ _).mono ?_; rintro e w1 ⟨rfl, rfl⟩) | (go_at_call 160; refine (spec_IsWord _ _).mono ?_; rintro e w1 ⟨rfl, rfl⟩))
                go_ret
                exact ⟨ret_bool HV.out.symm, by go_grown⟩
              · have q7 : (r.data == 0) = true := by simpa using q6
                have q6h := hide q6; clear q6
                cases q8 : btw r.tm 0 1000000
                · skip
                  have HV := hide (show rqOkB lines r = false by unfold rqOkB; simp [q0, q1, q2, q3, q4, q5, q7, q8])
                  go_enter Try.func159, Try.ntmps159
                  go_wp2_with (first | (go_at_call 78; refine (spec_l01In _ _ _ _).mono ?_; rintro e w1 ⟨rfl, rfl⟩) | (go_at_call 160; refine (spec_IsWord _ _).mono ?_; rintro e w1 ⟨rfl, rfl⟩))
                  go_ret
                  exact ⟨ret_bool HV.out.symm, by go_grown⟩
                · skip
                  have HV := hide (show rqOkB lines r = true by unfold rqOkB; simp [q0, q1, q2, q3, q4, q5, q7, q8])
                  go_enter Try.func159, Try.ntmps159
                  go_wp2_with (first | (go_at_call 78; refine (spec_l01In _ _ _ _).mono ?_; rintro e w1 ⟨rfl, rfl⟩) | (go_at_call 160; refine (spec_IsWord _ _).mono ?_; rintro e w1 ⟨rfl, rfl⟩))
                  go_ret
                  exact ⟨ret_bool HV.out.symm, by go_grown⟩
            · skip
              cases q8 : btw r.tm 0 1000000
              · skip
                have HV := hide (show rqOkB lines r = false by unfold rqOkB; simp [q0, q1, q2, q3, q4, q5, q8])
                go_enter Try.func159, Try.ntmps159
                go_wp2_with (first | (go_at_call 78; refine (spec_l01In _ _ _ _).mono ?_; rintro e w1 ⟨rfl, rfl⟩) | (go_at_call 160; refine (spec_IsWord _ _).mono ?_; rintro e w1 ⟨rfl, rfl⟩))
                go_ret
                exact ⟨ret_bool HV.out.symm, by go_grown⟩
              · skip
                have HV := hide (show rqOkB lines r = true by unfold rqOkB; simp [q0, q1, q2, q3, q4, q5, q8])
                go_enter Try.func159, Try.ntmps159
                go_wp2_with (first | (go_at_call 78; refine (spec_l01In _ _ _ _).mono ?_; rintro e w1 ⟨rfl, rfl⟩) | (go_at_call 160; refine (spec_IsWord _ _).mono ?_; rintro e w1 ⟨rfl, rfl⟩))
                go_ret
                exact ⟨ret_bool HV.out.symm, by go_grown⟩
theorem spec_RequestOk_is (lines : Int) (r : Rq) (v : Bool) (h : rqOkB lines r = v) (w : World) :
    Calls Try.prog 159 #[.int .i64 lines, .agg #[.int .i64 r.id, .int .i64 r.tenant, .int .i64 r.line, .bool r.write, .int .i64 r.data, .int .i64 r.tm]] w fun e w' => e = .returned (.bool v) ∧ Below w.heap.size w w' := by subst h; exact spec_RequestOk lines r w
def idFrom (es : List Rq) (d : Int) : Nat → Nat → Int
  | 0, _ => -1
  | f + 1, i => match es[i]? with
    | some e => if (e.id == d) = true then (i : Int) else idFrom es d f (i + 1)
    | none => -1
set_option maxHeartbeats 1000000 in
theorem spec_l19At (a : Option Addr) (n c : Nat) (es : List Rq) (d : Int) (w : World) (ha : IsStructs rqF 6 w a n c es) (hs : n ≤ 1048576) :
    Calls Try.prog 108 #[.slice a n c, .int .i64 d] w fun e w' => e = .returned (.int .i64 (idFrom es d n 0)) ∧ Below w.heap.size w w' := by
  have HA := hide ha
  have hc := ha.2.1
  clear ha
  go_enter Try.func108, Try.ntmps108
  go_wp2
  go_loopw [5] (fun i wr => ∃ k : Nat, k ≤ n ∧ i = .int .i64 k ∧ Hid (idFrom es d (n - k) k = idFrom es d n 0) ∧ Below w.heap.size w wr) (fun i _ => n - (intOf i).toNat)
  case atStart => exact ⟨0, by omega, rfl, hide rfl, Below.refl _ _⟩
  case round =>
    obtain ⟨k, hk, rfl, HT, hB⟩ := hrel
    by_cases hlt : k < n
    · obtain ⟨e, b1, o1, hh_e, rfl, hlb, hcell⟩ := HA.out.get rqF_len (by omega) (show k < n by omega)
      have e0 : wr.cell? ⟨b1, o1 + k * 6, none⟩ = some (.int .i64 e.id) := (hB.cell (p := ⟨b1, o1 + (k * 6 + 0), none⟩) hlb).trans (hcell 0 _ rfl)
      have e1 : wr.cell? ⟨b1, o1 + k * 6 + 1, none⟩ = some (.int .i64 e.tenant) := (hB.cell (p := ⟨b1, o1 + (k * 6 + 1), none⟩) hlb).trans (hcell 1 _ rfl)
      have e2 : wr.cell? ⟨b1, o1 + k * 6 + 2, none⟩ = some (.int .i64 e.line) := (hB.cell (p := ⟨b1, o1 + (k * 6 + 2), none⟩) hlb).trans (hcell 2 _ rfl)
      have e3 : wr.cell? ⟨b1, o1 + k * 6 + 3, none⟩ = some (.bool e.write) := (hB.cell (p := ⟨b1, o1 + (k * 6 + 3), none⟩) hlb).trans (hcell 3 _ rfl)
      have e4 : wr.cell? ⟨b1, o1 + k * 6 + 4, none⟩ = some (.int .i64 e.data) := (hB.cell (p := ⟨b1, o1 + (k * 6 + 4), none⟩) hlb).trans (hcell 4 _ rfl)
      have e5 : wr.cell? ⟨b1, o1 + k * 6 + 5, none⟩ = some (.int .i64 e.tm) := (hB.cell (p := ⟨b1, o1 + (k * 6 + 5), none⟩) hlb).trans (hcell 5 _ rfl)
      have HE_e := hide hh_e
      have sz_e := hB.size
      have lt_b1 : b1 < wr.heap.size := (by have := hB.size; omega)
      have lw_b1 := hlb
      have i0_e : (0 : Int) ≤ (k : Int) := by omega
      have i1_e : (k : Int) < (n : Int) := by omega
      clear hcell hlb hh_e
      have HN := hide (show idFrom es d (n - k) k = if (e.id == d) = true then (k : Int) else idFrom es d (n - (k + 1)) (k + 1) by
        rw [show n - k = (n - (k + 1)) + 1 by omega]; simp only [idFrom, HE_e.out])
      cases q1 : (e.id == d)
      all_goals
        go_wp2_with fail
      · go_roundw
        case rel => exact ⟨k + 1, by omega, by go_num, hide (by rw [← HT.out, HN.out, if_neg (by rw [q1]; simp)]), (by repeat' (first | (with_reducible exact Below.refl _ _) | (with_reducible assumption) | (with_reducible refine bdrawn ?_ _) | (with_reducible refine Below.alloc ?_ ?_ _) | (with_reducible refine Below.drew ?_) | (with_reducible refine Below.setCell ?_ ?_ _) | go_size))⟩
        case measure => simp [intOf]; omega
      · go_ret
        exact ⟨ret_int (by rw [← HT.out, HN.out, if_pos q1]), (by repeat' (first | (with_reducible exact Below.refl _ _) | (with_reducible assumption) | (with_reducible refine bdrawn ?_ _) | (with_reducible refine Below.alloc ?_ ?_ _) | (with_reducible refine Below.drew ?_) | (with_reducible refine Below.setCell ?_ ?_ _) | go_size))⟩
    · obtain rfl : k = n := by omega
      have HV := hide (show idFrom es d k 0 = -1 by rw [← HT.out, Nat.sub_self]; rfl)
      go_wp2
      go_ret
      exact ⟨ret_int HV.out.symm, hB⟩
end Go.Proofs.Ytahfbhfmhccgoaa
