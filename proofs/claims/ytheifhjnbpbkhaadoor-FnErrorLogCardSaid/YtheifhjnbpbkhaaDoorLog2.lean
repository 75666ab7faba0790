/- The newest slot of an error log, on both sides, and what is read from it. -/
import Derived.Test.YtheifhjnbpbkhaaDoorDecS
import Derived.Test.YtheifhjnbpbkhaaDoorLog1
set_option linter.unusedSimpArgs false
set_option linter.unusedVariables false
namespace Go.Proofs.YtheifhjnbpbkhaaDoor
open Go.RowKit Go.ChangeShapes Go.WideShapes Go.ChangeAt Go.Joins Go.Deep
open Go.ChangeMaps (open_string shut_string)
/-- One slot more: its index, the best index so far, the greatest number so far. -/
def bStep (x : Int × Int × Int) (s : ByteArray) : Int × Int × Int :=
  if (dcdI (toL s)).isSome = true ∧ decN (dcdI (toL s)) > x.2.2 then (x.1 + 1, x.1, decN (dcdI (toL s))) else (x.1 + 1, x.2.1, x.2.2)
def bTo (ss : List ByteArray) (k : Nat) : Int × Int × Int := (ss.take k).foldl bStep (0, -1, 0)
def bestOf (ss : List ByteArray) : Int := (bTo ss ss.length).2.1
theorem bTo_zero (ss : List ByteArray) : bTo ss 0 = (0, -1, 0) := rfl
theorem bTo_next {ss : List ByteArray} {k : Nat} {s : ByteArray} (h : ss[k]? = some s) : bTo ss (k + 1) = bStep (bTo ss k) s := by
  unfold bTo; rw [take_snoc h, List.foldl_append]; rfl
theorem dcdI_num {t : List UInt8} : decN (dcdI t) ≤ 1000000000 ∧ 0 ≤ decN (dcdI t) := by
  cases h : dcdI t with
  | none => simp [decN]
  | some r =>
    obtain ⟨n, es⟩ := r
    have := num_bd (encOk_parts (dcdI_some h).1).2
    simp only [decN, Option.map_some, Option.getD_some]; omega
theorem bTo_inv (ss : List ByteArray) : ∀ k, k ≤ ss.length → (bTo ss k).1 = (k : Int) ∧ -1 ≤ (bTo ss k).2.1 ∧ (bTo ss k).2.1 < (k : Int) ∧ 0 ≤ (bTo ss k).2.2 ∧ (bTo ss k).2.2 ≤ 1000000000 ∧
    (0 ≤ (bTo ss k).2.1 → ∃ s, ss[(bTo ss k).2.1.toNat]? = some s ∧ (dcdI (toL s)).isSome = true ∧ decN (dcdI (toL s)) = (bTo ss k).2.2) := by
  intro k
  induction k with
  | zero => intro _; rw [bTo_zero]; refine ⟨rfl, by simp, by simp, by simp, by simp, fun h => by simp at h⟩
  | succ k ih =>
    intro hk
    obtain ⟨i1, i2, i3, i4, i5, i6⟩ := ih (by omega)
    obtain ⟨s, hs⟩ : ∃ s, ss[k]? = some s := ⟨_, List.getElem?_eq_getElem (by omega)⟩
    have hn := dcdI_num (t := toL s)
    rw [bTo_next hs]
    unfold bStep
    split
    · next h => exact ⟨by simp only; omega, by simp only; omega, by simp only; omega, by simp only; omega, hn.1, fun _ => ⟨s, by simp only [i1, Int.toNat_natCast]; exact hs, h.1, rfl⟩⟩
    · exact ⟨by simp only; omega, i2, by simp only; omega, i4, i5, i6⟩
/-- What is read from a log. -/
def rdL (ss : List ByteArray) : Option (Int × List En) := if bestOf ss < 0 then none else match ss[(bestOf ss).toNat]? with | some s => dcdI (toL s) | none => none
theorem rdL_none {ss : List ByteArray} (h : bestOf ss < 0) : rdL ss = none := by unfold rdL; rw [if_pos h]
theorem rdL_at {ss : List ByteArray} {b : Nat} {s : ByteArray} (h : bestOf ss = (b : Int)) (hs : ss[b]? = some s) : rdL ss = dcdI (toL s) := by
  unfold rdL; rw [if_neg (by omega), h, Int.toNat_natCast, hs]
theorem best_cases (ss : List ByteArray) : bestOf ss = -1 ∨ ∃ (b : Nat) (s : ByteArray), bestOf ss = (b : Int) ∧ b < ss.length ∧ ss[b]? = some s ∧ (dcdI (toL s)).isSome = true := by
  obtain ⟨i1, i2, i3, i4, i5, i6⟩ := bTo_inv ss ss.length (Nat.le_refl _)
  by_cases h : 0 ≤ bestOf ss
  · right
    obtain ⟨s, h1, h2, _⟩ := i6 h
    obtain ⟨hl, _⟩ := List.getElem?_eq_some_iff.1 h1
    exact ⟨(bestOf ss).toNat, s, by omega, hl, h1, h2⟩
  · left; unfold bestOf at *; omega
/-! ### The laws' size of a store -/
def sumS (ss : List ByteArray) (k : Nat) : Nat := ((ss.take k).map ByteArray.size).sum
theorem sumS_next {ss : List ByteArray} {k : Nat} {s : ByteArray} (h : ss[k]? = some s) : sumS ss (k + 1) = sumS ss k + s.size := by
  unfold sumS; rw [take_snoc h]; simp
theorem sumS_le (ss : List ByteArray) (k : Nat) : sumS ss k ≤ sumS ss ss.length := by
  unfold sumS
  rw [List.take_length]
  conv => rhs; rw [← List.take_append_drop k ss, List.map_append, List.sum_append]
  omega
theorem mem_sumS {ss : List ByteArray} {s : ByteArray} (h : s ∈ ss) : s.size ≤ sumS ss ss.length := by
  obtain ⟨k, hk⟩ := List.getElem?_of_mem h
  have h1 := sumS_next hk
  have h2 := sumS_le ss (k + 1)
  omega
set_option maxRecDepth 100000 in
set_option maxHeartbeats 1000000 in
theorem laws_szStringS (a : Option Addr) (n c : Nat) (ss : List ByteArray) (left r : Int) (w : World) (ha : IsStrs w a n c ss) (h0 : 0 ≤ left) (h1 : left ≤ 1073741824) (hr : (if ((n + sumS ss ss.length : Nat) : Int) ≤ left then left - ((n + sumS ss ss.length : Nat) : Int) else -1) = r) :
    Calls Tryd.prog 49 #[.slice a n c, .int .i64 left] w fun e w' => e = .returned (.int .i64 r) ∧ w = w' := by
  have hm : c ≤ 9223372036854775807 := ha.2.2.1
  have hc := ha.2.1
  have HA := hide ha; have HR := hide hr
  have hln := ha.1
  clear ha hr
  by_cases hneg : (n : Int) ≤ left
  · have t0 : decide (left - (n : Int) < 0) = false := decide_eq_false (by omega)
    go_enter Tryd.func49, Tryd.ntmps49
    go_wp2_with fail
    go_loop [1, 5] (fun v i => ∃ (k q : Nat), k ≤ n ∧ i = .int .i64 k ∧ v = .int .i64 (left - n - q) ∧ 0 ≤ left - n - q ∧ Hid (q = sumS ss k)) (fun _ i => n - (intOf i).toNat)
    case atStart => exact ⟨0, 0, Nat.zero_le _, rfl, by simp, by omega, hide (by simp [sumS])⟩
    case round =>
      obtain ⟨k, q, hk, rfl, rfl, hq, HQ⟩ := hrel
      by_cases hlt : k < n
      · obtain ⟨s, b1, o1, hs, rfl, hlb, cs⟩ := HA.out.2.2.2.2.get (k := k) (by omega)
        have hsz : s.size ≤ 9223372036854775807 := HA.out.2.2.2.1 s (List.mem_of_getElem? hs)
        have HN : Hid (q + s.size = sumS ss (k + 1)) := hide (by rw [sumS_next hs, ← HQ.out])
        have HLE := hide (sumS_le ss (k + 1))
        have h2 : (0 : Int) ≤ (k : Int) := by omega
        have h3 : (k : Int) < (n : Int) := by omega
        have e0 : w.cell? ⟨b1, o1 + k, none⟩ = some (.string s) := cs
        clear hs HQ cs
        by_cases hfit : 0 ≤ left - n - q - s.size
        · have t1 : decide (left - (n : Int) - (q : Int) - (s.size : Int) < 0) = false := decide_eq_false (by omega)
          obtain ⟨v, hv⟩ : ∃ v : Int, left - (n : Int) - (q : Int) - (s.size : Int) = v := ⟨_, rfl⟩
          rw [hv] at t1
          have HV := hide hv
          go_wp2_with fail
          go_round
          case rel => exact ⟨k + 1, q + s.size, by omega, by go_num, congrArg (Value.int .i64) (by have := HV.out; omega), by omega, HN⟩
          case measure => simp [intOf]; omega
        · have hr1 : (-1 : Int) = r := by rw [← HR.out, if_neg (by have := HN.out; have := HLE.out; omega)]
          subst hr1
          have t1 : decide (left - (n : Int) - (q : Int) - (s.size : Int) < 0) = true := decide_eq_true (by omega)
          go_wp2_with fail
          go_ret
          exact ⟨rfl, rfl⟩
      · have hk' : k = ss.length := by omega
        have hr1 : left - n - q = r := by rw [← HR.out, HQ.out, hk', if_pos (by have := HQ.out; rw [hk'] at this; omega)]; omega
        have HR1 := hide hr1
        clear hr1 hk'
        go_wp2_with fail
        go_ret
        exact ⟨ret_int HR1.out, rfl⟩
  · have hr1 : (-1 : Int) = r := by rw [← HR.out, if_neg (by omega)]
    subst hr1
    have t0 : decide (left - (n : Int) < 0) = true := decide_eq_true (by omega)
    go_enter Tryd.func49, Tryd.ntmps49
    go_wp2_with fail
    go_ret
    exact ⟨rfl, rfl⟩
end Go.Proofs.YtheifhjnbpbkhaaDoor
