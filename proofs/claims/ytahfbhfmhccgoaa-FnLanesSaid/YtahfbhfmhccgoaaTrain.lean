/- Windows of passing delays: what WidestWindow and BestDelay compute, of the program and of the reference. -/
import Derived.Test.YtahfbhfmhccgoaaBools
import Derived.Test.YtahfbhfmhccgoaaBetween
set_option linter.unusedSimpArgs false
set_option linter.unusedVariables false
namespace Go.Proofs.Ytahfbhfmhccgoaa
open Go.RowKit Go.ChangeShapes Go.WideShapes Go.ChangeAt Go.Joins Go.Deep
open Go.ChangeMaps (open_string shut_string)

/-- One delay more: the first delay of the widest window so far, its width, the width of the window that goes on. -/
def wwStep (s : Int × Int × Int) (k : Int) (b : Bool) : Int × Int × Int :=
  if b = true then (if s.2.1 < s.2.2 + 1 then (k - (s.2.2 + 1) + 1, s.2.2 + 1, s.2.2 + 1) else (s.1, s.2.1, s.2.2 + 1)) else (s.1, s.2.1, 0)
def wwRun (xs : List Bool) : Nat → Int × Int × Int
  | 0 => (0, 0, 0)
  | k + 1 => wwStep (wwRun xs k) k (xs[k]?.getD false)
theorem wwRun_snoc {xs : List Bool} {k : Nat} {z : Bool} (h : xs[k]? = some z) : wwRun xs (k + 1) = wwStep (wwRun xs k) k z := by
  show wwStep _ _ (xs[k]?.getD false) = _
  rw [h]; rfl
theorem wwRun_bd (xs : List Bool) (k : Nat) : (0 ≤ (wwRun xs k).1 ∧ (wwRun xs k).1 + (wwRun xs k).2.1 ≤ k) ∧ (0 ≤ (wwRun xs k).2.1 ∧ (wwRun xs k).2.1 ≤ k) ∧ (0 ≤ (wwRun xs k).2.2 ∧ (wwRun xs k).2.2 ≤ k) := by
  induction k with
  | zero => simp [wwRun]
  | succ k ih =>
    show ((0 ≤ (wwStep _ _ _).1 ∧ (wwStep _ _ _).1 + (wwStep _ _ _).2.1 ≤ _) ∧ (0 ≤ (wwStep _ _ _).2.1 ∧ (wwStep _ _ _).2.1 ≤ _) ∧ (0 ≤ (wwStep _ _ _).2.2 ∧ (wwStep _ _ _).2.2 ≤ _))
    unfold wwStep
    cases xs[k]?.getD false <;> simp only [Bool.false_eq_true, if_true, if_false]
    · omega
    · split <;> simp only <;> omega
def ww (xs : List Bool) : Int × Int := if xs.length ≤ 64 then ((wwRun xs xs.length).1, (wwRun xs xs.length).2.1) else (0, 0)
theorem ww_yes {xs : List Bool} {n : Nat} (hn : xs.length = n) (h : n ≤ 64) : ww xs = ((wwRun xs n).1, (wwRun xs n).2.1) := by subst hn; exact if_pos h
theorem ww_no {xs : List Bool} {n : Nat} (hn : xs.length = n) (h : ¬ n ≤ 64) : ww xs = (0, 0) := by subst hn; exact if_neg h
/-- The best delay of a window that begins at f and is l wide. -/
def bestOf (p : Int × Int) : Int := if (p.2 == 0) = true then -1 else p.1 + (p.2 - 1) / 2

set_option maxHeartbeats 800000 in
theorem impl_WidestWindow (a : Option Addr) (n c : Nat) (zs : List Bool) (w : World) (ha : IsBools w a n c zs) (hs : n ≤ 1048576) :
    Calls Try.prog 68 #[.slice a n c] w fun e w' => e = .returned (.tuple #[.int .i64 (ww zs).1, .int .i64 (ww zs).2]) ∧ Below w.heap.size w w' := by
  obtain ⟨hn, hc, hm, hr⟩ := ha
  have Hr := hide hr; have HN := hide hn
  clear hr hm hn
  by_cases h64 : n ≤ 64
  · rw [ww_yes HN.out h64]
    go_enter Try.func68, Try.ntmps68
    go_wp2
    go_loopw [4, 5, 6, 14] (fun f l r i wr => ∃ k : Nat, k ≤ n ∧ i = .int .i64 k ∧ f = .int .i64 (wwRun zs k).1 ∧ l = .int .i64 (wwRun zs k).2.1 ∧ r = .int .i64 (wwRun zs k).2.2 ∧ Below w.heap.size w wr) (fun _ _ _ i _ => n - (intOf i).toNat)
    case atStart => exact ⟨0, by omega, rfl, rfl, rfl, rfl, Below.refl _ _⟩
    case round =>
      obtain ⟨k, hk, rfl, rfl, rfl, rfl, hB⟩ := hrel
      by_cases hlt : k < n
      · obtain ⟨z, b1, o1, hz, rfl, hlb, hc1⟩ := Hr.out.get (k := k) (by rw [HN.out]; exact hlt)
        have e3 := (hB.cell (p := ⟨b1, o1 + k, none⟩) hlb).trans hc1
        obtain ⟨⟨b1', b2'⟩, ⟨b3', b4'⟩, b5', b6'⟩ := wwRun_bd zs k
        have HS := hide (wwRun_snoc hz)
        have h1 : (0 : Int) ≤ (k : Int) := by omega
        have h2 : (k : Int) < (n : Int) := by omega
        clear hc1 hz
        cases z
        all_goals by_cases hb : (wwRun zs k).2.1 < (wwRun zs k).2.2 + 1
        all_goals
          go_wp2
          go_roundw
          case rel => exact ⟨k + 1, by omega, by go_num, by rw [HS.out]; simp [wwStep, hb], by rw [HS.out]; simp [wwStep, hb], by rw [HS.out]; simp [wwStep, hb], hB⟩
          case measure => simp [intOf]; omega
      · obtain rfl : k = n := by omega
        go_wp2
        go_ret2
        exact ⟨rfl, hB⟩
  · rw [ww_no HN.out h64]
    go_enter Try.func68, Try.ntmps68
    go_wp2
    go_ret2
    exact ⟨rfl, Below.refl _ _⟩

set_option maxHeartbeats 400000 in
theorem impl_BestDelay (a : Option Addr) (n c : Nat) (zs : List Bool) (w : World) (ha : IsBools w a n c zs) (hs : n ≤ 1048576) :
    Calls Try.prog 17 #[.slice a n c] w fun e w' => e = .returned (.int .i64 (bestOf (ww zs))) ∧ Below w.heap.size w w' := by
  have hb : 0 ≤ (ww zs).1 ∧ (ww zs).1 ≤ 1000 ∧ 0 ≤ (ww zs).2 ∧ (ww zs).2 ≤ 1000 := by
    by_cases h64 : zs.length ≤ 64
    · rw [ww_yes rfl h64]; have := wwRun_bd zs zs.length; simp only; omega
    · rw [ww_no rfl h64]; simp
  obtain ⟨hb1, hb2, hb3, hb4⟩ := hb
  have HA := hide ha
  clear ha
  generalize hq : ww zs = q at *
  obtain ⟨f, l⟩ := q
  simp only at hb1 hb2 hb3 hb4
  have HQ := hide hq
  clear hq
  by_cases h0 : l = 0
  all_goals
    go_enter Try.func17, Try.ntmps17
    go_wp2_with fail
    refine (impl_WidestWindow a n c zs _ HA.out hs).mono ?_
    rintro e w1 ⟨rfl, h1⟩
    rw [HQ.out]
    have h9 : ¬ l = 0 → 0 ≤ l - 1 := by omega
    go_wp2_with fail
    go_ret
    exact ⟨ret_int (by simp [bestOf, h0]), by go_grown⟩

end Go.Proofs.Ytahfbhfmhccgoaa
