/- The margin of a delay: what MarginOf computes, of the program and of the reference. -/
import Derived.Test.YtboejjplclaifaaTrain
set_option linter.unusedSimpArgs false
set_option linter.unusedVariables false
namespace Go.Proofs.Ytboejjplclaifaa
open Go.RowKit Go.ChangeShapes Go.WideShapes Go.ChangeAt Go.Joins Go.Deep
open Go.ChangeMaps (open_string shut_string)

def getB (xs : List Bool) (i : Nat) : Bool := xs[i]?.getD false
theorem getB_at {xs : List Bool} {i : Nat} {z : Bool} (h : xs[i]? = some z) : getB xs i = z := by unfold getB; rw [h]; rfl
/-- May the margin of delay d grow from m to m + 1? -/
def mgOk (xs : List Bool) (d m : Nat) : Bool := decide (m < d) && (decide (d + m + 1 < xs.length) && (getB xs (d - m - 1) && getB xs (d + m + 1)))
def mgFrom (xs : List Bool) (d : Nat) : Nat → Nat → Nat
  | 0, m => m
  | f + 1, m => if mgOk xs d m = true then mgFrom xs d f (m + 1) else m
theorem mgFrom_yes {xs : List Bool} {d m f : Nat} (h : mgOk xs d m = true) (hf : 0 < f) : mgFrom xs d f m = mgFrom xs d (f - 1) (m + 1) := by
  obtain ⟨g, rfl⟩ : ∃ g, f = g + 1 := ⟨f - 1, by omega⟩
  show (if _ then _ else _) = _
  rw [if_pos h]; rfl
theorem mgFrom_no {xs : List Bool} {d m f : Nat} (h : mgOk xs d m = false) : mgFrom xs d f m = m := by
  cases f with
  | zero => rfl
  | succ f => show (if _ then _ else _) = _; rw [if_neg (by simp [h])]
theorem mgOk_d {xs : List Bool} {d m : Nat} (h : ¬ m < d) : mgOk xs d m = false := by simp [mgOk, h]
theorem mgOk_n {xs : List Bool} {d m : Nat} (h : ¬ d + m + 1 < xs.length) : mgOk xs d m = false := by
  unfold mgOk; rw [decide_eq_false h, Bool.false_and, Bool.and_false]
theorem mgOk_z {xs : List Bool} {d m : Nat} {y z : Bool} (h1 : m < d) (h2 : d + m + 1 < xs.length) (h3 : xs[d - m - 1]? = some y) (h4 : xs[d + m + 1]? = some z) : mgOk xs d m = (y && z) := by
  unfold mgOk; rw [getB_at h3, getB_at h4, decide_eq_true h1, decide_eq_true h2]; simp
def margin (xs : List Bool) (dl : Int) : Int :=
  if xs.length ≤ 64 ∧ btw dl 0 ((xs.length : Int) - 1) = true ∧ getB xs dl.toNat = true then (mgFrom xs dl.toNat 64 0 : Int) else -1

set_option maxHeartbeats 1000000 in
theorem impl_MarginOf (a : Option Addr) (n c : Nat) (zs : List Bool) (dl : Int) (w : World) (ha : IsBools w a n c zs) (hs : n ≤ 1048576) :
    Calls Try.prog 17 #[.slice a n c, .int .i64 dl] w fun e w' => e = .returned (.int .i64 (margin zs dl)) ∧ Below w.heap.size w w' := by
  obtain ⟨hn, hc, hm, hr⟩ := ha
  have Hr := hide hr; have HN := hide hn
  clear hr hm
  by_cases h64 : n ≤ 64
  · cases hb : btw dl 0 ((n : Int) - 1)
    · have HM := hide (show margin zs dl = -1 by unfold margin; rw [if_neg (by rw [hn, hb]; simp)])
      clear hn
      go_enter Try.func17, Try.ntmps17
      go_wp2_with (first | (go_at_call 56; refine (impl_between _ _ _ _).mono ?_; rintro e w1 ⟨rfl, rfl⟩))
      go_ret
      exact ⟨ret_int HM.out.symm, Below.refl _ _⟩
    · have hb' := btw_true.1 hb
      obtain ⟨d, rfl⟩ := Int.eq_ofNat_of_zero_le hb'.1
      have hd : d < n := by omega
      have h1 : (0 : Int) ≤ (d : Int) := by omega
      have h2 : (d : Int) < (n : Int) := by omega
      obtain ⟨z, b1, o1, hz, rfl, hlb, hc1⟩ := Hr.out.get (k := d) (by rw [HN.out]; exact hd)
      cases z
      · have HM := hide (show margin zs d = -1 by unfold margin; rw [if_neg (by rw [Int.toNat_natCast, getB_at hz]; simp)])
        clear hn hb' hz
        go_enter Try.func17, Try.ntmps17
        go_wp2_with (first | (go_at_call 56; refine (impl_between _ _ _ _).mono ?_; rintro e w1 ⟨rfl, rfl⟩))
        go_ret
        exact ⟨ret_int HM.out.symm, Below.refl _ _⟩
      · have HM := hide (show margin zs d = (mgFrom zs d 64 0 : Int) by unfold margin; rw [if_pos ⟨by omega, by rw [hn]; exact hb, by rw [Int.toNat_natCast]; exact getB_at hz⟩, Int.toNat_natCast])
        clear hn hb' hz
        go_enter Try.func17, Try.ntmps17
        go_wp2_with (first | (go_at_call 56; refine (impl_between _ _ _ _).mono ?_; rintro e w1 ⟨rfl, rfl⟩))
        go_loopw [5] (fun v wr => ∃ m : Nat, m ≤ d ∧ d + m < n ∧ v = .int .i64 m ∧ Hid (mgFrom zs d (64 - m) m = mgFrom zs d 64 0) ∧ Below w.heap.size w wr) (fun v _ => 64 - (intOf v).toNat)
        case atStart => exact ⟨0, by omega, by omega, rfl, hide rfl, Below.refl _ _⟩
        case round =>
          obtain ⟨m, hm1, hm2, rfl, HG, hB⟩ := hrel
          by_cases hA : m < d
          · by_cases hE : d + m + 1 < n
            · obtain ⟨y1, b2, o2, hy1, hq1, _, hc2⟩ := Hr.out.get (k := d - m - 1) (by rw [HN.out]; omega)
              obtain ⟨y2, b3, o3, hy2, hq2, _, hc3⟩ := Hr.out.get (k := d + m + 1) (by rw [HN.out]; omega)
              simp only [Option.some.injEq, Addr.mk.injEq, and_true] at hq1 hq2
              obtain ⟨rfl, rfl⟩ := hq1
              obtain ⟨rfl, rfl⟩ := hq2
              have HK := hide (mgOk_z hA (by rw [HN.out]; exact hE) hy1 hy2)
              have e1 := (hB.cell (p := ⟨b1, o1 + (d - m - 1), none⟩) hlb).trans hc2
              have e2 := (hB.cell (p := ⟨b1, o1 + (d + m + 1), none⟩) hlb).trans hc3
              clear hc2 hc3 hy1 hy2
              have g1 : (0 : Int) ≤ (d : Int) - (m : Int) - 1 := by omega
              have g2 : (d : Int) - (m : Int) - 1 < (n : Int) := by omega
              have g3 : (d : Int) + (m : Int) + 1 < (n : Int) := by omega
              cases y1
              · go_wp2
                go_ret
                exact ⟨ret_int (by rw [HM.out, ← HG.out, mgFrom_no (by rw [HK.out]; rfl)]), hB⟩
              · cases y2
                · go_wp2
                  go_ret
                  exact ⟨ret_int (by rw [HM.out, ← HG.out, mgFrom_no (by rw [HK.out]; rfl)]), hB⟩
                · go_wp2
                  go_roundw
                  case rel => exact ⟨m + 1, by omega, by omega, by go_num, hide (by rw [← HG.out, mgFrom_yes (by rw [HK.out]; rfl) (show 0 < 64 - m by omega)]; rfl), hB⟩
                  case measure => simp [intOf]; omega
            · have HK := hide (mgOk_n (xs := zs) (d := d) (m := m) (by rw [HN.out]; exact hE))
              go_wp2
              go_ret
              exact ⟨ret_int (by rw [HM.out, ← HG.out, mgFrom_no HK.out]), hB⟩
          · have HK := hide (mgOk_d (xs := zs) (d := d) (m := m) hA)
            go_wp2
            go_ret
            exact ⟨ret_int (by rw [HM.out, ← HG.out, mgFrom_no HK.out]), hB⟩
  · have HM := hide (show margin zs dl = -1 by unfold margin; rw [if_neg (by rw [hn]; simp [h64])])
    clear hn
    go_enter Try.func17, Try.ntmps17
    go_wp2_with (first | (go_at_call 56; refine (impl_between _ _ _ _).mono ?_; rintro e w1 ⟨rfl, rfl⟩))
    go_ret
    exact ⟨ret_int HM.out.symm, Below.refl _ _⟩

set_option maxHeartbeats 1000000 in
theorem spec_MarginOf (a : Option Addr) (n c : Nat) (zs : List Bool) (dl : Int) (w : World) (ha : IsBools w a n c zs) (hs : n ≤ 1048576) :
    Calls Try.prog 15 #[.slice a n c, .int .i64 dl] w fun e w' => e = .returned (.int .i64 (margin zs dl)) ∧ Below w.heap.size w w' := by
  obtain ⟨hn, hc, hm, hr⟩ := ha
  have Hr := hide hr; have HN := hide hn
  clear hr hm
  by_cases h64 : n ≤ 64
  · cases hb : btw dl 0 ((n : Int) - 1)
    · have HM := hide (show margin zs dl = -1 by unfold margin; rw [if_neg (by rw [hn, hb]; simp)])
      clear hn
      go_enter Try.func15, Try.ntmps15
      go_wp2_with (first | (go_at_call 55; refine (spec_l01In _ _ _ _).mono ?_; rintro e w1 ⟨rfl, rfl⟩))
      go_ret
      exact ⟨ret_int HM.out.symm, Below.refl _ _⟩
    · have hb' := btw_true.1 hb
      obtain ⟨d, rfl⟩ := Int.eq_ofNat_of_zero_le hb'.1
      have hd : d < n := by omega
      have h1 : (0 : Int) ≤ (d : Int) := by omega
      have h2 : (d : Int) < (n : Int) := by omega
      obtain ⟨z, b1, o1, hz, rfl, hlb, hc1⟩ := Hr.out.get (k := d) (by rw [HN.out]; exact hd)
      cases z
      · have HM := hide (show margin zs d = -1 by unfold margin; rw [if_neg (by rw [Int.toNat_natCast, getB_at hz]; simp)])
        clear hn hb' hz
        go_enter Try.func15, Try.ntmps15
        go_wp2_with (first | (go_at_call 55; refine (spec_l01In _ _ _ _).mono ?_; rintro e w1 ⟨rfl, rfl⟩))
        go_ret
        exact ⟨ret_int HM.out.symm, Below.refl _ _⟩
      · have HM := hide (show margin zs d = (mgFrom zs d 64 0 : Int) by unfold margin; rw [if_pos ⟨by omega, by rw [hn]; exact hb, by rw [Int.toNat_natCast]; exact getB_at hz⟩, Int.toNat_natCast])
        clear hn hb' hz
        go_enter Try.func15, Try.ntmps15
        go_wp2_with (first | (go_at_call 55; refine (spec_l01In _ _ _ _).mono ?_; rintro e w1 ⟨rfl, rfl⟩))
        go_loopw [5] (fun v wr => ∃ m : Nat, m ≤ d ∧ d + m < n ∧ v = .int .i64 m ∧ Hid (mgFrom zs d (64 - m) m = mgFrom zs d 64 0) ∧ Below w.heap.size w wr) (fun v _ => 64 - (intOf v).toNat)
        case atStart => exact ⟨0, by omega, by omega, rfl, hide rfl, Below.refl _ _⟩
        case round =>
          obtain ⟨m, hm1, hm2, rfl, HG, hB⟩ := hrel
          by_cases hA : m < d
          · by_cases hE : d + m + 1 < n
            · obtain ⟨y1, b2, o2, hy1, hq1, _, hc2⟩ := Hr.out.get (k := d - m - 1) (by rw [HN.out]; omega)
              obtain ⟨y2, b3, o3, hy2, hq2, _, hc3⟩ := Hr.out.get (k := d + m + 1) (by rw [HN.out]; omega)
              simp only [Option.some.injEq, Addr.mk.injEq, and_true] at hq1 hq2
              obtain ⟨rfl, rfl⟩ := hq1
              obtain ⟨rfl, rfl⟩ := hq2
              have HK := hide (mgOk_z hA (by rw [HN.out]; exact hE) hy1 hy2)
              have e1 := (hB.cell (p := ⟨b1, o1 + (d - m - 1), none⟩) hlb).trans hc2
              have e2 := (hB.cell (p := ⟨b1, o1 + (d + m + 1), none⟩) hlb).trans hc3
              clear hc2 hc3 hy1 hy2
              have g1 : (0 : Int) ≤ (d : Int) - (m : Int) - 1 := by omega
              have g2 : (d : Int) - (m : Int) - 1 < (n : Int) := by omega
              have g3 : (d : Int) + (m : Int) + 1 < (n : Int) := by omega
              cases y1
              · go_wp2
                go_ret
                exact ⟨ret_int (by rw [HM.out, ← HG.out, mgFrom_no (by rw [HK.out]; rfl)]), hB⟩
              · cases y2
                · go_wp2
                  go_ret
                  exact ⟨ret_int (by rw [HM.out, ← HG.out, mgFrom_no (by rw [HK.out]; rfl)]), hB⟩
                · go_wp2
                  go_roundw
                  case rel => exact ⟨m + 1, by omega, by omega, by go_num, hide (by rw [← HG.out, mgFrom_yes (by rw [HK.out]; rfl) (show 0 < 64 - m by omega)]; rfl), hB⟩
                  case measure => simp [intOf]; omega
            · have HK := hide (mgOk_n (xs := zs) (d := d) (m := m) (by rw [HN.out]; exact hE))
              go_wp2
              go_ret
              exact ⟨ret_int (by rw [HM.out, ← HG.out, mgFrom_no HK.out]), hB⟩
          · have HK := hide (mgOk_d (xs := zs) (d := d) (m := m) hA)
            go_wp2
            go_ret
            exact ⟨ret_int (by rw [HM.out, ← HG.out, mgFrom_no HK.out]), hB⟩
  · have HM := hide (show margin zs dl = -1 by unfold margin; rw [if_neg (by rw [hn]; simp [h64])])
    clear hn
    go_enter Try.func15, Try.ntmps15
    go_wp2_with (first | (go_at_call 55; refine (spec_l01In _ _ _ _).mono ?_; rintro e w1 ⟨rfl, rfl⟩))
    go_ret
    exact ⟨ret_int HM.out.symm, Below.refl _ _⟩

end Go.Proofs.Ytboejjplclaifaa
