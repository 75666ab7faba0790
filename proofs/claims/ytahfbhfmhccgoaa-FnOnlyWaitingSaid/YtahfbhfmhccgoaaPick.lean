/- The choice of a tenant: the waiting one with the greatest credit. -/
import Derived.Test.YtahfbhfmhccgoaaShares
import Derived.Test.YtahfbhfmhccgoaaBools
set_option linter.unusedSimpArgs false
set_option linter.unusedVariables false
namespace Go.Proofs.Ytahfbhfmhccgoaa
open Go.RowKit Go.ChangeShapes Go.WideShapes Go.ChangeAt Go.Joins Go.Deep
open Go.ChangeMaps (open_string shut_string)
def creditAt (es : List Sh) (b : Int) : Int := match es[b.toNat]? with | some e => e.credit | none => 0
def bestTo (es : List Sh) (ws : List Bool) : Nat → Int
  | 0 => -1
  | k + 1 => if ws[k]? = some true ∧ (bestTo es ws k < 0 ∨ creditAt es (bestTo es ws k) < creditAt es k) then (k : Int) else bestTo es ws k
def best (es : List Sh) (ws : List Bool) : Int := bestTo es ws (min es.length ws.length)
theorem creditAt_of {es : List Sh} {k : Nat} {e : Sh} (h : es[k]? = some e) : creditAt es k = e.credit := by unfold creditAt; rw [Int.toNat_natCast, h]
theorem best_no {es : List Sh} {ws : List Bool} {k : Nat} {b : Int} (hb : bestTo es ws k = b) (h : ws[k]? = some false) : bestTo es ws (k + 1) = b := by
  show (if _ then _ else _) = _
  rw [if_neg (by rw [h]; simp), hb]
theorem best_yes {es : List Sh} {ws : List Bool} {k : Nat} {b : Int} (hb : bestTo es ws k = b) (h : ws[k]? = some true) (h1 : b < 0 ∨ creditAt es b < creditAt es k) : bestTo es ws (k + 1) = k := by
  show (if _ then _ else _) = _
  rw [if_pos ⟨h, by rw [hb]; exact h1⟩]
theorem best_keep {es : List Sh} {ws : List Bool} {k : Nat} {b : Int} (hb : bestTo es ws k = b) (h0 : 0 ≤ b) (h1 : creditAt es k ≤ creditAt es b) : bestTo es ws (k + 1) = b := by
  show (if _ then _ else _) = _
  rw [if_neg (by rw [hb]; omega), hb]

set_option maxHeartbeats 1000000 in
theorem impl_richest (a : Option Addr) (n c : Nat) (es : List Sh) (a2 : Option Addr) (n2 c2 : Nat) (ws : List Bool) (w : World) (ha : IsStructs shF 2 w a n c es) (hb : IsBools w a2 n2 c2 ws) (hs : n ≤ 2097152) (hs2 : n2 ≤ 2097152) :
    Calls Try.prog 71 #[.slice a n c, .slice a2 n2 c2] w fun r w' => r = .returned (.int .i64 (best es ws)) ∧ Below w.heap.size w w' := by
  have HA := hide ha; have HB := hide hb
  have hc := ha.2.1; have hc' := hb.2.1
  clear ha hb
  go_enter Try.func71, Try.ntmps71
  go_wp2_with fail
  go_loopw [5, 6] (fun v i wr => ∃ (k : Nat) (b : Int), k ≤ n ∧ k ≤ n2 ∧ i = .int .i64 k ∧ v = .int .i64 b ∧ Hid (bestTo es ws k = b) ∧ -1 ≤ b ∧ b < (k : Int) ∧ Below w.heap.size w wr) (fun _ i _ => n - (intOf i).toNat)
  case atStart => exact ⟨0, -1, by omega, by omega, rfl, rfl, hide rfl, by omega, by omega, Below.refl _ _⟩
  case round =>
    obtain ⟨k, b, hk, hk2, rfl, rfl, HT, hb1, hb2, hB⟩ := hrel
    by_cases hlt : k < n ∧ k < n2
    · obtain ⟨hlt, hlt2⟩ := hlt
      obtain ⟨e, b1, o1, hh_e, rfl, hlb, hcell⟩ := HA.out.get shF_len (by omega) (show k < n by omega)
      have e0 : wr.cell? ⟨b1, o1 + k * 2, none⟩ = some (.int .i64 e.weight) := (hB.cell (p := ⟨b1, o1 + (k * 2 + 0), none⟩) hlb).trans (hcell 0 _ rfl)
      have e1 : wr.cell? ⟨b1, o1 + k * 2 + 1, none⟩ = some (.int .i64 e.credit) := (hB.cell (p := ⟨b1, o1 + (k * 2 + 1), none⟩) hlb).trans (hcell 1 _ rfl)
      have HE_e := hide hh_e
      have sz_e := hB.size
      have lt_b1 : b1 < wr.heap.size := (by have := hB.size; omega)
      have i0_e : (0 : Int) ≤ (k : Int) := by omega
      have i1_e : (k : Int) < (n : Int) := by omega
      clear hcell hlb hh_e
      obtain ⟨z, b2, o2, hz, rfl, hlb2, hcz⟩ := HB.out.2.2.2.get (k := k) (by rw [HB.out.1]; exact hlt2)
      have z0 := (hB.cell (p := ⟨b2, o2 + k, none⟩) hlb2).trans hcz
      have HZ := hide hz
      have h3 : (k : Int) < (n2 : Int) := by omega
      clear hcz hz
      cases z
      · go_wp2_with fail
        go_quiet (fail)
        go_wp2_with fail
        go_roundw
        case rel => exact ⟨k + 1, b, by omega, by omega, by go_num, rfl, hide (best_no HT.out HZ.out), by omega, by omega, (by repeat' (first | (with_reducible exact Below.refl _ _) | (with_reducible assumption) | (with_reducible refine bdrawn ?_ _) | (with_reducible refine Below.alloc ?_ ?_ _) | (with_reducible refine Below.drew ?_) | (with_reducible refine Below.setCell ?_ ?_ _) | go_size))⟩
        case measure => simp [intOf]; omega
      · by_cases hneg : b < 0
        · go_wp2_with fail
          go_quiet (fail)
          go_wp2_with fail
          go_roundw
          case rel => exact ⟨k + 1, k, by omega, by omega, by go_num, rfl, hide (best_yes HT.out HZ.out (.inl hneg)), by omega, by omega, (by repeat' (first | (with_reducible exact Below.refl _ _) | (with_reducible assumption) | (with_reducible refine bdrawn ?_ _) | (with_reducible refine Below.alloc ?_ ?_ _) | (with_reducible refine Below.drew ?_) | (with_reducible refine Below.setCell ?_ ?_ _) | go_size))⟩
          case measure => simp [intOf]; omega
        · obtain ⟨m, rfl⟩ := Int.eq_ofNat_of_zero_le (show 0 ≤ b by omega)
          obtain ⟨f, b', o', hh_f, hbo, hlb, hcell⟩ := HA.out.get shF_len (by omega) (show m < n by omega)
          obtain ⟨rfl, rfl⟩ : b1 = b' ∧ o1 = o' := by simpa using hbo
          clear hbo
          have f0 : wr.cell? ⟨b1, o1 + m * 2, none⟩ = some (.int .i64 f.weight) := (hB.cell (p := ⟨b1, o1 + (m * 2 + 0), none⟩) hlb).trans (hcell 0 _ rfl)
          have f1 : wr.cell? ⟨b1, o1 + m * 2 + 1, none⟩ = some (.int .i64 f.credit) := (hB.cell (p := ⟨b1, o1 + (m * 2 + 1), none⟩) hlb).trans (hcell 1 _ rfl)
          have HE_f := hide hh_f
          have sz_f := hB.size
          have lt_b1 : b1 < wr.heap.size := (by have := hB.size; omega)
          have i0_f : (0 : Int) ≤ (m : Int) := by omega
          have i1_f : (m : Int) < (n : Int) := by omega
          clear hcell hlb hh_f
          have HC1 := hide (creditAt_of HE_e.out); have HC2 := hide (creditAt_of HE_f.out)
          by_cases hgt : f.credit < e.credit
          · go_wp2_with fail
            go_quiet (fail)
            go_wp2_with fail
            go_roundw
            case rel => exact ⟨k + 1, k, by omega, by omega, by go_num, rfl, hide (best_yes HT.out HZ.out (.inr (by rw [HC1.out, HC2.out]; exact hgt))), by omega, by omega, (by repeat' (first | (with_reducible exact Below.refl _ _) | (with_reducible assumption) | (with_reducible refine bdrawn ?_ _) | (with_reducible refine Below.alloc ?_ ?_ _) | (with_reducible refine Below.drew ?_) | (with_reducible refine Below.setCell ?_ ?_ _) | go_size))⟩
            case measure => simp [intOf]; omega
          · go_wp2_with fail
            go_quiet (fail)
            go_wp2_with fail
            go_roundw
            case rel => exact ⟨k + 1, m, by omega, by omega, by go_num, rfl, hide (best_keep HT.out (by omega) (by rw [HC1.out, HC2.out]; omega)), by omega, by omega, (by repeat' (first | (with_reducible exact Below.refl _ _) | (with_reducible assumption) | (with_reducible refine bdrawn ?_ _) | (with_reducible refine Below.alloc ?_ ?_ _) | (with_reducible refine Below.drew ?_) | (with_reducible refine Below.setCell ?_ ?_ _) | go_size))⟩
            case measure => simp [intOf]; omega
    · have HV := hide (show best es ws = b by unfold best; rw [HA.out.1, HB.out.1, show min n n2 = k by omega]; exact HT.out)
      by_cases hkn : k < n
      all_goals
        go_wp2
        go_ret
        exact ⟨ret_int (by rw [HV.out]), hB⟩

set_option maxHeartbeats 1000000 in
theorem spec_l21Best (a : Option Addr) (n c : Nat) (es : List Sh) (a2 : Option Addr) (n2 c2 : Nat) (ws : List Bool) (w : World) (ha : IsStructs shF 2 w a n c es) (hb : IsBools w a2 n2 c2 ws) (hs : n ≤ 2097152) (hs2 : n2 ≤ 2097152) :
    Calls Try.prog 74 #[.slice a n c, .slice a2 n2 c2] w fun r w' => r = .returned (.int .i64 (best es ws)) ∧ Below w.heap.size w w' := by
  have HA := hide ha; have HB := hide hb
  have hc := ha.2.1; have hc' := hb.2.1
  clear ha hb
  go_enter Try.func74, Try.ntmps74
  go_wp2_with fail
  go_loopw [5, 6] (fun v i wr => ∃ (k : Nat) (b : Int), k ≤ n ∧ k ≤ n2 ∧ i = .int .i64 k ∧ v = .int .i64 b ∧ Hid (bestTo es ws k = b) ∧ -1 ≤ b ∧ b < (k : Int) ∧ Below w.heap.size w wr) (fun _ i _ => n - (intOf i).toNat)
  case atStart => exact ⟨0, -1, by omega, by omega, rfl, rfl, hide rfl, by omega, by omega, Below.refl _ _⟩
  case round =>
    obtain ⟨k, b, hk, hk2, rfl, rfl, HT, hb1, hb2, hB⟩ := hrel
    by_cases hlt : k < n ∧ k < n2
    · obtain ⟨hlt, hlt2⟩ := hlt
      obtain ⟨e, b1, o1, hh_e, rfl, hlb, hcell⟩ := HA.out.get shF_len (by omega) (show k < n by omega)
      have e0 : wr.cell? ⟨b1, o1 + k * 2, none⟩ = some (.int .i64 e.weight) := (hB.cell (p := ⟨b1, o1 + (k * 2 + 0), none⟩) hlb).trans (hcell 0 _ rfl)
      have e1 : wr.cell? ⟨b1, o1 + k * 2 + 1, none⟩ = some (.int .i64 e.credit) := (hB.cell (p := ⟨b1, o1 + (k * 2 + 1), none⟩) hlb).trans (hcell 1 _ rfl)
      have HE_e := hide hh_e
      have sz_e := hB.size
      have lt_b1 : b1 < wr.heap.size := (by have := hB.size; omega)
      have i0_e : (0 : Int) ≤ (k : Int) := by omega
      have i1_e : (k : Int) < (n : Int) := by omega
      clear hcell hlb hh_e
      obtain ⟨z, b2, o2, hz, rfl, hlb2, hcz⟩ := HB.out.2.2.2.get (k := k) (by rw [HB.out.1]; exact hlt2)
      have z0 := (hB.cell (p := ⟨b2, o2 + k, none⟩) hlb2).trans hcz
      have HZ := hide hz
      have h3 : (k : Int) < (n2 : Int) := by omega
      clear hcz hz
      cases z
      · go_wp2_with fail
        go_quiet (fail)
        go_wp2_with fail
        go_roundw
        case rel => exact ⟨k + 1, b, by omega, by omega, by go_num, rfl, hide (best_no HT.out HZ.out), by omega, by omega, (by repeat' (first | (with_reducible exact Below.refl _ _) | (with_reducible assumption) | (with_reducible refine bdrawn ?_ _) | (with_reducible refine Below.alloc ?_ ?_ _) | (with_reducible refine Below.drew ?_) | (with_reducible refine Below.setCell ?_ ?_ _) | go_size))⟩
        case measure => simp [intOf]; omega
      · by_cases hneg : b < 0
        · go_wp2_with fail
          go_quiet (fail)
          go_wp2_with fail
          go_roundw
          case rel => exact ⟨k + 1, k, by omega, by omega, by go_num, rfl, hide (best_yes HT.out HZ.out (.inl hneg)), by omega, by omega, (by repeat' (first | (with_reducible exact Below.refl _ _) | (with_reducible assumption) | (with_reducible refine bdrawn ?_ _) | (with_reducible refine Below.alloc ?_ ?_ _) | (with_reducible refine Below.drew ?_) | (with_reducible refine Below.setCell ?_ ?_ _) | go_size))⟩
          case measure => simp [intOf]; omega
        · obtain ⟨m, rfl⟩ := Int.eq_ofNat_of_zero_le (show 0 ≤ b by omega)
          obtain ⟨f, b', o', hh_f, hbo, hlb, hcell⟩ := HA.out.get shF_len (by omega) (show m < n by omega)
          obtain ⟨rfl, rfl⟩ : b1 = b' ∧ o1 = o' := by simpa using hbo
          clear hbo
          have f0 : wr.cell? ⟨b1, o1 + m * 2, none⟩ = some (.int .i64 f.weight) := (hB.cell (p := ⟨b1, o1 + (m * 2 + 0), none⟩) hlb).trans (hcell 0 _ rfl)
          have f1 : wr.cell? ⟨b1, o1 + m * 2 + 1, none⟩ = some (.int .i64 f.credit) := (hB.cell (p := ⟨b1, o1 + (m * 2 + 1), none⟩) hlb).trans (hcell 1 _ rfl)
          have HE_f := hide hh_f
          have sz_f := hB.size
          have lt_b1 : b1 < wr.heap.size := (by have := hB.size; omega)
          have i0_f : (0 : Int) ≤ (m : Int) := by omega
          have i1_f : (m : Int) < (n : Int) := by omega
          clear hcell hlb hh_f
          have HC1 := hide (creditAt_of HE_e.out); have HC2 := hide (creditAt_of HE_f.out)
          by_cases hgt : f.credit < e.credit
          · go_wp2_with fail
            go_quiet (fail)
            go_wp2_with fail
            go_roundw
            case rel => exact ⟨k + 1, k, by omega, by omega, by go_num, rfl, hide (best_yes HT.out HZ.out (.inr (by rw [HC1.out, HC2.out]; exact hgt))), by omega, by omega, (by repeat' (first | (with_reducible exact Below.refl _ _) | (with_reducible assumption) | (with_reducible refine bdrawn ?_ _) | (with_reducible refine Below.alloc ?_ ?_ _) | (with_reducible refine Below.drew ?_) | (with_reducible refine Below.setCell ?_ ?_ _) | go_size))⟩
            case measure => simp [intOf]; omega
          · go_wp2_with fail
            go_quiet (fail)
            go_wp2_with fail
            go_roundw
            case rel => exact ⟨k + 1, m, by omega, by omega, by go_num, rfl, hide (best_keep HT.out (by omega) (by rw [HC1.out, HC2.out]; omega)), by omega, by omega, (by repeat' (first | (with_reducible exact Below.refl _ _) | (with_reducible assumption) | (with_reducible refine bdrawn ?_ _) | (with_reducible refine Below.alloc ?_ ?_ _) | (with_reducible refine Below.drew ?_) | (with_reducible refine Below.setCell ?_ ?_ _) | go_size))⟩
            case measure => simp [intOf]; omega
    · have HV := hide (show best es ws = b by unfold best; rw [HA.out.1, HB.out.1, show min n n2 = k by omega]; exact HT.out)
      by_cases hkn : k < n
      all_goals
        go_wp2
        go_ret
        exact ⟨ret_int (by rw [HV.out]), hB⟩

def refill (es : List Sh) : List Sh := es.map fun e => ⟨e.weight, e.weight⟩
def spend (es : List Sh) (b : Int) : List Sh := match es[b.toNat]? with | some e => es.set b.toNat ⟨e.weight, e.credit - 1⟩ | none => es
def pickFrom (es : List Sh) (b : Int) : List Sh := if creditAt es b = 0 then refill es else es
def pickL (es : List Sh) (ws : List Bool) : List Sh := if sharesOkB es = true ∧ 0 ≤ best es ws then spend (pickFrom es (best es ws)) (best (pickFrom es (best es ws)) ws) else es
def pickN (es : List Sh) (ws : List Bool) : Int := if sharesOkB es = true ∧ 0 ≤ best es ws then best (pickFrom es (best es ws)) ws else -1
theorem spend_len (es : List Sh) (b : Int) : (spend es b).length = es.length := by unfold spend; split <;> simp
theorem pickFrom_len (es : List Sh) (b : Int) : (pickFrom es b).length = es.length := by unfold pickFrom refill; split <;> simp
theorem pickL_len (es : List Sh) (ws : List Bool) : (pickL es ws).length = es.length := by
  unfold pickL; split
  · rw [spend_len, pickFrom_len]
  · rfl
theorem bestTo_lt (es : List Sh) (ws : List Bool) : ∀ k, bestTo es ws k < (k : Int) := by
  intro k
  induction k with
  | zero => show (-1 : Int) < 0; omega
  | succ k ih => simp only [bestTo]; split <;> omega
theorem bestTo_ge (es : List Sh) (ws : List Bool) : ∀ k, -1 ≤ bestTo es ws k := by
  intro k
  induction k with
  | zero => show (-1 : Int) ≤ -1; omega
  | succ k ih => simp only [bestTo]; split <;> omega
theorem bestTo_pos (es : List Sh) (ws : List Bool) : ∀ k, 0 ≤ bestTo es ws k ↔ ∃ j, j < k ∧ ws[j]? = some true := by
  intro k
  induction k with
  | zero => exact ⟨fun h => absurd h (by show ¬ (0 : Int) ≤ -1; omega), fun ⟨j, hj, _⟩ => by omega⟩
  | succ k ih =>
    simp only [bestTo]
    split
    · next h => exact ⟨fun _ => ⟨k, by omega, h.1⟩, fun _ => by omega⟩
    · next h =>
      rw [ih]
      constructor
      · rintro ⟨j, hj, hw⟩; exact ⟨j, by omega, hw⟩
      · rintro ⟨j, hj, hw⟩
        by_cases hjk : j = k
        · subst hjk
          rcases Int.lt_or_le (bestTo es ws j) 0 with h0 | h0
          · exact absurd ⟨hw, .inl h0⟩ h
          · exact ih.1 h0
        · exact ⟨j, by omega, hw⟩
theorem best_pos_len {es es' : List Sh} {ws : List Bool} (hl : es'.length = es.length) : 0 ≤ best es' ws ↔ 0 ≤ best es ws := by
  unfold best; rw [bestTo_pos, bestTo_pos, hl]
theorem best_lt (es : List Sh) (ws : List Bool) : best es ws < es.length := by
  have := bestTo_lt es ws (min es.length ws.length); unfold best; omega

theorem pick_stay {es : List Sh} {ws : List Bool} {m : Nat} (hok : sharesOkB es = true) (hb : best es ws = m) (hz : creditAt es m ≠ 0) : pickL es ws = spend es m ∧ pickN es ws = m := by
  have hf : pickFrom es m = es := by unfold pickFrom; rw [if_neg hz]
  unfold pickL pickN
  rw [hb, hf, hb, if_pos ⟨hok, by omega⟩, if_pos ⟨hok, by omega⟩]; exact ⟨rfl, rfl⟩
theorem pick_turn {es : List Sh} {ws : List Bool} {m m' : Nat} (hok : sharesOkB es = true) (hb : best es ws = m) (hz : creditAt es m = 0) (hb' : best (refill es) ws = m') : pickL es ws = spend (refill es) m' ∧ pickN es ws = m' := by
  have hf : pickFrom es m = refill es := by unfold pickFrom; rw [if_pos hz]
  unfold pickL pickN
  rw [hb, hf, hb', if_pos ⟨hok, by omega⟩, if_pos ⟨hok, by omega⟩]; exact ⟨rfl, rfl⟩
theorem pick_none {es : List Sh} {ws : List Bool} (h : sharesOkB es = false ∨ best es ws < 0) : pickL es ws = es ∧ pickN es ws = -1 := by
  have : ¬ (sharesOkB es = true ∧ 0 ≤ best es ws) := by rintro ⟨h1, h2⟩; rcases h with h | h; rw [h] at h1; cases h1; omega
  unfold pickL pickN
  rw [if_neg this, if_neg this]; exact ⟨rfl, rfl⟩
theorem spend_at {es : List Sh} {m : Nat} {f : Sh} (h : es[m]? = some f) : spend es m = es.set m ⟨f.weight, f.credit - 1⟩ := by unfold spend; rw [Int.toNat_natCast, h]
theorem shareOk_bd {es : List Sh} {m : Nat} {f : Sh} (hok : sharesOkB es = true) (h : es[m]? = some f) : 1 ≤ f.weight ∧ f.weight ≤ 9 ∧ 0 ≤ f.credit ∧ f.credit ≤ f.weight := by
  unfold sharesOkB at hok
  rw [Bool.and_eq_true, List.all_eq_true] at hok
  have := hok.1 f (List.mem_of_getElem? h)
  unfold shareOk at this
  rw [Bool.and_eq_true, btw_true, btw_true] at this
  exact ⟨this.1.1, this.1.2, this.2⟩
theorem refill_len (es : List Sh) : (refill es).length = es.length := by simp [refill]
theorem refill_at {es : List Sh} {m : Nat} {f : Sh} (h : es[m]? = some f) : (refill es)[m]? = some ⟨f.weight, f.weight⟩ := by simp [refill, h]
def refTo (es : List Sh) (k : Nat) : List Sh := (refill es).take k ++ es.drop k
theorem refTo_at {es : List Sh} {k : Nat} {f : Sh} (h : es[k]? = some f) : (refTo es k)[k]? = some f := by
  have hk := (List.getElem?_eq_some_iff.1 h).1
  unfold refTo
  rw [List.getElem?_append_right (by rw [List.length_take, refill_len]; omega), List.length_take, refill_len, show k - min k es.length = 0 by omega, List.getElem?_drop]
  exact h
theorem refTo_next {es : List Sh} {k : Nat} {f : Sh} (h : es[k]? = some f) : (refTo es k).set k ⟨f.weight, f.weight⟩ = refTo es (k + 1) := by
  have hk := (List.getElem?_eq_some_iff.1 h).1
  exact over_next _ _ k es.length hk (refill_len es) rfl _ (refill_at h)
def GotPick (w : World) (es : List Sh) (b : Int) (e : Ending) (w' : World) : Prop :=
  ∃ n a c, e = .returned (.tuple #[.slice a n c, .int .i64 b]) ∧ w'.ownsRow w.heap.size 112 2 (.slice a n c) n (es.flatMap shF) ∧ es.length = n ∧ Below w.heap.size w w'
theorem impl_richest_is (a : Option Addr) (n c : Nat) (es : List Sh) (a2 : Option Addr) (n2 c2 : Nat) (ws : List Bool) (b : Int) (h : best es ws = b) (w : World) (ha : IsStructs shF 2 w a n c es) (hb : IsBools w a2 n2 c2 ws) (hs : n ≤ 2097152) (hs2 : n2 ≤ 2097152) :
    Calls Try.prog 71 #[.slice a n c, .slice a2 n2 c2] w fun r w' => r = .returned (.int .i64 b) ∧ Below w.heap.size w w' := by subst h; exact impl_richest a n c es a2 n2 c2 ws w ha hb hs hs2
theorem spec_l21Best_is (a : Option Addr) (n c : Nat) (es : List Sh) (a2 : Option Addr) (n2 c2 : Nat) (ws : List Bool) (b : Int) (h : best es ws = b) (w : World) (ha : IsStructs shF 2 w a n c es) (hb : IsBools w a2 n2 c2 ws) (hs : n ≤ 2097152) (hs2 : n2 ≤ 2097152) :
    Calls Try.prog 74 #[.slice a n c, .slice a2 n2 c2] w fun r w' => r = .returned (.int .i64 b) ∧ Below w.heap.size w w' := by subst h; exact spec_l21Best a n c es a2 n2 c2 ws w ha hb hs hs2

set_option maxRecDepth 100000 in
set_option maxHeartbeats 2000000 in
theorem impl_PickTenant (a : Option Addr) (n c : Nat) (es : List Sh) (a2 : Option Addr) (n2 c2 : Nat) (ws : List Bool) (w : World) (ha : IsStructs shF 2 w a n c es) (hb : IsBools w a2 n2 c2 ws) (hs : n ≤ 2097152) (hs2 : n2 ≤ 2097152) :
    Calls Try.prog 20 #[.slice a n c, .slice a2 n2 c2] w (GotPick w (pickL es ws) (pickN es ws)) := by
  obtain ⟨i0_Sh, hi_Sh, hz0_Sh, hz1_Sh, hz2_Sh⟩ := info_parts info_Sh
  have HA := hide ha; have HB := hide hb
  have HL := hide ha.1
  have hc := ha.2.1; have hc' := hb.2.1
  clear ha hb
  go_enter Try.func20, Try.ntmps20
  have hB0 : Below w.heap.size w (w.alloc (.cells #[] 112)) := (by repeat' (first | (with_reducible exact Below.refl _ _) | (with_reducible assumption) | (with_reducible refine bdrawn ?_ _) | (with_reducible refine Below.alloc ?_ ?_ _) | (with_reducible refine Below.drew ?_) | (with_reducible refine Below.setCell ?_ ?_ _) | go_size))
  have HA0 := hide (HA.out.below hB0 (Nat.le_refl _))
  have HO0 := hide (World.ownsRow_made (base := w.heap.size) (e := 112) (size := 2) w #[] 0 (Nat.le_refl _) (by decide) rfl)
  go_wp2_with (at_builtin; refine wpList_append_any rfl _ _ 30 rfl w.heap.size 112 i0_Sh (.agg #[.int .i64 0, .int .i64 0]) 2 16 Try.underlying30 hi_Sh hz0_Sh hz1_Sh hz2_Sh rfl (by decide) _ _ _ rfl (HO0.out) _ _ _ _ rfl (by rw [flat_len shF_len, HA.out.1]) HA0.out.2.2.2 (flat_ones (fun _ => rfl) _) ?c3 ?c4 ?c5 ?_)
  case c3 => unfold maxLen; omega
  case c4 => omega
  case c5 => (first | go_size | (simp; omega))
  intro v' wp hownp hgp
  obtain ⟨ap, cp, rfl⟩ := own_shape hownp
  have hBp := below_grown hB0 (HO0.out) (by omega) (by go_size) hgp
  have hsp := hgp.size
  (try simp only [World.size_alloc] at hsp)
  have HGp := hide hgp; clear hgp
  (try simp only [List.nil_append, Nat.zero_add] at hownp)
  have x := hide (Owned.of_own hownp)
  have hcp := own_caps hownp
  have hcp1 := hcp.1; have hcp2 : cp ≤ 9223372036854775807 := hcp.2
  clear hcp hownp HO0 HA0 hB0 HGp
  obtain ⟨b, hb⟩ : ∃ b, best es ws = b := ⟨_, rfl⟩
  have hb0 : -1 ≤ b := by rw [← hb]; exact bestTo_ge _ _ _
  have hb1 : b < (n : Int) := by rw [← hb, ← HL.out]; exact best_lt _ _
  have Hb := hide hb; clear hb
  cases hok : sharesOkB es
  · have HV := hide (pick_none (ws := ws) (.inl hok))
    go_wp2_with fail
    refine (impl_richest_is _ _ _ es _ _ _ ws b Hb.out _ (isStructs_own shF_len (by omega) x.out.1) (HB.out.below hBp (Nat.le_refl _)) hs hs2).mono ?_
    rintro e w1 ⟨rfl, h1⟩
    have s1 := h1.size
    try simp only [World.size_alloc, World.size_setCell, World.size_drew, World.heap_drewN] at s1
    have H1 : Below wp.heap.size wp w1 := bthen (by repeat' (first | (with_reducible exact Below.refl _ _) | (with_reducible assumption) | (with_reducible refine bdrawn ?_ _) | (with_reducible refine Below.alloc ?_ ?_ _) | (with_reducible refine Below.drew ?_) | (with_reducible refine Below.setCell ?_ ?_ _) | go_size)) h1 (by go_size)
    have C1 := (bcell H1).1; have F1 := (bcell H1).2
    have P1 : Below wp.heap.size wp w1 := bthen (by repeat' (first | (with_reducible exact Below.refl _ _) | (with_reducible assumption) | (with_reducible refine bdrawn ?_ _) | (with_reducible refine Below.alloc ?_ ?_ _) | (with_reducible refine Below.drew ?_) | (with_reducible refine Below.setCell ?_ ?_ _) | go_size)) h1 (by go_size)
    replace x := hide (x.out.below P1 (by omega))
    go_wp2_with fail
    refine (impl_SharesOk_is _ _ _ es _ hok _ (HA.out.below (bthen hBp h1 (by omega)) (Nat.le_refl _)) hs).mono ?_
    rintro e w2 ⟨rfl, h2⟩
    have s2 := h2.size
    try simp only [World.size_alloc, World.size_setCell, World.size_drew, World.heap_drewN] at s2
    have H2 : Below wp.heap.size wp w2 := bthen (by repeat' (first | (with_reducible exact Below.refl _ _) | (with_reducible assumption) | (with_reducible refine bdrawn ?_ _) | (with_reducible refine Below.alloc ?_ ?_ _) | (with_reducible refine Below.drew ?_) | (with_reducible refine Below.setCell ?_ ?_ _) | go_size)) h2 (by go_size)
    have C2 := (bcell H2).1; have F2 := (bcell H2).2
    have P2 : Below w1.heap.size w1 w2 := bthen (by repeat' (first | (with_reducible exact Below.refl _ _) | (with_reducible assumption) | (with_reducible refine bdrawn ?_ _) | (with_reducible refine Below.alloc ?_ ?_ _) | (with_reducible refine Below.drew ?_) | (with_reducible refine Below.setCell ?_ ?_ _) | go_size)) h2 (by go_size)
    replace x := hide (x.out.below P2 (by omega))
    go_wp2_with fail
    go_returns
    rw [HV.out.1, HV.out.2]
    exact ⟨n, _, _, rfl, x.out.1, HL.out, bthen hBp H2 (by omega)⟩
  · rcases Int.lt_or_le b 0 with hneg | hpos
    · have HV := hide (pick_none (es := es) (ws := ws) (.inr (by rw [Hb.out]; exact hneg)))
      go_wp2_with fail
      refine (impl_richest_is _ _ _ es _ _ _ ws b Hb.out _ (isStructs_own shF_len (by omega) x.out.1) (HB.out.below hBp (Nat.le_refl _)) hs hs2).mono ?_
      rintro e w1 ⟨rfl, h1⟩
      have s1 := h1.size
      try simp only [World.size_alloc, World.size_setCell, World.size_drew, World.heap_drewN] at s1
      have H1 : Below wp.heap.size wp w1 := bthen (by repeat' (first | (with_reducible exact Below.refl _ _) | (with_reducible assumption) | (with_reducible refine bdrawn ?_ _) | (with_reducible refine Below.alloc ?_ ?_ _) | (with_reducible refine Below.drew ?_) | (with_reducible refine Below.setCell ?_ ?_ _) | go_size)) h1 (by go_size)
      have C1 := (bcell H1).1; have F1 := (bcell H1).2
      have P1 : Below wp.heap.size wp w1 := bthen (by repeat' (first | (with_reducible exact Below.refl _ _) | (with_reducible assumption) | (with_reducible refine bdrawn ?_ _) | (with_reducible refine Below.alloc ?_ ?_ _) | (with_reducible refine Below.drew ?_) | (with_reducible refine Below.setCell ?_ ?_ _) | go_size)) h1 (by go_size)
      replace x := hide (x.out.below P1 (by omega))
      go_wp2_with fail
      refine (impl_SharesOk_is _ _ _ es _ hok _ (HA.out.below (bthen hBp h1 (by omega)) (Nat.le_refl _)) hs).mono ?_
      rintro e w2 ⟨rfl, h2⟩
      have s2 := h2.size
      try simp only [World.size_alloc, World.size_setCell, World.size_drew, World.heap_drewN] at s2
      have H2 : Below wp.heap.size wp w2 := bthen (by repeat' (first | (with_reducible exact Below.refl _ _) | (with_reducible assumption) | (with_reducible refine bdrawn ?_ _) | (with_reducible refine Below.alloc ?_ ?_ _) | (with_reducible refine Below.drew ?_) | (with_reducible refine Below.setCell ?_ ?_ _) | go_size)) h2 (by go_size)
      have C2 := (bcell H2).1; have F2 := (bcell H2).2
      have P2 : Below w1.heap.size w1 w2 := bthen (by repeat' (first | (with_reducible exact Below.refl _ _) | (with_reducible assumption) | (with_reducible refine bdrawn ?_ _) | (with_reducible refine Below.alloc ?_ ?_ _) | (with_reducible refine Below.drew ?_) | (with_reducible refine Below.setCell ?_ ?_ _) | go_size)) h2 (by go_size)
      replace x := hide (x.out.below P2 (by omega))
      go_wp2_with fail
      go_returns
      rw [HV.out.1, HV.out.2]
      exact ⟨n, _, _, rfl, x.out.1, HL.out, bthen hBp H2 (by omega)⟩
    · obtain ⟨m, rfl⟩ := Int.eq_ofNat_of_zero_le hpos
      obtain ⟨f, hf⟩ : ∃ f, es[m]? = some f := ⟨_, List.getElem?_eq_getElem (by rw [HL.out]; omega)⟩
      have HF := hide hf
      have HCr := hide (creditAt_of hf)
      clear hf
      obtain ⟨g, rfl, hg0, hg1, hg2, hcell, hfr⟩ := x.out.some (by omega)
      have g0 : wp.cell? ⟨g, m * 2, none⟩ = some (.int .i64 f.weight) := (hcell (m * 2 + 0) (by omega)).trans (flat_at shF_len es m 0 f _ HF.out rfl)
      have g1 : wp.cell? ⟨g, m * 2 + 1, none⟩ = some (.int .i64 f.credit) := (hcell (m * 2 + 1) (by omega)).trans (flat_at shF_len es m 1 f _ HF.out rfl)
      clear hcell
      have bd := shareOk_bd hok HF.out
      have bd1 := bd.2.2.1; have bd2 : f.credit ≤ 9 := by omega
      clear bd
      by_cases hz : f.credit = 0
      · skip
        go_wp2_with fail
        refine (impl_richest_is _ _ _ es _ _ _ ws m Hb.out _ (isStructs_own shF_len (by omega) x.out.1) (HB.out.below hBp (Nat.le_refl _)) hs hs2).mono ?_
        rintro e w1 ⟨rfl, h1⟩
        have s1 := h1.size
        try simp only [World.size_alloc, World.size_setCell, World.size_drew, World.heap_drewN] at s1
        have H1 : Below wp.heap.size wp w1 := bthen (by repeat' (first | (with_reducible exact Below.refl _ _) | (with_reducible assumption) | (with_reducible refine bdrawn ?_ _) | (with_reducible refine Below.alloc ?_ ?_ _) | (with_reducible refine Below.drew ?_) | (with_reducible refine Below.setCell ?_ ?_ _) | go_size)) h1 (by go_size)
        have C1 := (bcell H1).1; have F1 := (bcell H1).2
        have P1 : Below wp.heap.size wp w1 := bthen (by repeat' (first | (with_reducible exact Below.refl _ _) | (with_reducible assumption) | (with_reducible refine bdrawn ?_ _) | (with_reducible refine Below.alloc ?_ ?_ _) | (with_reducible refine Below.drew ?_) | (with_reducible refine Below.setCell ?_ ?_ _) | go_size)) h1 (by go_size)
        replace x := hide (x.out.below P1 (by omega))
        go_wp2_with fail
        refine (impl_SharesOk_is _ _ _ es _ hok _ (HA.out.below (bthen hBp h1 (by omega)) (Nat.le_refl _)) hs).mono ?_
        rintro e w2 ⟨rfl, h2⟩
        have s2 := h2.size
        try simp only [World.size_alloc, World.size_setCell, World.size_drew, World.heap_drewN] at s2
        have H2 : Below wp.heap.size wp w2 := bthen (by repeat' (first | (with_reducible exact Below.refl _ _) | (with_reducible assumption) | (with_reducible refine bdrawn ?_ _) | (with_reducible refine Below.alloc ?_ ?_ _) | (with_reducible refine Below.drew ?_) | (with_reducible refine Below.setCell ?_ ?_ _) | go_size)) h2 (by go_size)
        have C2 := (bcell H2).1; have F2 := (bcell H2).2
        have P2 : Below w1.heap.size w1 w2 := bthen (by repeat' (first | (with_reducible exact Below.refl _ _) | (with_reducible assumption) | (with_reducible refine bdrawn ?_ _) | (with_reducible refine Below.alloc ?_ ?_ _) | (with_reducible refine Below.drew ?_) | (with_reducible refine Below.setCell ?_ ?_ _) | go_size)) h2 (by go_size)
        replace x := hide (x.out.below P2 (by omega))
        go_wp2_with fail
        obtain ⟨m', hb'⟩ : ∃ m' : Nat, best (refill es) ws = m' := Int.eq_ofNat_of_zero_le ((best_pos_len (refill_len es)).2 (by rw [Hb.out]; omega))
        have hm' : m' < n := by have := best_lt (refill es) ws; rw [hb', refill_len, HL.out] at this; omega
        have HV := hide (pick_turn hok Hb.out (by rw [HCr.out]; exact hz) hb')
        have Hb' := hide hb'
        have hBw2 := bthen hBp H2 (by omega)
        clear hb' HCr
        go_loopw [31] (fun i wr => ∃ k : Nat, k ≤ n ∧ i = .int .i64 k ∧ wr.ownsRow w.heap.size 112 2 (.slice (some ⟨g, 0, none⟩) n cp) n ((refTo es k).flatMap shF) ∧ Below w.heap.size w wr ∧ w2.heap.size ≤ wr.heap.size) (fun i _ => n - (intOf i).toNat)
        case atStart => exact ⟨0, by omega, rfl, x.out.1, hBw2, by omega⟩
        case round =>
          obtain ⟨k, hk, rfl, hown, hB, hsz⟩ := hrel
          by_cases hlt : k < n
          · obtain ⟨e, he⟩ : ∃ e, es[k]? = some e := ⟨_, List.getElem?_eq_getElem (by rw [HL.out]; omega)⟩
            have k0 : wr.cell? ⟨g, k * 2, none⟩ = some (.int .i64 e.weight) := (hown.cellAt (k * 2 + 0) (by omega)).trans (flat_at shF_len _ k 0 e _ (refTo_at he) rfl)
            have k1 : wr.cell? ⟨g, k * 2 + 1, none⟩ = some (.int .i64 e.credit) := (hown.cellAt (k * 2 + 1) (by omega)).trans (flat_at shF_len _ k 1 e _ (refTo_at he) rfl)
            have kf := fun j => hown.frozenAt j
            have i0 : (0 : Int) ≤ (k : Int) := by omega
            have i1 : (k : Int) < (n : Int) := by omega
            have HE := hide he
            have HO := hide hown
            clear hown he
            go_wp2_with fail
            go_roundw
            case rel =>
              refine ⟨k + 1, by omega, by go_num, ?_, (by repeat' (first | (with_reducible exact Below.refl _ _) | (with_reducible assumption) | (with_reducible refine bdrawn ?_ _) | (with_reducible refine Below.alloc ?_ ?_ _) | (with_reducible refine Below.drew ?_) | (with_reducible refine Below.setCell ?_ ?_ _) | go_size)), by go_size⟩
              have hst := (HO.out.stored (k * 2 + 1) (.int .i64 e.weight)).1
              rw [flat_set shF_len _ k 1 e ⟨e.weight, e.weight⟩ _ (refTo_at HE.out) rfl (by omega), refTo_next HE.out] at hst
              exact hst
            case measure => simp [intOf]; omega
          · obtain rfl : k = n := by omega
            obtain ⟨f', hf'⟩ : ∃ f, es[m']? = some f := ⟨_, List.getElem?_eq_getElem (by rw [HL.out]; omega)⟩
            have bd := shareOk_bd hok hf'
            have bd3 := bd.1; have bd4 : f'.weight ≤ 9 := bd.2.1
            have HF' := hide (refill_at hf')
            rw [show refTo es k = refill es by unfold refTo; rw [List.take_of_length_le (by rw [refill_len, HL.out]; exact Nat.le_refl _), List.drop_eq_nil_of_le (by rw [HL.out]; exact Nat.le_refl _), List.append_nil]] at hown
            have y := hide (Owned.of_own hown)
            have k0 : wr.cell? ⟨g, m' * 2, none⟩ = some (.int .i64 f'.weight) := (hown.cellAt (m' * 2 + 0) (by omega)).trans (flat_at shF_len _ m' 0 _ _ HF'.out rfl)
            have k1 : wr.cell? ⟨g, m' * 2 + 1, none⟩ = some (.int .i64 f'.weight) := (hown.cellAt (m' * 2 + 1) (by omega)).trans (flat_at shF_len _ m' 1 _ _ HF'.out rfl)
            have kf := fun j => hown.frozenAt j
            clear bd hf' hown
            have hsr : g < wr.heap.size := by omega
            go_wp2_with fail
            refine (impl_richest_is _ _ _ (refill es) _ _ _ ws m' Hb'.out _ (isStructs_own shF_len (by omega) y.out.1) (HB.out.below hB (Nat.le_refl _)) hs hs2).mono ?_
            rintro e w1 ⟨rfl, h1⟩
            have s1 := h1.size
            try simp only [World.size_alloc, World.size_setCell, World.size_drew, World.heap_drewN] at s1
            have H1 : Below wr.heap.size wr w1 := bthen (by repeat' (first | (with_reducible exact Below.refl _ _) | (with_reducible assumption) | (with_reducible refine bdrawn ?_ _) | (with_reducible refine Below.alloc ?_ ?_ _) | (with_reducible refine Below.drew ?_) | (with_reducible refine Below.setCell ?_ ?_ _) | go_size)) h1 (by go_size)
            have C1 := (bcell H1).1; have F1 := (bcell H1).2
            have P1 : Below wr.heap.size wr w1 := bthen (by repeat' (first | (with_reducible exact Below.refl _ _) | (with_reducible assumption) | (with_reducible refine bdrawn ?_ _) | (with_reducible refine Below.alloc ?_ ?_ _) | (with_reducible refine Below.drew ?_) | (with_reducible refine Below.setCell ?_ ?_ _) | go_size)) h1 (by go_size)
            replace y := hide (y.out.below P1 (by omega))
            have i1 : (m' : Int) < (k : Int) := by omega
            go_wp2_with fail
            go_returns
            rw [HV.out.1, HV.out.2, spend_at HF'.out]
            have hst := (y.out.1.stored (m' * 2 + 1) (.int .i64 (f'.weight - 1))).1
            rw [flat_set shF_len _ m' 1 _ ⟨f'.weight, f'.weight - 1⟩ _ HF'.out rfl (by omega)] at hst
            have hBE := bthen hB H1 (by omega)
            have hBs := hBE.size
            exact ⟨k, _, _, rfl, hst, by rw [List.length_set, refill_len, HL.out], (by repeat' (first | (with_reducible exact Below.refl _ _) | (with_reducible assumption) | (with_reducible refine bdrawn ?_ _) | (with_reducible refine Below.alloc ?_ ?_ _) | (with_reducible refine Below.drew ?_) | (with_reducible refine Below.setCell ?_ ?_ _) | go_size))⟩
      · have HV := hide (pick_stay hok Hb.out (by rw [HCr.out]; exact hz))
        go_wp2_with fail
        refine (impl_richest_is _ _ _ es _ _ _ ws m Hb.out _ (isStructs_own shF_len (by omega) x.out.1) (HB.out.below hBp (Nat.le_refl _)) hs hs2).mono ?_
        rintro e w1 ⟨rfl, h1⟩
        have s1 := h1.size
        try simp only [World.size_alloc, World.size_setCell, World.size_drew, World.heap_drewN] at s1
        have H1 : Below wp.heap.size wp w1 := bthen (by repeat' (first | (with_reducible exact Below.refl _ _) | (with_reducible assumption) | (with_reducible refine bdrawn ?_ _) | (with_reducible refine Below.alloc ?_ ?_ _) | (with_reducible refine Below.drew ?_) | (with_reducible refine Below.setCell ?_ ?_ _) | go_size)) h1 (by go_size)
        have C1 := (bcell H1).1; have F1 := (bcell H1).2
        have P1 : Below wp.heap.size wp w1 := bthen (by repeat' (first | (with_reducible exact Below.refl _ _) | (with_reducible assumption) | (with_reducible refine bdrawn ?_ _) | (with_reducible refine Below.alloc ?_ ?_ _) | (with_reducible refine Below.drew ?_) | (with_reducible refine Below.setCell ?_ ?_ _) | go_size)) h1 (by go_size)
        replace x := hide (x.out.below P1 (by omega))
        go_wp2_with fail
        refine (impl_SharesOk_is _ _ _ es _ hok _ (HA.out.below (bthen hBp h1 (by omega)) (Nat.le_refl _)) hs).mono ?_
        rintro e w2 ⟨rfl, h2⟩
        have s2 := h2.size
        try simp only [World.size_alloc, World.size_setCell, World.size_drew, World.heap_drewN] at s2
        have H2 : Below wp.heap.size wp w2 := bthen (by repeat' (first | (with_reducible exact Below.refl _ _) | (with_reducible assumption) | (with_reducible refine bdrawn ?_ _) | (with_reducible refine Below.alloc ?_ ?_ _) | (with_reducible refine Below.drew ?_) | (with_reducible refine Below.setCell ?_ ?_ _) | go_size)) h2 (by go_size)
        have C2 := (bcell H2).1; have F2 := (bcell H2).2
        have P2 : Below w1.heap.size w1 w2 := bthen (by repeat' (first | (with_reducible exact Below.refl _ _) | (with_reducible assumption) | (with_reducible refine bdrawn ?_ _) | (with_reducible refine Below.alloc ?_ ?_ _) | (with_reducible refine Below.drew ?_) | (with_reducible refine Below.setCell ?_ ?_ _) | go_size)) h2 (by go_size)
        replace x := hide (x.out.below P2 (by omega))
        go_wp2_with fail
        go_returns
        rw [HV.out.1, HV.out.2, spend_at HF.out]
        have hst := (x.out.1.stored (m * 2 + 1) (.int .i64 (f.credit - 1))).1
        rw [flat_set shF_len es m 1 f ⟨f.weight, f.credit - 1⟩ _ HF.out rfl (by omega)] at hst
        have hBE := bthen hBp H2 (by omega)
        have hBs := hBE.size
        exact ⟨n, _, _, rfl, hst, by rw [List.length_set, HL.out], (by repeat' (first | (with_reducible exact Below.refl _ _) | (with_reducible assumption) | (with_reducible refine bdrawn ?_ _) | (with_reducible refine Below.alloc ?_ ?_ _) | (with_reducible refine Below.drew ?_) | (with_reducible refine Below.setCell ?_ ?_ _) | go_size))⟩

set_option maxRecDepth 100000 in
set_option maxHeartbeats 2000000 in
theorem spec_PickTenant (a : Option Addr) (n c : Nat) (es : List Sh) (a2 : Option Addr) (n2 c2 : Nat) (ws : List Bool) (w : World) (ha : IsStructs shF 2 w a n c es) (hb : IsBools w a2 n2 c2 ws) (hs : n ≤ 2097152) (hs2 : n2 ≤ 2097152) :
    Calls Try.prog 21 #[.slice a n c, .slice a2 n2 c2] w (GotPick w (pickL es ws) (pickN es ws)) := by
  obtain ⟨i0_Sh, hi_Sh, hz0_Sh, hz1_Sh, hz2_Sh⟩ := info_parts info_Sh
  have HA := hide ha; have HB := hide hb
  have HL := hide ha.1
  have hc := ha.2.1; have hc' := hb.2.1
  clear ha hb
  go_enter Try.func21, Try.ntmps21
  have hB0 : Below w.heap.size w (w.alloc (.cells #[] 112)) := (by repeat' (first | (with_reducible exact Below.refl _ _) | (with_reducible assumption) | (with_reducible refine bdrawn ?_ _) | (with_reducible refine Below.alloc ?_ ?_ _) | (with_reducible refine Below.drew ?_) | (with_reducible refine Below.setCell ?_ ?_ _) | go_size))
  have HA0 := hide (HA.out.below hB0 (Nat.le_refl _))
  have HO0 := hide (World.ownsRow_made (base := w.heap.size) (e := 112) (size := 2) w #[] 0 (Nat.le_refl _) (by decide) rfl)
  go_wp2_with (at_builtin; refine wpList_append_any rfl _ _ 30 rfl w.heap.size 112 i0_Sh (.agg #[.int .i64 0, .int .i64 0]) 2 16 Try.underlying30 hi_Sh hz0_Sh hz1_Sh hz2_Sh rfl (by decide) _ _ _ rfl (HO0.out) _ _ _ _ rfl (by rw [flat_len shF_len, HA.out.1]) HA0.out.2.2.2 (flat_ones (fun _ => rfl) _) ?c3 ?c4 ?c5 ?_)
  case c3 => unfold maxLen; omega
  case c4 => omega
  case c5 => (first | go_size | (simp; omega))
  intro v' wp hownp hgp
  obtain ⟨ap, cp, rfl⟩ := own_shape hownp
  have hBp := below_grown hB0 (HO0.out) (by omega) (by go_size) hgp
  have hsp := hgp.size
  (try simp only [World.size_alloc] at hsp)
  have HGp := hide hgp; clear hgp
  (try simp only [List.nil_append, Nat.zero_add] at hownp)
  have x := hide (Owned.of_own hownp)
  have hcp := own_caps hownp
  have hcp1 := hcp.1; have hcp2 : cp ≤ 9223372036854775807 := hcp.2
  clear hcp hownp HO0 HA0 hB0 HGp
  obtain ⟨b, hb⟩ : ∃ b, best es ws = b := ⟨_, rfl⟩
  have hb0 : -1 ≤ b := by rw [← hb]; exact bestTo_ge _ _ _
  have hb1 : b < (n : Int) := by rw [← hb, ← HL.out]; exact best_lt _ _
  have Hb := hide hb; clear hb
  cases hok : sharesOkB es
  · have HV := hide (pick_none (ws := ws) (.inl hok))
    go_wp2_with fail
    refine (spec_SharesOk_is _ _ _ es _ hok _ (HA.out.below hBp (Nat.le_refl _)) hs).mono ?_
    rintro e w1 ⟨rfl, h1⟩
    have s1 := h1.size
    try simp only [World.size_alloc, World.size_setCell, World.size_drew, World.heap_drewN] at s1
    have H1 : Below wp.heap.size wp w1 := bthen (by repeat' (first | (with_reducible exact Below.refl _ _) | (with_reducible assumption) | (with_reducible refine bdrawn ?_ _) | (with_reducible refine Below.alloc ?_ ?_ _) | (with_reducible refine Below.drew ?_) | (with_reducible refine Below.setCell ?_ ?_ _) | go_size)) h1 (by go_size)
    have C1 := (bcell H1).1; have F1 := (bcell H1).2
    have P1 : Below wp.heap.size wp w1 := bthen (by repeat' (first | (with_reducible exact Below.refl _ _) | (with_reducible assumption) | (with_reducible refine bdrawn ?_ _) | (with_reducible refine Below.alloc ?_ ?_ _) | (with_reducible refine Below.drew ?_) | (with_reducible refine Below.setCell ?_ ?_ _) | go_size)) h1 (by go_size)
    replace x := hide (x.out.below P1 (by omega))
    go_wp2_with fail
    go_returns
    rw [HV.out.1, HV.out.2]
    exact ⟨n, _, _, rfl, x.out.1, HL.out, bthen hBp H1 (by omega)⟩
  · rcases Int.lt_or_le b 0 with hneg | hpos
    · have HV := hide (pick_none (es := es) (ws := ws) (.inr (by rw [Hb.out]; exact hneg)))
      go_wp2_with fail
      refine (spec_SharesOk_is _ _ _ es _ hok _ (HA.out.below hBp (Nat.le_refl _)) hs).mono ?_
      rintro e w1 ⟨rfl, h1⟩
      have s1 := h1.size
      try simp only [World.size_alloc, World.size_setCell, World.size_drew, World.heap_drewN] at s1
      have H1 : Below wp.heap.size wp w1 := bthen (by repeat' (first | (with_reducible exact Below.refl _ _) | (with_reducible assumption) | (with_reducible refine bdrawn ?_ _) | (with_reducible refine Below.alloc ?_ ?_ _) | (with_reducible refine Below.drew ?_) | (with_reducible refine Below.setCell ?_ ?_ _) | go_size)) h1 (by go_size)
      have C1 := (bcell H1).1; have F1 := (bcell H1).2
      have P1 : Below wp.heap.size wp w1 := bthen (by repeat' (first | (with_reducible exact Below.refl _ _) | (with_reducible assumption) | (with_reducible refine bdrawn ?_ _) | (with_reducible refine Below.alloc ?_ ?_ _) | (with_reducible refine Below.drew ?_) | (with_reducible refine Below.setCell ?_ ?_ _) | go_size)) h1 (by go_size)
      replace x := hide (x.out.below P1 (by omega))
      go_wp2_with fail
      refine (spec_l21Best_is _ _ _ es _ _ _ ws b Hb.out _ (isStructs_own shF_len (by omega) x.out.1) (HB.out.below (bthen hBp h1 (by omega)) (Nat.le_refl _)) hs hs2).mono ?_
      rintro e w2 ⟨rfl, h2⟩
      have s2 := h2.size
      try simp only [World.size_alloc, World.size_setCell, World.size_drew, World.heap_drewN] at s2
      have H2 : Below wp.heap.size wp w2 := bthen (by repeat' (first | (with_reducible exact Below.refl _ _) | (with_reducible assumption) | (with_reducible refine bdrawn ?_ _) | (with_reducible refine Below.alloc ?_ ?_ _) | (with_reducible refine Below.drew ?_) | (with_reducible refine Below.setCell ?_ ?_ _) | go_size)) h2 (by go_size)
      have C2 := (bcell H2).1; have F2 := (bcell H2).2
      have P2 : Below w1.heap.size w1 w2 := bthen (by repeat' (first | (with_reducible exact Below.refl _ _) | (with_reducible assumption) | (with_reducible refine bdrawn ?_ _) | (with_reducible refine Below.alloc ?_ ?_ _) | (with_reducible refine Below.drew ?_) | (with_reducible refine Below.setCell ?_ ?_ _) | go_size)) h2 (by go_size)
      replace x := hide (x.out.below P2 (by omega))
      go_wp2_with fail
      go_returns
      rw [HV.out.1, HV.out.2]
      exact ⟨n, _, _, rfl, x.out.1, HL.out, bthen hBp H2 (by omega)⟩
    · obtain ⟨m, rfl⟩ := Int.eq_ofNat_of_zero_le hpos
      obtain ⟨f, hf⟩ : ∃ f, es[m]? = some f := ⟨_, List.getElem?_eq_getElem (by rw [HL.out]; omega)⟩
      have HF := hide hf
      have HCr := hide (creditAt_of hf)
      clear hf
      obtain ⟨g, rfl, hg0, hg1, hg2, hcell, hfr⟩ := x.out.some (by omega)
      have g0 : wp.cell? ⟨g, m * 2, none⟩ = some (.int .i64 f.weight) := (hcell (m * 2 + 0) (by omega)).trans (flat_at shF_len es m 0 f _ HF.out rfl)
      have g1 : wp.cell? ⟨g, m * 2 + 1, none⟩ = some (.int .i64 f.credit) := (hcell (m * 2 + 1) (by omega)).trans (flat_at shF_len es m 1 f _ HF.out rfl)
      clear hcell
      have bd := shareOk_bd hok HF.out
      have bd1 := bd.2.2.1; have bd2 : f.credit ≤ 9 := by omega
      clear bd
      by_cases hz : f.credit = 0
      · skip
        go_wp2_with fail
        refine (spec_SharesOk_is _ _ _ es _ hok _ (HA.out.below hBp (Nat.le_refl _)) hs).mono ?_
        rintro e w1 ⟨rfl, h1⟩
        have s1 := h1.size
        try simp only [World.size_alloc, World.size_setCell, World.size_drew, World.heap_drewN] at s1
        have H1 : Below wp.heap.size wp w1 := bthen (by repeat' (first | (with_reducible exact Below.refl _ _) | (with_reducible assumption) | (with_reducible refine bdrawn ?_ _) | (with_reducible refine Below.alloc ?_ ?_ _) | (with_reducible refine Below.drew ?_) | (with_reducible refine Below.setCell ?_ ?_ _) | go_size)) h1 (by go_size)
        have C1 := (bcell H1).1; have F1 := (bcell H1).2
        have P1 : Below wp.heap.size wp w1 := bthen (by repeat' (first | (with_reducible exact Below.refl _ _) | (with_reducible assumption) | (with_reducible refine bdrawn ?_ _) | (with_reducible refine Below.alloc ?_ ?_ _) | (with_reducible refine Below.drew ?_) | (with_reducible refine Below.setCell ?_ ?_ _) | go_size)) h1 (by go_size)
        replace x := hide (x.out.below P1 (by omega))
        go_wp2_with fail
        refine (spec_l21Best_is _ _ _ es _ _ _ ws m Hb.out _ (isStructs_own shF_len (by omega) x.out.1) (HB.out.below (bthen hBp h1 (by omega)) (Nat.le_refl _)) hs hs2).mono ?_
        rintro e w2 ⟨rfl, h2⟩
        have s2 := h2.size
        try simp only [World.size_alloc, World.size_setCell, World.size_drew, World.heap_drewN] at s2
        have H2 : Below wp.heap.size wp w2 := bthen (by repeat' (first | (with_reducible exact Below.refl _ _) | (with_reducible assumption) | (with_reducible refine bdrawn ?_ _) | (with_reducible refine Below.alloc ?_ ?_ _) | (with_reducible refine Below.drew ?_) | (with_reducible refine Below.setCell ?_ ?_ _) | go_size)) h2 (by go_size)
        have C2 := (bcell H2).1; have F2 := (bcell H2).2
        have P2 : Below w1.heap.size w1 w2 := bthen (by repeat' (first | (with_reducible exact Below.refl _ _) | (with_reducible assumption) | (with_reducible refine bdrawn ?_ _) | (with_reducible refine Below.alloc ?_ ?_ _) | (with_reducible refine Below.drew ?_) | (with_reducible refine Below.setCell ?_ ?_ _) | go_size)) h2 (by go_size)
        replace x := hide (x.out.below P2 (by omega))
        go_wp2_with fail
        obtain ⟨m', hb'⟩ : ∃ m' : Nat, best (refill es) ws = m' := Int.eq_ofNat_of_zero_le ((best_pos_len (refill_len es)).2 (by rw [Hb.out]; omega))
        have hm' : m' < n := by have := best_lt (refill es) ws; rw [hb', refill_len, HL.out] at this; omega
        have HV := hide (pick_turn hok Hb.out (by rw [HCr.out]; exact hz) hb')
        have Hb' := hide hb'
        have hBw2 := bthen hBp H2 (by omega)
        clear hb' HCr
        go_loopw [8] (fun i wr => ∃ k : Nat, k ≤ n ∧ i = .int .i64 k ∧ wr.ownsRow w.heap.size 112 2 (.slice (some ⟨g, 0, none⟩) n cp) n ((refTo es k).flatMap shF) ∧ Below w.heap.size w wr ∧ w2.heap.size ≤ wr.heap.size) (fun i _ => n - (intOf i).toNat)
        case atStart => exact ⟨0, by omega, rfl, x.out.1, hBw2, by omega⟩
        case round =>
          obtain ⟨k, hk, rfl, hown, hB, hsz⟩ := hrel
          by_cases hlt : k < n
          · obtain ⟨e, he⟩ : ∃ e, es[k]? = some e := ⟨_, List.getElem?_eq_getElem (by rw [HL.out]; omega)⟩
            have k0 : wr.cell? ⟨g, k * 2, none⟩ = some (.int .i64 e.weight) := (hown.cellAt (k * 2 + 0) (by omega)).trans (flat_at shF_len _ k 0 e _ (refTo_at he) rfl)
            have k1 : wr.cell? ⟨g, k * 2 + 1, none⟩ = some (.int .i64 e.credit) := (hown.cellAt (k * 2 + 1) (by omega)).trans (flat_at shF_len _ k 1 e _ (refTo_at he) rfl)
            have kf := fun j => hown.frozenAt j
            have i0 : (0 : Int) ≤ (k : Int) := by omega
            have i1 : (k : Int) < (n : Int) := by omega
            have HE := hide he
            have HO := hide hown
            clear hown he
            go_wp2_with fail
            go_roundw
            case rel =>
              refine ⟨k + 1, by omega, by go_num, ?_, (by repeat' (first | (with_reducible exact Below.refl _ _) | (with_reducible assumption) | (with_reducible refine bdrawn ?_ _) | (with_reducible refine Below.alloc ?_ ?_ _) | (with_reducible refine Below.drew ?_) | (with_reducible refine Below.setCell ?_ ?_ _) | go_size)), by go_size⟩
              have hst := (HO.out.stored (k * 2 + 1) (.int .i64 e.weight)).1
              rw [flat_set shF_len _ k 1 e ⟨e.weight, e.weight⟩ _ (refTo_at HE.out) rfl (by omega), refTo_next HE.out] at hst
              exact hst
            case measure => simp [intOf]; omega
          · obtain rfl : k = n := by omega
            obtain ⟨f', hf'⟩ : ∃ f, es[m']? = some f := ⟨_, List.getElem?_eq_getElem (by rw [HL.out]; omega)⟩
            have bd := shareOk_bd hok hf'
            have bd3 := bd.1; have bd4 : f'.weight ≤ 9 := bd.2.1
            have HF' := hide (refill_at hf')
            rw [show refTo es k = refill es by unfold refTo; rw [List.take_of_length_le (by rw [refill_len, HL.out]; exact Nat.le_refl _), List.drop_eq_nil_of_le (by rw [HL.out]; exact Nat.le_refl _), List.append_nil]] at hown
            have y := hide (Owned.of_own hown)
            have k0 : wr.cell? ⟨g, m' * 2, none⟩ = some (.int .i64 f'.weight) := (hown.cellAt (m' * 2 + 0) (by omega)).trans (flat_at shF_len _ m' 0 _ _ HF'.out rfl)
            have k1 : wr.cell? ⟨g, m' * 2 + 1, none⟩ = some (.int .i64 f'.weight) := (hown.cellAt (m' * 2 + 1) (by omega)).trans (flat_at shF_len _ m' 1 _ _ HF'.out rfl)
            have kf := fun j => hown.frozenAt j
            clear bd hf' hown
            have hsr : g < wr.heap.size := by omega
            go_wp2_with fail
            refine (spec_l21Best_is _ _ _ (refill es) _ _ _ ws m' Hb'.out _ (isStructs_own shF_len (by omega) y.out.1) (HB.out.below hB (Nat.le_refl _)) hs hs2).mono ?_
            rintro e w1 ⟨rfl, h1⟩
            have s1 := h1.size
            try simp only [World.size_alloc, World.size_setCell, World.size_drew, World.heap_drewN] at s1
            have H1 : Below wr.heap.size wr w1 := bthen (by repeat' (first | (with_reducible exact Below.refl _ _) | (with_reducible assumption) | (with_reducible refine bdrawn ?_ _) | (with_reducible refine Below.alloc ?_ ?_ _) | (with_reducible refine Below.drew ?_) | (with_reducible refine Below.setCell ?_ ?_ _) | go_size)) h1 (by go_size)
            have C1 := (bcell H1).1; have F1 := (bcell H1).2
            have P1 : Below wr.heap.size wr w1 := bthen (by repeat' (first | (with_reducible exact Below.refl _ _) | (with_reducible assumption) | (with_reducible refine bdrawn ?_ _) | (with_reducible refine Below.alloc ?_ ?_ _) | (with_reducible refine Below.drew ?_) | (with_reducible refine Below.setCell ?_ ?_ _) | go_size)) h1 (by go_size)
            replace y := hide (y.out.below P1 (by omega))
            have i1 : (m' : Int) < (k : Int) := by omega
            go_wp2_with fail
            go_returns
            rw [HV.out.1, HV.out.2, spend_at HF'.out]
            have hst := (y.out.1.stored (m' * 2 + 1) (.int .i64 (f'.weight - 1))).1
            rw [flat_set shF_len _ m' 1 _ ⟨f'.weight, f'.weight - 1⟩ _ HF'.out rfl (by omega)] at hst
            have hBE := bthen hB H1 (by omega)
            have hBs := hBE.size
            exact ⟨k, _, _, rfl, hst, by rw [List.length_set, refill_len, HL.out], (by repeat' (first | (with_reducible exact Below.refl _ _) | (with_reducible assumption) | (with_reducible refine bdrawn ?_ _) | (with_reducible refine Below.alloc ?_ ?_ _) | (with_reducible refine Below.drew ?_) | (with_reducible refine Below.setCell ?_ ?_ _) | go_size))⟩
      · have HV := hide (pick_stay hok Hb.out (by rw [HCr.out]; exact hz))
        go_wp2_with fail
        refine (spec_SharesOk_is _ _ _ es _ hok _ (HA.out.below hBp (Nat.le_refl _)) hs).mono ?_
        rintro e w1 ⟨rfl, h1⟩
        have s1 := h1.size
        try simp only [World.size_alloc, World.size_setCell, World.size_drew, World.heap_drewN] at s1
        have H1 : Below wp.heap.size wp w1 := bthen (by repeat' (first | (with_reducible exact Below.refl _ _) | (with_reducible assumption) | (with_reducible refine bdrawn ?_ _) | (with_reducible refine Below.alloc ?_ ?_ _) | (with_reducible refine Below.drew ?_) | (with_reducible refine Below.setCell ?_ ?_ _) | go_size)) h1 (by go_size)
        have C1 := (bcell H1).1; have F1 := (bcell H1).2
        have P1 : Below wp.heap.size wp w1 := bthen (by repeat' (first | (with_reducible exact Below.refl _ _) | (with_reducible assumption) | (with_reducible refine bdrawn ?_ _) | (with_reducible refine Below.alloc ?_ ?_ _) | (with_reducible refine Below.drew ?_) | (with_reducible refine Below.setCell ?_ ?_ _) | go_size)) h1 (by go_size)
        replace x := hide (x.out.below P1 (by omega))
        go_wp2_with fail
        refine (spec_l21Best_is _ _ _ es _ _ _ ws m Hb.out _ (isStructs_own shF_len (by omega) x.out.1) (HB.out.below (bthen hBp h1 (by omega)) (Nat.le_refl _)) hs hs2).mono ?_
        rintro e w2 ⟨rfl, h2⟩
        have s2 := h2.size
        try simp only [World.size_alloc, World.size_setCell, World.size_drew, World.heap_drewN] at s2
        have H2 : Below wp.heap.size wp w2 := bthen (by repeat' (first | (with_reducible exact Below.refl _ _) | (with_reducible assumption) | (with_reducible refine bdrawn ?_ _) | (with_reducible refine Below.alloc ?_ ?_ _) | (with_reducible refine Below.drew ?_) | (with_reducible refine Below.setCell ?_ ?_ _) | go_size)) h2 (by go_size)
        have C2 := (bcell H2).1; have F2 := (bcell H2).2
        have P2 : Below w1.heap.size w1 w2 := bthen (by repeat' (first | (with_reducible exact Below.refl _ _) | (with_reducible assumption) | (with_reducible refine bdrawn ?_ _) | (with_reducible refine Below.alloc ?_ ?_ _) | (with_reducible refine Below.drew ?_) | (with_reducible refine Below.setCell ?_ ?_ _) | go_size)) h2 (by go_size)
        replace x := hide (x.out.below P2 (by omega))
        go_wp2_with fail
        go_returns
        rw [HV.out.1, HV.out.2, spend_at HF.out]
        have hst := (x.out.1.stored (m * 2 + 1) (.int .i64 (f.credit - 1))).1
        rw [flat_set shF_len es m 1 f ⟨f.weight, f.credit - 1⟩ _ HF.out rfl (by omega)] at hst
        have hBE := bthen hBp H2 (by omega)
        have hBs := hBE.size
        exact ⟨n, _, _, rfl, hst, by rw [List.length_set, HL.out], (by repeat' (first | (with_reducible exact Below.refl _ _) | (with_reducible assumption) | (with_reducible refine bdrawn ?_ _) | (with_reducible refine Below.alloc ?_ ?_ _) | (with_reducible refine Below.drew ?_) | (with_reducible refine Below.setCell ?_ ?_ _) | go_size))⟩

def GotPickN (w : World) (n : Nat) (es : List Sh) (b : Int) (e : Ending) (w' : World) : Prop :=
  ∃ a c, e = .returned (.tuple #[.slice a n c, .int .i64 b]) ∧ w'.ownsRow w.heap.size 112 2 (.slice a n c) n (es.flatMap shF) ∧ Below w.heap.size w w'
theorem GotPick.at_len {w : World} {n : Nat} {es : List Sh} {b : Int} {e : Ending} {w' : World} (h : GotPick w es b e w') (hl : es.length = n) : GotPickN w n es b e w' := by
  obtain ⟨m, a, c, h1, h2, h3, h4⟩ := h
  obtain rfl : n = m := by rw [← hl, h3]
  exact ⟨a, c, h1, h2, h4⟩
theorem spec_PickTenant_n (a : Option Addr) (n c : Nat) (es : List Sh) (a2 : Option Addr) (n2 c2 : Nat) (ws : List Bool) (w : World) (ha : IsStructs shF 2 w a n c es) (hb : IsBools w a2 n2 c2 ws) (hs : n ≤ 2097152) (hs2 : n2 ≤ 2097152) :
    Calls Try.prog 21 #[.slice a n c, .slice a2 n2 c2] w (GotPickN w n (pickL es ws) (pickN es ws)) :=
  (spec_PickTenant a n c es a2 n2 c2 ws w ha hb hs hs2).mono fun _ _ h => h.at_len (by rw [pickL_len, ha.1])
theorem impl_PickTenant_n (a : Option Addr) (n c : Nat) (es : List Sh) (a2 : Option Addr) (n2 c2 : Nat) (ws : List Bool) (w : World) (ha : IsStructs shF 2 w a n c es) (hb : IsBools w a2 n2 c2 ws) (hs : n ≤ 2097152) (hs2 : n2 ≤ 2097152) :
    Calls Try.prog 20 #[.slice a n c, .slice a2 n2 c2] w (GotPickN w n (pickL es ws) (pickN es ws)) :=
  (impl_PickTenant a n c es a2 n2 c2 ws w ha hb hs hs2).mono fun _ _ h => h.at_len (by rw [pickL_len, ha.1])
end Go.Proofs.Ytahfbhfmhccgoaa
