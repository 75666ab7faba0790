/- The choice of a request. -/
import Derived.Test.YtahfbhfmhccgoaaRequest
import Derived.Test.YtahfbhfmhccgoaaBools
set_option linter.unusedSimpArgs false
set_option linter.unusedVariables false
namespace Go.Proofs.Ytahfbhfmhccgoaa
open Go.RowKit Go.ChangeShapes Go.WideShapes Go.ChangeAt Go.Joins Go.Deep
open Go.ChangeMaps (open_string shut_string)
/-- The rank of the i-th request: 0 if it is not able, 3 if it waits too long, 2 for a hit, 1 for a miss. -/
def ableAt (bs : List Bool) (i : Nat) : Bool := bs[i]? == some true
def rankOf (es : List Rq) (able hit : List Bool) (lim : Int) (i : Nat) : Nat :=
  match es[i]? with
  | none => 0
  | some e => if ableAt able i = true then (if e.tm ≤ lim then 3 else if ableAt hit i = true then 2 else 1) else 0
/-- The reference's choice: the first of the greatest rank. -/
def chTo (es : List Rq) (able hit : List Bool) (lim : Int) : Nat → Int × Nat
  | 0 => (-1, 0)
  | k + 1 => if (chTo es able hit lim k).2 < rankOf es able hit lim k then ((k : Int), rankOf es able hit lim k) else chTo es able hit lim k
def chosen (es : List Rq) (able hit : List Bool) (cap now : Int) : Int :=
  if btw cap 0 1000000 = true ∧ btw now 0 1000000 = true then (chTo es able hit (now - cap) es.length).1 else -1
theorem ch_keep {es : List Rq} {able hit : List Bool} {lim : Int} {k : Nat} {p : Int × Nat} (h : chTo es able hit lim k = p) (hr : rankOf es able hit lim k ≤ p.2) : chTo es able hit lim (k + 1) = p := by
  simp only [chTo]; rw [h, if_neg (by omega)]
theorem ch_take {es : List Rq} {able hit : List Bool} {lim : Int} {k : Nat} {p : Int × Nat} (h : chTo es able hit lim k = p) {r : Nat} (hr : rankOf es able hit lim k = r) (hp : p.2 < r) : chTo es able hit lim (k + 1) = ((k : Int), r) := by
  simp only [chTo]; rw [h, hr, if_pos hp]
theorem rank_le (es : List Rq) (able hit : List Bool) (lim : Int) (k : Nat) : rankOf es able hit lim k ≤ 3 := by
  unfold rankOf; split; omega; split; split; omega; split <;> omega; omega
theorem rank_no {es : List Rq} {able hit : List Bool} {lim : Int} {k : Nat} (h : ableAt able k = false) : rankOf es able hit lim k = 0 := by
  unfold rankOf; split; rfl; rw [h]; rfl
theorem rank_late {es : List Rq} {able hit : List Bool} {lim : Int} {k : Nat} {e : Rq} (he : es[k]? = some e) (h : ableAt able k = true) (hl : e.tm ≤ lim) : rankOf es able hit lim k = 3 := by
  unfold rankOf; rw [he]; simp only; rw [if_pos h, if_pos hl]
theorem rank_hit {es : List Rq} {able hit : List Bool} {lim : Int} {k : Nat} {e : Rq} (he : es[k]? = some e) (h : ableAt able k = true) (hl : ¬ e.tm ≤ lim) (hh : ableAt hit k = true) : rankOf es able hit lim k = 2 := by
  unfold rankOf; rw [he]; simp only; rw [if_pos h, if_neg hl, if_pos hh]
theorem rank_miss {es : List Rq} {able hit : List Bool} {lim : Int} {k : Nat} {e : Rq} (he : es[k]? = some e) (h : ableAt able k = true) (hl : ¬ e.tm ≤ lim) (hh : ableAt hit k = false) : rankOf es able hit lim k = 1 := by
  unfold rankOf; rw [he]; simp only; rw [if_pos h, if_neg hl, if_neg (by rw [hh]; simp)]
theorem able_of {bs : List Bool} {k : Nat} {b : Bool} (h : bs[k]? = some b) : ableAt bs k = b := by unfold ableAt; rw [h]; cases b <;> rfl
theorem able_out {bs : List Bool} {k : Nat} (h : bs.length ≤ k) : ableAt bs k = false := by unfold ableAt; rw [List.getElem?_eq_none h]; rfl
theorem ch_rest {es : List Rq} {able hit : List Bool} {lim : Int} {k : Nat} {p : Int × Nat} (h : chTo es able hit lim k = p) (hq : able.length ≤ k ∨ p.2 = 3) : ∀ m, k ≤ m → chTo es able hit lim m = p := by
  intro m hm
  induction m with
  | zero => obtain rfl : k = 0 := by omega
            exact h
  | succ m ih =>
    by_cases hk : k = m + 1
    · rw [← hk]; exact h
    · refine ch_keep (ih (by omega)) ?_
      rcases hq with hq | hq
      · rw [rank_no (able_out (by omega))]; omega
      · have := rank_le es able hit lim m; omega

set_option maxRecDepth 100000 in
set_option maxHeartbeats 4000000 in
theorem spec_ChooseRequest (a : Option Addr) (n c : Nat) (es : List Rq) (a2 : Option Addr) (n2 c2 : Nat) (able : List Bool) (a3 : Option Addr) (n3 c3 : Nat) (hit : List Bool) (cap now : Int) (w : World)
    (ha : IsStructs rqF 6 w a n c es) (hb : IsBools w a2 n2 c2 able) (hd : IsBools w a3 n3 c3 hit) (hs : n ≤ 1048576) (hs2 : n2 ≤ 1048576) (hs3 : n3 ≤ 1048576) :
    Calls Try.prog 25 #[.slice a n c, .slice a2 n2 c2, .slice a3 n3 c3, .int .i64 cap, .int .i64 now] w fun r w' => r = .returned (.int .i64 (chosen es able hit cap now)) ∧ Below w.heap.size w w' := by
  have HA := hide ha; have HB := hide hb; have HD := hide hd
  have hc := ha.2.1; have hc2 := hb.2.1; have hc3 := hd.2.1
  clear ha hb hd
  cases q1 : btw cap 0 1000000
  · have HV := hide (show chosen es able hit cap now = -1 by unfold chosen; rw [if_neg (by rw [q1]; simp)])
    go_enter Try.func25, Try.ntmps25
    go_wp2_with (first | (go_at_call 78; refine (spec_l01In _ _ _ _).mono ?_; rintro e w1 ⟨rfl, rfl⟩))
    go_ret
    exact ⟨ret_int (by rw [HV.out]), (by repeat' (first | (with_reducible exact Below.refl _ _) | (with_reducible assumption) | (with_reducible refine bdrawn ?_ _) | (with_reducible refine Below.alloc ?_ ?_ _) | (with_reducible refine Below.drew ?_) | (with_reducible refine Below.setCell ?_ ?_ _) | go_size))⟩
  · cases q2 : btw now 0 1000000
    · have HV := hide (show chosen es able hit cap now = -1 by unfold chosen; rw [if_neg (by rw [q2]; simp)])
      go_enter Try.func25, Try.ntmps25
      go_wp2_with (first | (go_at_call 78; refine (spec_l01In _ _ _ _).mono ?_; rintro e w1 ⟨rfl, rfl⟩))
      go_ret
      exact ⟨ret_int (by rw [HV.out]), (by repeat' (first | (with_reducible exact Below.refl _ _) | (with_reducible assumption) | (with_reducible refine bdrawn ?_ _) | (with_reducible refine Below.alloc ?_ ?_ _) | (with_reducible refine Below.drew ?_) | (with_reducible refine Below.setCell ?_ ?_ _) | go_size))⟩
    · obtain ⟨hp1, hp2⟩ := btw_true.1 q1
      obtain ⟨hp3, hp4⟩ := btw_true.1 q2
      have HV := hide (show chosen es able hit cap now = (chTo es able hit (now - cap) n).1 by unfold chosen; rw [if_pos ⟨q1, q2⟩, HA.out.1])
      go_enter Try.func25, Try.ntmps25
      go_wp2_with (first | (go_at_call 78; refine (spec_l01In _ _ _ _).mono ?_; rintro e w1 ⟨rfl, rfl⟩))
      have hw1 : now - cap ≤ 1000000 := by omega
      have hw2 : -1000000 ≤ now - cap := by omega
      go_loopw [11, 12, 13] (fun v r i wr => ∃ (k R : Nat) (b : Int), k ≤ n ∧ k ≤ n2 ∧ i = .int .i64 k ∧ v = .int .i64 b ∧ r = .int .i64 R ∧ R ≤ 3 ∧ Hid (chTo es able hit (now - cap) k = (b, R)) ∧ Below w.heap.size w wr) (fun _ _ i _ => n - (intOf i).toNat)
      case atStart => exact ⟨0, 0, -1, by omega, by omega, rfl, rfl, rfl, by omega, hide rfl, Below.refl _ _⟩
      case round =>
        obtain ⟨k, R, b, hk, hk2, rfl, rfl, rfl, hR, HT, hB⟩ := hrel
        by_cases hlt : k < n ∧ k < n2
        · obtain ⟨hlt, hlt2⟩ := hlt
          obtain ⟨e, b1, o1, hh_e, rfl, hlb, hcell⟩ := HA.out.get rqF_len (by omega) (show k < n by omega)
          have e0 : wr.cell? ⟨b1, o1 + k * 6, none⟩ = some (.int .i64 e.id) := (hB.cell (p := ⟨b1, o1 + (k * 6 + 0), none⟩) hlb).trans (hcell 0 _ rfl)
          have e1 : wr.cell? ⟨b1, o1 + k * 6 + 1, none⟩ = some (.int .i64 e.tenant) := (hB.cell (p := ⟨b1, o1 + (k * 6 + 1), none⟩) hlb).trans (hcell 1 _ rfl)
          have e2 : wr.cell? ⟨b1, o1 + k * 6 + 2, none⟩ = some (.int .i64 e.line) := (hB.cell (p := ⟨b1, o1 + (k * 6 + 2), none⟩) hlb).trans (hcell 2 _ rfl)
          have e3 : wr.cell? ⟨b1, o1 + k * 6 + 3, none⟩ = some (.bool e.write) := (hB.cell (p := ⟨b1, o1 + (k * 6 + 3), none⟩) hlb).trans (hcell 3 _ rfl)
          have e4 : wr.cell? ⟨b1, o1 + k * 6 + 4, none⟩ = some (.int .i64 e.data) := (hB.cell (p := ⟨b1, o1 + (k * 6 + 4), none⟩) hlb).trans (hcell 4 _ rfl)
          have e5 : wr.cell? ⟨b1, o1 + k * 6 + 5, none⟩ = some (.int .i64 e.tm) := (hB.cell (p := ⟨b1, o1 + (k * 6 + 5), none⟩) hlb).trans (hcell 5 _ rfl)
          have HE_e := hide hh_e
          have sz_e := hB.size
          have lt_b1 : b1 < wr.heap.size := (by have := hB.size; omega)
          have lw_b1 := hlb
          have i0_e : (0 : Int) ≤ (k : Int) := by omega
          have i1_e : (k : Int) < (n : Int) := by omega
          clear hcell hlb hh_e
          obtain ⟨z, b2, o2, hz, rfl, hlb2, hcz⟩ := HB.out.2.2.2.get (k := k) (by rw [HB.out.1]; exact hlt2)
          have z0 := (hB.cell (p := ⟨b2, o2 + k, none⟩) hlb2).trans hcz
          have HZ := hide (able_of hz)
          have h3 : (k : Int) < (n2 : Int) := by omega
          clear hcz hz
          cases z
          · go_wp2_with fail
            go_roundw
            case rel => exact ⟨k + 1, R, b, by omega, by omega, by go_num, rfl, rfl, by omega, hide (ch_keep HT.out (by rw [rank_no HZ.out]; omega)), (by repeat' (first | (with_reducible exact Below.refl _ _) | (with_reducible assumption) | (with_reducible refine bdrawn ?_ _) | (with_reducible refine Below.alloc ?_ ?_ _) | (with_reducible refine Below.drew ?_) | (with_reducible refine Below.setCell ?_ ?_ _) | go_size))⟩
            case measure => simp [intOf]; omega
          · by_cases hlate : e.tm ≤ now - cap
            · have HRk := hide (rank_late (hit := hit) HE_e.out HZ.out hlate)
              by_cases hn3 : k < n3
              · obtain ⟨y, b3, o3, hy, rfl, hlb3, hcy⟩ := HD.out.2.2.2.get (k := k) (by rw [HD.out.1]; exact hn3)
                have y0 := (hB.cell (p := ⟨b3, o3 + k, none⟩) hlb3).trans hcy
                have HY := hide (able_of hy)
                have hn4 : (k : Int) < (n3 : Int) := by omega
                clear hcy hy
                cases y
                · skip
                  by_cases hRR : R < 3
                  · have hR2 : (R : Int) < 3 := by omega
                    go_wp2_with fail
                    go_roundw
                    case rel => exact ⟨k + 1, 3, k, by omega, by omega, by go_num, rfl, rfl, by omega, hide (ch_take HT.out HRk.out hRR), (by repeat' (first | (with_reducible exact Below.refl _ _) | (with_reducible assumption) | (with_reducible refine bdrawn ?_ _) | (with_reducible refine Below.alloc ?_ ?_ _) | (with_reducible refine Below.drew ?_) | (with_reducible refine Below.setCell ?_ ?_ _) | go_size))⟩
                    case measure => simp [intOf]; omega
                  · have hR2 : ¬ (R : Int) < 3 := by omega
                    go_wp2_with fail
                    go_roundw
                    case rel => exact ⟨k + 1, R, b, by omega, by omega, by go_num, rfl, rfl, by omega, hide (ch_keep HT.out (by rw [HRk.out]; omega)), (by repeat' (first | (with_reducible exact Below.refl _ _) | (with_reducible assumption) | (with_reducible refine bdrawn ?_ _) | (with_reducible refine Below.alloc ?_ ?_ _) | (with_reducible refine Below.drew ?_) | (with_reducible refine Below.setCell ?_ ?_ _) | go_size))⟩
                    case measure => simp [intOf]; omega
                · skip
                  by_cases hRR : R < 3
                  · have hR2 : (R : Int) < 3 := by omega
                    go_wp2_with fail
                    go_roundw
                    case rel => exact ⟨k + 1, 3, k, by omega, by omega, by go_num, rfl, rfl, by omega, hide (ch_take HT.out HRk.out hRR), (by repeat' (first | (with_reducible exact Below.refl _ _) | (with_reducible assumption) | (with_reducible refine bdrawn ?_ _) | (with_reducible refine Below.alloc ?_ ?_ _) | (with_reducible refine Below.drew ?_) | (with_reducible refine Below.setCell ?_ ?_ _) | go_size))⟩
                    case measure => simp [intOf]; omega
                  · have hR2 : ¬ (R : Int) < 3 := by omega
                    go_wp2_with fail
                    go_roundw
                    case rel => exact ⟨k + 1, R, b, by omega, by omega, by go_num, rfl, rfl, by omega, hide (ch_keep HT.out (by rw [HRk.out]; omega)), (by repeat' (first | (with_reducible exact Below.refl _ _) | (with_reducible assumption) | (with_reducible refine bdrawn ?_ _) | (with_reducible refine Below.alloc ?_ ?_ _) | (with_reducible refine Below.drew ?_) | (with_reducible refine Below.setCell ?_ ?_ _) | go_size))⟩
                    case measure => simp [intOf]; omega
              · have hn4 : ¬ (k : Int) < (n3 : Int) := by omega
                have HY := hide (able_out (bs := hit) (k := k) (by rw [HD.out.1]; omega))
                by_cases hRR : R < 3
                · have hR2 : (R : Int) < 3 := by omega
                  go_wp2_with fail
                  go_roundw
                  case rel => exact ⟨k + 1, 3, k, by omega, by omega, by go_num, rfl, rfl, by omega, hide (ch_take HT.out HRk.out hRR), (by repeat' (first | (with_reducible exact Below.refl _ _) | (with_reducible assumption) | (with_reducible refine bdrawn ?_ _) | (with_reducible refine Below.alloc ?_ ?_ _) | (with_reducible refine Below.drew ?_) | (with_reducible refine Below.setCell ?_ ?_ _) | go_size))⟩
                  case measure => simp [intOf]; omega
                · have hR2 : ¬ (R : Int) < 3 := by omega
                  go_wp2_with fail
                  go_roundw
                  case rel => exact ⟨k + 1, R, b, by omega, by omega, by go_num, rfl, rfl, by omega, hide (ch_keep HT.out (by rw [HRk.out]; omega)), (by repeat' (first | (with_reducible exact Below.refl _ _) | (with_reducible assumption) | (with_reducible refine bdrawn ?_ _) | (with_reducible refine Below.alloc ?_ ?_ _) | (with_reducible refine Below.drew ?_) | (with_reducible refine Below.setCell ?_ ?_ _) | go_size))⟩
                  case measure => simp [intOf]; omega
            · skip
              by_cases hn3 : k < n3
              · obtain ⟨y, b3, o3, hy, rfl, hlb3, hcy⟩ := HD.out.2.2.2.get (k := k) (by rw [HD.out.1]; exact hn3)
                have y0 := (hB.cell (p := ⟨b3, o3 + k, none⟩) hlb3).trans hcy
                have HY := hide (able_of hy)
                have hn4 : (k : Int) < (n3 : Int) := by omega
                clear hcy hy
                cases y
                · skip
                  have HRk := hide (rank_miss HE_e.out HZ.out hlate HY.out)
                  by_cases hRR : R < 1
                  · have hR2 : (R : Int) < 1 := by omega
                    go_wp2_with fail
                    go_roundw
                    case rel => exact ⟨k + 1, 1, k, by omega, by omega, by go_num, rfl, rfl, by omega, hide (ch_take HT.out HRk.out hRR), (by repeat' (first | (with_reducible exact Below.refl _ _) | (with_reducible assumption) | (with_reducible refine bdrawn ?_ _) | (with_reducible refine Below.alloc ?_ ?_ _) | (with_reducible refine Below.drew ?_) | (with_reducible refine Below.setCell ?_ ?_ _) | go_size))⟩
                    case measure => simp [intOf]; omega
                  · have hR2 : ¬ (R : Int) < 1 := by omega
                    go_wp2_with fail
                    go_roundw
                    case rel => exact ⟨k + 1, R, b, by omega, by omega, by go_num, rfl, rfl, by omega, hide (ch_keep HT.out (by rw [HRk.out]; omega)), (by repeat' (first | (with_reducible exact Below.refl _ _) | (with_reducible assumption) | (with_reducible refine bdrawn ?_ _) | (with_reducible refine Below.alloc ?_ ?_ _) | (with_reducible refine Below.drew ?_) | (with_reducible refine Below.setCell ?_ ?_ _) | go_size))⟩
                    case measure => simp [intOf]; omega
                · skip
                  have HRk := hide (rank_hit HE_e.out HZ.out hlate HY.out)
                  by_cases hRR : R < 2
                  · have hR2 : (R : Int) < 2 := by omega
                    go_wp2_with fail
                    go_roundw
                    case rel => exact ⟨k + 1, 2, k, by omega, by omega, by go_num, rfl, rfl, by omega, hide (ch_take HT.out HRk.out hRR), (by repeat' (first | (with_reducible exact Below.refl _ _) | (with_reducible assumption) | (with_reducible refine bdrawn ?_ _) | (with_reducible refine Below.alloc ?_ ?_ _) | (with_reducible refine Below.drew ?_) | (with_reducible refine Below.setCell ?_ ?_ _) | go_size))⟩
                    case measure => simp [intOf]; omega
                  · have hR2 : ¬ (R : Int) < 2 := by omega
                    go_wp2_with fail
                    go_roundw
                    case rel => exact ⟨k + 1, R, b, by omega, by omega, by go_num, rfl, rfl, by omega, hide (ch_keep HT.out (by rw [HRk.out]; omega)), (by repeat' (first | (with_reducible exact Below.refl _ _) | (with_reducible assumption) | (with_reducible refine bdrawn ?_ _) | (with_reducible refine Below.alloc ?_ ?_ _) | (with_reducible refine Below.drew ?_) | (with_reducible refine Below.setCell ?_ ?_ _) | go_size))⟩
                    case measure => simp [intOf]; omega
              · have hn4 : ¬ (k : Int) < (n3 : Int) := by omega
                have HY := hide (able_out (bs := hit) (k := k) (by rw [HD.out.1]; omega))
                have HRk := hide (rank_miss HE_e.out HZ.out hlate HY.out)
                by_cases hRR : R < 1
                · have hR2 : (R : Int) < 1 := by omega
                  go_wp2_with fail
                  go_roundw
                  case rel => exact ⟨k + 1, 1, k, by omega, by omega, by go_num, rfl, rfl, by omega, hide (ch_take HT.out HRk.out hRR), (by repeat' (first | (with_reducible exact Below.refl _ _) | (with_reducible assumption) | (with_reducible refine bdrawn ?_ _) | (with_reducible refine Below.alloc ?_ ?_ _) | (with_reducible refine Below.drew ?_) | (with_reducible refine Below.setCell ?_ ?_ _) | go_size))⟩
                  case measure => simp [intOf]; omega
                · have hR2 : ¬ (R : Int) < 1 := by omega
                  go_wp2_with fail
                  go_roundw
                  case rel => exact ⟨k + 1, R, b, by omega, by omega, by go_num, rfl, rfl, by omega, hide (ch_keep HT.out (by rw [HRk.out]; omega)), (by repeat' (first | (with_reducible exact Below.refl _ _) | (with_reducible assumption) | (with_reducible refine bdrawn ?_ _) | (with_reducible refine Below.alloc ?_ ?_ _) | (with_reducible refine Below.drew ?_) | (with_reducible refine Below.setCell ?_ ?_ _) | go_size))⟩
                  case measure => simp [intOf]; omega
        · have HT2 := hide (show chTo es able hit (now - cap) n = (b, R) by
            by_cases hkn : k = n
            · rw [← hkn]; exact HT.out
            · exact ch_rest HT.out (.inl (by rw [HB.out.1]; omega)) n hk)
          by_cases hkn : k < n
          all_goals
            go_wp2
            go_ret
            exact ⟨ret_int (by rw [HV.out, HT2.out]), hB⟩

def chInv (es : List Rq) (able hit : List Bool) (lim : Int) (k : Nat) (f h : Int) : Prop :=
  (chTo es able hit lim k = (-1, 0) ∧ f = -1 ∧ h = -1) ∨ (chTo es able hit lim k = (f, 1) ∧ 0 ≤ f ∧ h = -1) ∨ (chTo es able hit lim k = (h, 2) ∧ 0 ≤ h ∧ 0 ≤ f)
section
variable {es : List Rq} {able hit : List Bool} {lim : Int} {k : Nat} {f h : Int}
theorem inv_keep (hi : chInv es able hit lim k f h) (hr : rankOf es able hit lim k = 0) : chInv es able hit lim (k + 1) f h := by
  rcases hi with ⟨h1, h2, h3⟩ | ⟨h1, h2, h3⟩ | ⟨h1, h2, h3⟩
  · exact .inl ⟨ch_keep h1 (by rw [hr]; omega), h2, h3⟩
  · exact .inr (.inl ⟨ch_keep h1 (by rw [hr]; omega), h2, h3⟩)
  · exact .inr (.inr ⟨ch_keep h1 (by rw [hr]; omega), h2, h3⟩)
theorem inv_hit (hi : chInv es able hit lim k f h) (hr : rankOf es able hit lim k = 2) : chInv es able hit lim (k + 1) (if f < 0 then (k : Int) else f) (if h < 0 then (k : Int) else h) := by
  rcases hi with ⟨h1, h2, h3⟩ | ⟨h1, h2, h3⟩ | ⟨h1, h2, h3⟩
  · rw [if_pos (by omega), if_pos (by omega)]; exact .inr (.inr ⟨ch_take h1 hr (by omega), by omega, by omega⟩)
  · rw [if_neg (by omega), if_pos (by omega)]; exact .inr (.inr ⟨ch_take h1 hr (by omega), by omega, by omega⟩)
  · rw [if_neg (by omega), if_neg (by omega)]; exact .inr (.inr ⟨ch_keep h1 (by rw [hr]; omega), h2, h3⟩)
theorem inv_miss (hi : chInv es able hit lim k f h) (hr : rankOf es able hit lim k = 1) : chInv es able hit lim (k + 1) (if f < 0 then (k : Int) else f) h := by
  rcases hi with ⟨h1, h2, h3⟩ | ⟨h1, h2, h3⟩ | ⟨h1, h2, h3⟩
  · rw [if_pos (by omega)]; exact .inr (.inl ⟨ch_take h1 hr (by omega), by omega, h3⟩)
  · rw [if_neg (by omega)]; exact .inr (.inl ⟨ch_keep h1 (by rw [hr]; omega), h2, h3⟩)
  · rw [if_neg (by omega)]; exact .inr (.inr ⟨ch_keep h1 (by rw [hr]; omega), h2, h3⟩)
theorem inv_late (hi : chInv es able hit lim k f h) (hr : rankOf es able hit lim k = 3) {n : Nat} (hn : k < n) : (chTo es able hit lim n).1 = k := by
  have hk : chTo es able hit lim (k + 1) = ((k : Int), 3) := by
    rcases hi with ⟨h1, _⟩ | ⟨h1, _⟩ | ⟨h1, _⟩ <;> exact ch_take h1 hr (by omega)
  rw [ch_rest hk (.inr rfl) n hn]
theorem inv_end (hi : chInv es able hit lim k f h) : (chTo es able hit lim k).1 = if 0 ≤ h then h else f := by
  rcases hi with ⟨h1, h2, h3⟩ | ⟨h1, h2, h3⟩ | ⟨h1, h2, h3⟩ <;> rw [h1] <;> simp only <;> split <;> omega
theorem inv_neg (hi : chInv es able hit lim k f h) : f < 0 → h < 0 := by
  rcases hi with ⟨h1, h2, h3⟩ | ⟨h1, h2, h3⟩ | ⟨h1, h2, h3⟩ <;> omega
end

set_option maxRecDepth 100000 in
set_option maxHeartbeats 4000000 in
theorem impl_ChooseRequest (a : Option Addr) (n c : Nat) (es : List Rq) (a2 : Option Addr) (n2 c2 : Nat) (able : List Bool) (a3 : Option Addr) (n3 c3 : Nat) (hit : List Bool) (cap now : Int) (w : World)
    (ha : IsStructs rqF 6 w a n c es) (hb : IsBools w a2 n2 c2 able) (hd : IsBools w a3 n3 c3 hit) (hs : n ≤ 1048576) (hs2 : n2 ≤ 1048576) (hs3 : n3 ≤ 1048576) :
    Calls Try.prog 24 #[.slice a n c, .slice a2 n2 c2, .slice a3 n3 c3, .int .i64 cap, .int .i64 now] w fun r w' => r = .returned (.int .i64 (chosen es able hit cap now)) ∧ Below w.heap.size w w' := by
  have HA := hide ha; have HB := hide hb; have HD := hide hd
  have hc := ha.2.1; have hc2 := hb.2.1; have hc3 := hd.2.1
  clear ha hb hd
  cases q1 : btw cap 0 1000000
  · have HV := hide (show chosen es able hit cap now = -1 by unfold chosen; rw [if_neg (by rw [q1]; simp)])
    go_enter Try.func24, Try.ntmps24
    go_wp2_with (first | (go_at_call 77; refine (impl_between _ _ _ _).mono ?_; rintro e w1 ⟨rfl, rfl⟩))
    go_ret
    exact ⟨ret_int (by rw [HV.out]), (by repeat' (first | (with_reducible exact Below.refl _ _) | (with_reducible assumption) | (with_reducible refine bdrawn ?_ _) | (with_reducible refine Below.alloc ?_ ?_ _) | (with_reducible refine Below.drew ?_) | (with_reducible refine Below.setCell ?_ ?_ _) | go_size))⟩
  · cases q2 : btw now 0 1000000
    · have HV := hide (show chosen es able hit cap now = -1 by unfold chosen; rw [if_neg (by rw [q2]; simp)])
      go_enter Try.func24, Try.ntmps24
      go_wp2_with (first | (go_at_call 77; refine (impl_between _ _ _ _).mono ?_; rintro e w1 ⟨rfl, rfl⟩))
      go_ret
      exact ⟨ret_int (by rw [HV.out]), (by repeat' (first | (with_reducible exact Below.refl _ _) | (with_reducible assumption) | (with_reducible refine bdrawn ?_ _) | (with_reducible refine Below.alloc ?_ ?_ _) | (with_reducible refine Below.drew ?_) | (with_reducible refine Below.setCell ?_ ?_ _) | go_size))⟩
    · obtain ⟨hp1, hp2⟩ := btw_true.1 q1
      obtain ⟨hp3, hp4⟩ := btw_true.1 q2
      have HV := hide (show chosen es able hit cap now = (chTo es able hit (now - cap) n).1 by unfold chosen; rw [if_pos ⟨q1, q2⟩, HA.out.1])
      have hw1 : now - cap ≤ 1000000 := by omega
      have hw2 : -1000000 ≤ now - cap := by omega
      go_enter Try.func24, Try.ntmps24
      go_wp2_with (first | (go_at_call 77; refine (impl_between _ _ _ _).mono ?_; rintro e w1 ⟨rfl, rfl⟩))

      go_loopw [11, 12, 25] (fun v r i wr => ∃ (k : Nat) (f h : Int), k ≤ n ∧ i = .int .i64 k ∧ v = .int .i64 f ∧ r = .int .i64 h ∧ Hid (chInv es able hit (now - cap) k f h) ∧ Below w.heap.size w wr) (fun _ _ i _ => n - (intOf i).toNat)
      case atStart => exact ⟨0, -1, -1, by omega, rfl, rfl, rfl, hide (.inl ⟨rfl, rfl, rfl⟩), Below.refl _ _⟩
      case round =>
        obtain ⟨k, f, h, hk, rfl, rfl, rfl, HT, hB⟩ := hrel
        by_cases hlt : k < n
        · obtain ⟨e, b1, o1, hh_e, rfl, hlb, hcell⟩ := HA.out.get rqF_len (by omega) (show k < n by omega)
          have e0 : wr.cell? ⟨b1, o1 + k * 6, none⟩ = some (.int .i64 e.id) := (hB.cell (p := ⟨b1, o1 + (k * 6 + 0), none⟩) hlb).trans (hcell 0 _ rfl)
          have e1 : wr.cell? ⟨b1, o1 + k * 6 + 1, none⟩ = some (.int .i64 e.tenant) := (hB.cell (p := ⟨b1, o1 + (k * 6 + 1), none⟩) hlb).trans (hcell 1 _ rfl)
          have e2 : wr.cell? ⟨b1, o1 + k * 6 + 2, none⟩ = some (.int .i64 e.line) := (hB.cell (p := ⟨b1, o1 + (k * 6 + 2), none⟩) hlb).trans (hcell 2 _ rfl)
          have e3 : wr.cell? ⟨b1, o1 + k * 6 + 3, none⟩ = some (.bool e.write) := (hB.cell (p := ⟨b1, o1 + (k * 6 + 3), none⟩) hlb).trans (hcell 3 _ rfl)
          have e4 : wr.cell? ⟨b1, o1 + k * 6 + 4, none⟩ = some (.int .i64 e.data) := (hB.cell (p := ⟨b1, o1 + (k * 6 + 4), none⟩) hlb).trans (hcell 4 _ rfl)
          have e5 : wr.cell? ⟨b1, o1 + k * 6 + 5, none⟩ = some (.int .i64 e.tm) := (hB.cell (p := ⟨b1, o1 + (k * 6 + 5), none⟩) hlb).trans (hcell 5 _ rfl)
          have HE_e := hide hh_e
          have sz_e := hB.size
          have lt_b1 : b1 < wr.heap.size := (by have := hB.size; omega)
          have lw_b1 := hlb
          have i0_e : (0 : Int) ≤ (k : Int) := by omega
          have i1_e : (k : Int) < (n : Int) := by omega
          clear hcell hlb hh_e
          by_cases hk2 : k < n2
          · obtain ⟨z, b2, o2, hz, rfl, hlb2, hcz⟩ := HB.out.2.2.2.get (k := k) (by rw [HB.out.1]; exact hk2)
            have z0 := (hB.cell (p := ⟨b2, o2 + k, none⟩) hlb2).trans hcz
            have z1 : b2 < wr.heap.size := by omega
            have HZ := hide (able_of hz)
            have h3 : (k : Int) < (n2 : Int) := by omega
            clear hcz hz
            cases z
            · skip
              go_wp2_with fail
              go_roundw
              case rel => exact ⟨k + 1, f, h, by omega, by go_num, rfl, rfl, hide (inv_keep HT.out (rank_no HZ.out)), (by repeat' (first | (with_reducible exact Below.refl _ _) | (with_reducible assumption) | (with_reducible refine bdrawn ?_ _) | (with_reducible refine Below.alloc ?_ ?_ _) | (with_reducible refine Below.drew ?_) | (with_reducible refine Below.setCell ?_ ?_ _) | go_size))⟩
              case measure => simp [intOf]; omega
            · by_cases hlate : e.tm ≤ now - cap
              · have HRk := hide (rank_late (hit := hit) HE_e.out HZ.out hlate)
                go_wp2_with fail
                go_ret
                exact ⟨ret_int (by rw [HV.out, inv_late HT.out HRk.out hlt]), (by repeat' (first | (with_reducible exact Below.refl _ _) | (with_reducible assumption) | (with_reducible refine bdrawn ?_ _) | (with_reducible refine Below.alloc ?_ ?_ _) | (with_reducible refine Below.drew ?_) | (with_reducible refine Below.setCell ?_ ?_ _) | go_size))⟩
              · skip
                by_cases hn3 : k < n3
                · obtain ⟨y, b3, o3, hy, rfl, hlb3, hcy⟩ := HD.out.2.2.2.get (k := k) (by rw [HD.out.1]; exact hn3)
                  have y0 := (hB.cell (p := ⟨b3, o3 + k, none⟩) hlb3).trans hcy
                  have y1 : b3 < wr.heap.size := by omega
                  have HY := hide (able_of hy)
                  have hn4 : (k : Int) < (n3 : Int) := by omega
                  clear hcy hy
                  cases y
                  · skip
                    have HRk := hide (inv_miss HT.out (rank_miss HE_e.out HZ.out hlate HY.out))
                    by_cases hf0 : f < 0
                    · by_cases hh0 : h < 0
                      · skip
                        go_wp2_with fail
                        go_roundw
                        case rel => exact ⟨k + 1, k, h, by omega, by go_num, rfl, rfl, hide (by have := HRk.out; rwa [if_pos hf0] at this), (by repeat' (first | (with_reducible exact Below.refl _ _) | (with_reducible assumption) | (with_reducible refine bdrawn ?_ _) | (with_reducible refine Below.alloc ?_ ?_ _) | (with_reducible refine Below.drew ?_) | (with_reducible refine Below.setCell ?_ ?_ _) | go_size))⟩
                        case measure => simp [intOf]; omega
                      · skip
                        go_wp2_with fail
                        go_roundw
                        case rel => exact ⟨k + 1, k, h, by omega, by go_num, rfl, rfl, hide (by have := HRk.out; rwa [if_pos hf0] at this), (by repeat' (first | (with_reducible exact Below.refl _ _) | (with_reducible assumption) | (with_reducible refine bdrawn ?_ _) | (with_reducible refine Below.alloc ?_ ?_ _) | (with_reducible refine Below.drew ?_) | (with_reducible refine Below.setCell ?_ ?_ _) | go_size))⟩
                        case measure => simp [intOf]; omega
                    · by_cases hh0 : h < 0
                      · skip
                        go_wp2_with fail
                        go_roundw
                        case rel => exact ⟨k + 1, f, h, by omega, by go_num, rfl, rfl, hide (by have := HRk.out; rwa [if_neg hf0] at this), (by repeat' (first | (with_reducible exact Below.refl _ _) | (with_reducible assumption) | (with_reducible refine bdrawn ?_ _) | (with_reducible refine Below.alloc ?_ ?_ _) | (with_reducible refine Below.drew ?_) | (with_reducible refine Below.setCell ?_ ?_ _) | go_size))⟩
                        case measure => simp [intOf]; omega
                      · skip
                        go_wp2_with fail
                        go_roundw
                        case rel => exact ⟨k + 1, f, h, by omega, by go_num, rfl, rfl, hide (by have := HRk.out; rwa [if_neg hf0] at this), (by repeat' (first | (with_reducible exact Below.refl _ _) | (with_reducible assumption) | (with_reducible refine bdrawn ?_ _) | (with_reducible refine Below.alloc ?_ ?_ _) | (with_reducible refine Below.drew ?_) | (with_reducible refine Below.setCell ?_ ?_ _) | go_size))⟩
                        case measure => simp [intOf]; omega
                  · skip
                    have HRk := hide (inv_hit HT.out (rank_hit HE_e.out HZ.out hlate HY.out))
                    by_cases hf0 : f < 0
                    · by_cases hh0 : h < 0
                      · skip
                        go_wp2_with fail
                        go_roundw
                        case rel => exact ⟨k + 1, k, k, by omega, by go_num, rfl, rfl, hide (by have := HRk.out; rwa [if_pos hf0, if_pos hh0] at this), (by repeat' (first | (with_reducible exact Below.refl _ _) | (with_reducible assumption) | (with_reducible refine bdrawn ?_ _) | (with_reducible refine Below.alloc ?_ ?_ _) | (with_reducible refine Below.drew ?_) | (with_reducible refine Below.setCell ?_ ?_ _) | go_size))⟩
                        case measure => simp [intOf]; omega
                      · skip
                        go_wp2_with fail
                        go_roundw
                        case rel => exact ⟨k + 1, k, h, by omega, by go_num, rfl, rfl, hide (by have := HRk.out; rwa [if_pos hf0, if_neg hh0] at this), (by repeat' (first | (with_reducible exact Below.refl _ _) | (with_reducible assumption) | (with_reducible refine bdrawn ?_ _) | (with_reducible refine Below.alloc ?_ ?_ _) | (with_reducible refine Below.drew ?_) | (with_reducible refine Below.setCell ?_ ?_ _) | go_size))⟩
                        case measure => simp [intOf]; omega
                    · by_cases hh0 : h < 0
                      · skip
                        go_wp2_with fail
                        go_roundw
                        case rel => exact ⟨k + 1, f, k, by omega, by go_num, rfl, rfl, hide (by have := HRk.out; rwa [if_neg hf0, if_pos hh0] at this), (by repeat' (first | (with_reducible exact Below.refl _ _) | (with_reducible assumption) | (with_reducible refine bdrawn ?_ _) | (with_reducible refine Below.alloc ?_ ?_ _) | (with_reducible refine Below.drew ?_) | (with_reducible refine Below.setCell ?_ ?_ _) | go_size))⟩
                        case measure => simp [intOf]; omega
                      · skip
                        go_wp2_with fail
                        go_roundw
                        case rel => exact ⟨k + 1, f, h, by omega, by go_num, rfl, rfl, hide (by have := HRk.out; rwa [if_neg hf0, if_neg hh0] at this), (by repeat' (first | (with_reducible exact Below.refl _ _) | (with_reducible assumption) | (with_reducible refine bdrawn ?_ _) | (with_reducible refine Below.alloc ?_ ?_ _) | (with_reducible refine Below.drew ?_) | (with_reducible refine Below.setCell ?_ ?_ _) | go_size))⟩
                        case measure => simp [intOf]; omega
                · have hn4 : ¬ (k : Int) < (n3 : Int) := by omega
                  have HY := hide (able_out (bs := hit) (k := k) (by rw [HD.out.1]; omega))
                  have HRk := hide (inv_miss HT.out (rank_miss HE_e.out HZ.out hlate HY.out))
                  by_cases hf0 : f < 0
                  · by_cases hh0 : h < 0
                    · skip
                      go_wp2_with fail
                      go_roundw
                      case rel => exact ⟨k + 1, k, h, by omega, by go_num, rfl, rfl, hide (by have := HRk.out; rwa [if_pos hf0] at this), (by repeat' (first | (with_reducible exact Below.refl _ _) | (with_reducible assumption) | (with_reducible refine bdrawn ?_ _) | (with_reducible refine Below.alloc ?_ ?_ _) | (with_reducible refine Below.drew ?_) | (with_reducible refine Below.setCell ?_ ?_ _) | go_size))⟩
                      case measure => simp [intOf]; omega
                    · skip
                      go_wp2_with fail
                      go_roundw
                      case rel => exact ⟨k + 1, k, h, by omega, by go_num, rfl, rfl, hide (by have := HRk.out; rwa [if_pos hf0] at this), (by repeat' (first | (with_reducible exact Below.refl _ _) | (with_reducible assumption) | (with_reducible refine bdrawn ?_ _) | (with_reducible refine Below.alloc ?_ ?_ _) | (with_reducible refine Below.drew ?_) | (with_reducible refine Below.setCell ?_ ?_ _) | go_size))⟩
                      case measure => simp [intOf]; omega
                  · by_cases hh0 : h < 0
                    · skip
                      go_wp2_with fail
                      go_roundw
                      case rel => exact ⟨k + 1, f, h, by omega, by go_num, rfl, rfl, hide (by have := HRk.out; rwa [if_neg hf0] at this), (by repeat' (first | (with_reducible exact Below.refl _ _) | (with_reducible assumption) | (with_reducible refine bdrawn ?_ _) | (with_reducible refine Below.alloc ?_ ?_ _) | (with_reducible refine Below.drew ?_) | (with_reducible refine Below.setCell ?_ ?_ _) | go_size))⟩
                      case measure => simp [intOf]; omega
                    · skip
                      go_wp2_with fail
                      go_roundw
                      case rel => exact ⟨k + 1, f, h, by omega, by go_num, rfl, rfl, hide (by have := HRk.out; rwa [if_neg hf0] at this), (by repeat' (first | (with_reducible exact Below.refl _ _) | (with_reducible assumption) | (with_reducible refine bdrawn ?_ _) | (with_reducible refine Below.alloc ?_ ?_ _) | (with_reducible refine Below.drew ?_) | (with_reducible refine Below.setCell ?_ ?_ _) | go_size))⟩
                      case measure => simp [intOf]; omega
          · have h3 : ¬ (k : Int) < (n2 : Int) := by omega
            have HZ := hide (able_out (bs := able) (k := k) (by rw [HB.out.1]; omega))
            go_wp2_with fail
            go_roundw
            case rel => exact ⟨k + 1, f, h, by omega, by go_num, rfl, rfl, hide (inv_keep HT.out (rank_no HZ.out)), (by repeat' (first | (with_reducible exact Below.refl _ _) | (with_reducible assumption) | (with_reducible refine bdrawn ?_ _) | (with_reducible refine Below.alloc ?_ ?_ _) | (with_reducible refine Below.drew ?_) | (with_reducible refine Below.setCell ?_ ?_ _) | go_size))⟩
            case measure => simp [intOf]; omega
        · obtain rfl : k = n := by omega
          have HT2 := hide (inv_end HT.out)
          by_cases hh : 0 ≤ h
          · go_wp2
            go_ret
            exact ⟨ret_int (by rw [HV.out, HT2.out, if_pos hh]), hB⟩
          · go_wp2
            go_ret
            exact ⟨ret_int (by rw [HV.out, HT2.out, if_neg (by omega)]), hB⟩
end Go.Proofs.Ytahfbhfmhccgoaa
