/- A rank whose banks are all closed: what it may, what it does. -/
import Derived.Test.YtahfbhfmhccgoaaTrc2
set_option linter.unusedSimpArgs false
set_option linter.unusedVariables false
namespace Go.Proofs.Ytahfbhfmhccgoaa
open Go.RowKit Go.ChangeShapes Go.WideShapes Go.ChangeAt Go.Joins Go.Deep
open Go.ChangeMaps (open_string shut_string)
set_option maxRecDepth 100000 in
set_option maxHeartbeats 800000 in
theorem spec_OpenBanks (a : Option Addr) (n c : Nat) (pw : Int) (w : World) (ha : IsStructs bkF 2 w a n c (List.replicate n ⟨false, 0⟩)) (hn : n ≤ 8) :
    Calls Try.prog 140 #[.agg #[.slice a n c, .int .i64 pw]] w fun e w' => (∃ a' c', e = .returned (.slice a' 0 c')) ∧ Below w.heap.size w w' := by
  have HA := hide ha
  clear ha
  go_enter Try.func140, Try.ntmps140
  go_wp2_with fail
  go_loopw [4, 3] (fun i o wr => ∃ (k : Nat) (a' : Option Addr) (c' : Nat), k ≤ n ∧ i = .int .i64 k ∧ o = .slice a' 0 c' ∧ wr.heap[w.heap.size]? = some (.cells #[.slice a n c, .int .i64 pw] 143 (0, 0)) ∧ Below w.heap.size w wr) (fun i _ _ => n - (intOf i).toNat)
  case atStart => exact ⟨0, _, _, by omega, rfl, rfl, by rw [alloc_lt _ _ _ (by simp), alloc_at _ _ _ rfl], by go_grown⟩
  case round =>
    obtain ⟨k, a', c', hk, rfl, rfl, k0, hB⟩ := hrel
    have e0 : wr.cell? ⟨w.heap.size, 0, none⟩ = some (.slice a n c) := cell_blk k0 0
    have HK := hide k0; have HB := hide hB
    clear k0
    by_cases hlt : k < n
    · obtain ⟨e, b, o, hh_e, rfl, hlb, hcell⟩ := HA.out.get bkF_len (by omega) (show k < n by omega)
      have q0 : wr.cell? ⟨b, o + k * 2, none⟩ = some (.bool e.opn) := (HB.out.cell (p := ⟨b, o + (k * 2 + 0), none⟩) hlb).trans (hcell 0 _ rfl)
      have q1 : wr.cell? ⟨b, o + k * 2 + 1, none⟩ = some (.int .i64 e.row) := (HB.out.cell (p := ⟨b, o + (k * 2 + 1), none⟩) hlb).trans (hcell 1 _ rfl)
      have HE_e := hide hh_e
      have sz_e := HB.out.size
      have lt_b : b < wr.heap.size := (by have := HB.out.size; omega)
      have lw_b := hlb
      have i0_e : (0 : Int) ≤ (k : Int) := by omega
      have i1_e : (k : Int) < (n : Int) := by omega
      clear hcell hlb hh_e
      obtain rfl : (⟨false, 0⟩ : Bk) = e := by
        have h1 := HE_e.out
        rw [List.getElem?_replicate, if_pos hlt] at h1
        exact Option.some.inj h1
      go_wp2_with fail
      go_roundw
      case rel => exact ⟨k + 1, _, _, by omega, by go_num, rfl, HK.out, HB.out⟩
      case measure => simp [intOf]; omega
    · obtain rfl : k = n := by omega
      go_wp2_with fail
      go_ret
      exact ⟨⟨_, _, rfl⟩, HB.out⟩
def May (n : Nat) (pw k b : Int) : Prop := (k = 5 ∧ pw = 0 ∧ ∃ bn : Nat, b = (bn : Int) ∧ bn < n) ∨ (k = 6 ∧ pw = 0) ∨ (k = 7 ∧ pw = 1) ∨ (k = 8 ∧ pw = 0) ∨ (k = 9 ∧ pw = 2)
set_option maxRecDepth 100000 in
set_option maxHeartbeats 2000000 in
theorem spec_l08May (a : Option Addr) (n c : Nat) (pw k b : Int) (w : World) (ha : IsStructs bkF 2 w a n c (List.replicate n ⟨false, 0⟩)) (hn : n ≤ 8) (hm : May n pw k b) :
    Calls Try.prog 114 #[.agg #[.slice a n c, .int .i64 pw], .agg #[.int .i64 k, .int .i64 b, .int .i64 0, .int .i64 0]] w fun e w' => e = .returned (.bool true) ∧ Below w.heap.size w w' := by
  have HA := hide ha
  clear ha
  rcases hm with ⟨rfl, rfl, bn, rfl, hlt⟩ | ⟨rfl, rfl⟩ | ⟨rfl, rfl⟩ | ⟨rfl, rfl⟩ | ⟨rfl, rfl⟩
  · obtain ⟨e, bb, o, hh, rfl, hlb, hcell⟩ := HA.out.get bkF_len (by omega) hlt
    obtain rfl : (⟨false, 0⟩ : Bk) = e := by
      rw [List.getElem?_replicate, if_pos hlt] at hh
      exact Option.some.inj hh
    have HB0 := hide (show Below w.heap.size w ((w.alloc (.cells #[.slice (some ⟨bb, o, none⟩) n c, .int .i64 0] 143)).alloc (.cells #[.int .i64 5, .int .i64 bn, .int .i64 0, .int .i64 0] 91)) by go_grown)
    have q0 := (HB0.out.cell (p := ⟨bb, o + (bn * 2 + 0), none⟩) hlb).trans (hcell 0 _ rfl)
    have i0 : (0 : Int) ≤ (bn : Int) := by omega
    have i1 : (bn : Int) < (n : Int) := by omega
    simp only [Nat.add_zero] at q0
    clear hcell hh
    go_enter Try.func114, Try.ntmps114
    go_wp2_with fail
    go_ret
    exact ⟨rfl, HB0.out⟩
  · go_enter Try.func114, Try.ntmps114
    go_wp2_with fail
    go_ret
    exact ⟨rfl, by go_grown⟩
  · go_enter Try.func114, Try.ntmps114
    go_wp2_with fail
    go_ret
    exact ⟨rfl, by go_grown⟩
  · go_enter Try.func114, Try.ntmps114
    go_wp2_with fail
    refine (spec_OpenBanks a n c 0 _ (HA.out.below (B := w.heap.size) (by go_grown) (Nat.le_refl _)) hn).mono ?_
    rintro e w' ⟨⟨a', c', rfl⟩, h1⟩
    go_wp2_with fail
    go_ret
    exact ⟨rfl, bthen (show Below w.heap.size w _ by go_grown) h1 (by simp only [World.size_alloc]; omega)⟩
  · go_enter Try.func114, Try.ntmps114
    go_wp2_with fail
    go_ret
    exact ⟨rfl, by go_grown⟩
def pwTo (pw k : Int) : Int := if k = 6 then 1 else if k = 8 then 2 else if k = 7 then 0 else if k = 9 then 0 else pw
set_option maxRecDepth 100000 in
set_option maxHeartbeats 2000000 in
theorem spec_l08Do (p : Nat) (a : Option Addr) (n c : Nat) (pw k b : Int) (w : World) (hp : w.heap[p]? = some (.cells #[.slice a n c, .int .i64 pw] 143 (0, 0))) (hk : k = 5 ∨ k = 6 ∨ k = 7 ∨ k = 8 ∨ k = 9) :
    Calls Try.prog 115 #[.pointer (some ⟨p, 0, none⟩), .agg #[.int .i64 k, .int .i64 b, .int .i64 0, .int .i64 0]] w fun e w' => e = .returned (.tuple #[]) ∧ w'.heap[p]? = some (.cells #[.slice a n c, .int .i64 (pwTo pw k)] 143 (0, 0)) ∧ w.grownBy w' (some p) := by
  have hlp := lt_blk hp
  have HP0 := hide hp
  have HP := hide ((alloc_lt w (.cells #[.int .i64 k, .int .i64 b, .int .i64 0, .int .i64 0] 91) p hlp).trans hp)
  have e1 : (w.alloc (.cells #[.int .i64 k, .int .i64 b, .int .i64 0, .int .i64 0] 91)).cell? ⟨p, 1, none⟩ = some (.int .i64 pw) := cell_blk HP.out 1
  have f1 : (w.alloc (.cells #[.int .i64 k, .int .i64 b, .int .i64 0, .int .i64 0] 91)).frozen? ⟨p, 1, none⟩ = false := by simp [World.frozen?, HP.out]
  clear hp
  rcases hk with rfl | rfl | rfl | rfl | rfl
  · go_enter Try.func115, Try.ntmps115
    go_wp2_with fail
    go_returns
    exact ⟨rfl, HP.out, only_alloc (only_refl _ _) _⟩
  all_goals
    go_enter Try.func115, Try.ntmps115
    go_wp2_with fail
    go_returns
    exact ⟨rfl, (alloc_lt _ _ _ (by first | exact hlp | simpa [World.setCell] using hlp | (simp; exact hlp))).trans (set_lit HP0.out rfl), only_alloc (only_set (only_refl _ _) _) _⟩
end Go.Proofs.Ytahfbhfmhccgoaa
