/- Slices of bools: the laws' copy of an argument, their comparison, and the marks that show that memory is not shared. -/
import Derived.Test.YtlaoeaecbdmebaaCommon
set_option linter.unusedSimpArgs false
set_option linter.unusedVariables false
namespace Go.Proofs.Ytlaoeaecbdmebaa
open Go.RowKit Go.ChangeShapes Go.WideShapes Go.ChangeAt Go.Joins Go.Deep
open Go.ChangeMaps (open_string shut_string)

theorem getB_lt {zs : List Bool} {i : Nat} (h : i < zs.length) : (zs.map Value.bool)[i]? = some (.bool (zs[i])) := by simp [h]
theorem IsBools.below {w w' : World} {a : Option Addr} {n c : Nat} {zs : List Bool} {B : Nat} (h : IsBools w a n c zs) (hb : Below B w w') (hB : w.heap.size ≤ B) : IsBools w' a n c zs :=
  ⟨h.1, h.2.1, h.2.2.1, h.2.2.2.below hb hB⟩
theorem isBools_own {w : World} {B : Nat} {E : TypeId} {a : Option Addr} {n c : Nat} {zs : List Bool} (h : w.ownsRow B E 1 (.slice a n c) n (zs.map Value.bool)) : IsBools w a n c zs := by
  obtain ⟨a', c', e, hl, hn, hc, hr⟩ := rowIn_own h
  injection e with e1 e2 e3
  subst e1 e3
  exact ⟨by simpa using hl, hn, hc, hr⟩

set_option maxHeartbeats 400000 in
theorem laws_eqBoolS (a b : Option Addr) (n c c' : Nat) (zs : List Bool) (w : World) (ha : IsBools w a n c zs) (hb : IsBools w b n c' zs) :
    Calls Try.prog 42 #[.slice a n c, .slice b n c'] w fun e w' => e = .returned (.bool true) ∧ Below w.heap.size w w' := by
  obtain ⟨hn, hc, hm, hr⟩ := ha
  obtain ⟨hn', hc', hm', hr'⟩ := hb
  unfold maxLen at hm
  have Hr := hide hr; have Hr' := hide hr'
  clear hr hr'
  go_enter Try.func42, Try.ntmps42
  go_wp2
  go_loopw [5] (fun i wr => ∃ k : Nat, k ≤ n ∧ i = .int .i64 k ∧ Below w.heap.size w wr) (fun i _ => n - (intOf i).toNat)
  case atStart => exact ⟨0, by omega, rfl, Below.refl _ _⟩
  case round =>
    obtain ⟨k, hk, rfl, hB⟩ := hrel
    by_cases hlt : k < n
    · obtain ⟨b1, o1, rfl, hc1⟩ := Hr.out k _ (getB_lt (by omega))
      obtain ⟨b2, o2, rfl, hc2⟩ := Hr'.out k _ (getB_lt (by omega))
      have e1 := (hB.cell (p := ⟨b1, o1 + k, none⟩) (World.block_lt_of_cell? w _ hc1)).trans hc1
      have e2 := (hB.cell (p := ⟨b2, o2 + k, none⟩) (World.block_lt_of_cell? w _ hc2)).trans hc2
      clear hc1 hc2
      have h1 : (0 : Int) ≤ (k : Int) := by omega
      have h2 : (k : Int) < (n : Int) := by omega
      go_wp2_with fail
      go_quiet (fail)
      go_wp2
      go_roundw
      case rel => exact ⟨k + 1, by omega, by go_num, bdrawn hB _⟩
      case measure => simp [intOf]; omega
    · go_wp2
      go_ret
      exact ⟨rfl, hB⟩

theorem info_bool : (Try.prog.info? 4).map (fun i => (i.zero, i.size, i.bytes)) = some (some (.bool false), 1, 1) := by kernel_rfl

set_option maxHeartbeats 400000 in
theorem laws_toBoolS (a : Option Addr) (n c : Nat) (zs : List Bool) (w : World) (ha : IsBools w a n c zs) (hs : n ≤ 1048576) :
    Calls Try.prog 56 #[.slice a n c] w (Fresh w 4 1 n (zs.map Value.bool)) := by
  obtain ⟨hn, hc, hm, hr⟩ := ha
  obtain ⟨i0, hi, hz0, hz1, hz2⟩ := info_parts info_bool
  have Hr := hide hr; have HN := hide hn
  clear hr hm hn
  go_enter Try.func56, Try.ntmps56
  go_wp2_with (at_make; refine wpList_make_full _ rfl _ _ 56 rfl w.heap.size 4 i0 (.bool false) 1 Try.underlying56 hi hz0 hz1 _ _ _ _ n rfl rfl rfl rfl (by rw [hz2]; omega) (by unfold maxLen; omega) (Nat.le_refl _) ?_; intro w0 hown hg; have hb0 : Below w.heap.size w w0 := (Below.refl _ _).grown hg (Nat.le_refl _) (fun k h => by cases h))
  go_loopw [4] (fun i wr => ∃ k : Nat, k ≤ n ∧ i = .int .i64 k ∧ Below w.heap.size w wr ∧ wr.ownsRow w.heap.size 4 1 (.slice (some ⟨w.heap.size, 0, none⟩) n n) n ((zs.map (Value.bool)).take k ++ List.replicate (n - k) (.bool false))) (fun i _ => n - (intOf i).toNat)
  case atStart =>
    refine ⟨0, by omega, rfl, hb0, ?_⟩
    have := hown
    rw [Nat.mul_one, show (Value.bool false).cells = #[.bool false] from rfl, toList_madeCells_one] at this
    simpa using this
  case round =>
    clear hown hg hb0
    obtain ⟨k, hk, rfl, hB, hown⟩ := hrel
    by_cases hlt : k < n
    · obtain ⟨b1, o1, rfl, hc1⟩ := Hr.out k _ (getB_lt (by rw [HN.out]; omega))
      have e1 := (hB.cell (p := ⟨b1, o1 + k, none⟩) (World.block_lt_of_cell? w _ hc1)).trans hc1
      have h1 : (0 : Int) ≤ (k : Int) := by omega
      have h2 : (k : Int) < (n : Int) := by omega
      have e2 := hown.cellAt k (by omega)
      rw [List.getElem?_eq_getElem (by rw [hown.1]; omega)] at e2
      have e3 := hown.frozenAt k
      have hst := hown.stored k (Value.bool (zs[k]'(by rw [HN.out]; omega)))
      have hst1 := hide hst.1; have hst2 := hide hst.2
      clear hst hc1
      go_wp2
      go_roundw
      case rel =>
        refine ⟨k + 1, by omega, by go_num, hB.setCell (Nat.le_refl _) _, ?_⟩
        have hx := set_next (zs.map (Value.bool)) (.bool false) k n hlt (by rw [List.length_map, HN.out])
        simp only [List.getElem_map] at hx
        rw [← hx]
        exact hst1.out
      case measure => simp [intOf]; omega
    · go_wp2
      go_ret
      obtain rfl : k = n := by omega
      refine ⟨_, _, rfl, ?_, hB⟩
      have := hown
      rw [List.take_of_length_le (by rw [List.length_map, HN.out]; exact Nat.le_refl _), Nat.sub_self, List.replicate_zero, List.append_nil] at this
      exact this


def markB (k0 : Int) (n : Nat) : List Bool := (List.range n).map fun (i : Nat) => ((k0 + (i : Int)) % 3 == 0)
theorem markB_len (k0 : Int) (n : Nat) : (markB k0 n).length = n := by simp [markB]
theorem markB_at (k0 : Int) (n k : Nat) (h : k < n) : (markB k0 n)[k]? = some ((k0 + (k : Int)) % 3 == 0) := by simp [markB, List.getElem?_range h]

def MarkedB (lo hi : Nat) (w : World) (a : Option Addr) (n c : Nat) (k0 : Int) (e : Ending) (w' : World) : Prop :=
  e = .returned (.int .i64 (k0 + n)) ∧ Owned lo hi w' 4 1 a n c ((markB k0 n).map Value.bool) ∧ Save lo hi w w'

set_option maxHeartbeats 400000 in
theorem laws_markBoolS (lo hi : Nat) (a : Option Addr) (n c : Nat) (k0 : Int) (xs : List Value) (w : World) (hk0 : 0 ≤ k0 ∧ k0 ≤ 1000000000) (hs : n ≤ 1048576) (ho : Owned lo hi w 4 1 a n c xs) :
    Calls Try.prog 45 #[.slice a n c, .int .i64 k0] w (MarkedB lo hi w a n c k0) := by
  have hk1 := hk0.1; have hk2 := hk0.2
  clear hk0
  have hxl := hide ho.row.1
  have hc := ho.row.2.1
  have hm : c ≤ 9223372036854775807 := ho.row.2.2.1
  go_enter Try.func45, Try.ntmps45
  go_wp2
  go_loopw [1, 5] (fun v i wr => ∃ k : Nat, k ≤ n ∧ i = .int .i64 k ∧ v = .int .i64 (k0 + k) ∧ Owned lo hi wr 4 1 a n c (((markB k0 n).map Value.bool).take k ++ xs.drop k) ∧ Save lo hi w wr) (fun _ i _ => n - (intOf i).toNat)
  case atStart => exact ⟨0, by omega, rfl, by simp, by simpa using ho, Save.refl _ _ _⟩
  case round =>
    clear ho
    obtain ⟨k, hk, rfl, rfl, hO, hS⟩ := hrel
    by_cases hlt : k < n
    · obtain ⟨g, rfl, hg1, hg2, hg3, hcell, hfr⟩ := hO.some (by omega)
      obtain ⟨u, e1⟩ : ∃ u, wr.cell? ⟨g, k, none⟩ = some u := ⟨_, (hcell k (by omega)).trans (List.getElem?_eq_getElem (by rw [hO.1.1]; omega))⟩
      have e2 := hfr k
      have h1 : (0 : Int) ≤ (k : Int) := by omega
      have h2 : (k : Int) < (n : Int) := by omega
      have HM := hide (markB_at k0 n k hlt)
      have HO := hide hO
      clear hO hcell hfr
      go_wp2
      go_roundw
      case rel =>
        obtain ⟨h3, h4⟩ := HO.out.store k (.bool ((k0 + (k : Int)) % 3 == 0))
        refine ⟨k + 1, by omega, by go_num, by simp; omega, ?_, hS.trans h4⟩
        rw [over_next _ _ k n hlt (by simp [markB_len]) hxl.out _ (by rw [List.getElem?_map, HM.out]; rfl)] at h3
        exact h3
      case measure => simp [intOf]; omega
    · go_wp2
      go_ret
      obtain rfl : k = n := by omega
      rw [List.take_of_length_le (by simp [markB_len]), List.drop_eq_nil_of_le (by rw [hxl.out]; exact Nat.le_refl _), List.append_nil] at hO
      exact ⟨rfl, hO, hS⟩

set_option maxHeartbeats 400000 in
theorem laws_heldBoolS (a : Option Addr) (n c : Nat) (k0 : Int) (w : World) (hk0 : 0 ≤ k0 ∧ k0 ≤ 1000000000) (hs : n ≤ 1048576) (hb : IsBools w a n c (markB k0 n)) :
    Calls Try.prog 46 #[.slice a n c, .int .i64 k0] w fun e w' => e = .returned (.int .i64 (k0 + n)) ∧ Below w.heap.size w w' := by
  have hk1 := hk0.1; have hk2 := hk0.2
  clear hk0
  obtain ⟨hn, hc, hm, hr⟩ := hb
  have Hr := hide hr
  clear hr hm hn
  go_enter Try.func46, Try.ntmps46
  go_wp2
  go_loopw [1, 5] (fun v i wr => ∃ k : Nat, k ≤ n ∧ i = .int .i64 k ∧ v = .int .i64 (k0 + k) ∧ Below w.heap.size w wr) (fun _ i _ => n - (intOf i).toNat)
  case atStart => exact ⟨0, by omega, rfl, by simp, Below.refl _ _⟩
  case round =>
    obtain ⟨k, hk, rfl, rfl, hB⟩ := hrel
    by_cases hlt : k < n
    · obtain ⟨z, b1, o1, hz, rfl, hlb, hc1⟩ := Hr.out.get (k := k) (by rw [markB_len]; exact hlt)
      have e1 := (hB.cell (p := ⟨b1, o1 + k, none⟩) hlb).trans hc1
      rw [markB_at k0 n k hlt] at hz
      injection hz with hz
      have h1 : (0 : Int) ≤ (k : Int) := by omega
      have h2 : (k : Int) < (n : Int) := by omega
      clear hc1
      cases z
      all_goals
        go_wp2
        go_roundw
        case rel => exact ⟨k + 1, by omega, by go_num, by simp; omega, hB⟩
        case measure => simp [intOf]; omega
    · go_wp2
      go_ret
      obtain rfl : k = n := by omega
      exact ⟨rfl, hB⟩
end Go.Proofs.Ytlaoeaecbdmebaa
