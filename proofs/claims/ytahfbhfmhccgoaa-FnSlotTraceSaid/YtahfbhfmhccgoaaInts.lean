/- Slices of ints: the laws' copy of an argument (toIntS) and their comparison (eqIntS). -/
import Derived.Test.YtahfbhfmhccgoaaCommon
set_option linter.unusedSimpArgs false
set_option linter.unusedVariables false
namespace Go.Proofs.Ytahfbhfmhccgoaa
open Go.RowKit Go.ChangeShapes Go.WideShapes Go.ChangeAt Go.Joins Go.Deep
open Go.ChangeMaps (open_string shut_string)

theorem getI_lt {zs : List Int} {i : Nat} (h : i < zs.length) : (zs.map (Value.int .i64))[i]? = some (.int .i64 (zs[i])) := by simp [h]

set_option maxHeartbeats 400000 in
theorem laws_eqIntS (a b : Option Addr) (n c c' : Nat) (zs : List Int) (w : World) (ha : IsInts .i64 w a n c zs) (hb : IsInts .i64 w b n c' zs) :
    Calls Try.prog 91 #[.slice a n c, .slice b n c'] w fun e w' => e = .returned (.bool true) ∧ Below w.heap.size w w' := by
  obtain ⟨hn, hc, hm, hw, hr⟩ := ha
  obtain ⟨hn', hc', hm', hw', hr'⟩ := hb
  unfold maxLen at hm
  have Hr := hide hr; have Hr' := hide hr'
  clear hr hr' hw hw'
  go_enter Try.func91, Try.ntmps91
  go_wp2
  go_loopw [5] (fun i wr => ∃ k : Nat, k ≤ n ∧ i = .int .i64 k ∧ Below w.heap.size w wr) (fun i _ => n - (intOf i).toNat)
  case atStart => exact ⟨0, by omega, rfl, Below.refl _ _⟩
  case round =>
    obtain ⟨k, hk, rfl, hB⟩ := hrel
    by_cases hlt : k < n
    · obtain ⟨b1, o1, rfl, hc1⟩ := Hr.out k _ (getI_lt (by omega))
      obtain ⟨b2, o2, rfl, hc2⟩ := Hr'.out k _ (getI_lt (by omega))
      have e1 := (hB.cell (p := ⟨b1, o1 + k, none⟩) (World.block_lt_of_cell? w _ hc1)).trans hc1
      have e2 := (hB.cell (p := ⟨b2, o2 + k, none⟩) (World.block_lt_of_cell? w _ hc2)).trans hc2
      clear hc1 hc2
      have h1 : (0 : Int) ≤ (k : Int) := by omega
      have h2 : (k : Int) < (n : Int) := by omega
      go_wp2_with fail
      go_quiet (fail)
      go_wp2
      go_roundw
      case rel => exact ⟨k + 1, by omega, by go_num, bdrawn hB _⟩
      case measure => simp [intOf]; omega
    · go_wp2
      go_ret
      exact ⟨rfl, hB⟩

theorem info_int : (Try.prog.info? 3).map (fun i => (i.zero, i.size, i.bytes)) = some (some (.int .i64 0), 1, 8) := by kernel_rfl

set_option maxHeartbeats 400000 in
theorem laws_toIntS (a : Option Addr) (n c : Nat) (zs : List Int) (w : World) (ha : IsInts .i64 w a n c zs) (hs : n ≤ 1048576) :
    Calls Try.prog 88 #[.slice a n c] w (Fresh w 3 1 n (zs.map (.int .i64))) := by
  obtain ⟨hn, hc, hm, hw, hr⟩ := ha
  obtain ⟨i0, hi, hz0, hz1, hz2⟩ := info_parts info_int
  have Hr := hide hr; have HN := hide hn
  clear hr hw hm hn
  go_enter Try.func88, Try.ntmps88
  go_wp2_with (at_make; refine wpList_make_full _ rfl _ _ 46 rfl w.heap.size 3 i0 (.int .i64 0) 1 Try.underlying46 hi hz0 hz1 _ _ _ _ n rfl rfl rfl rfl (by rw [hz2]; omega) (by unfold maxLen; omega) (Nat.le_refl _) ?_; intro w0 hown hg; have hb0 : Below w.heap.size w w0 := (Below.refl _ _).grown hg (Nat.le_refl _) (fun k h => by cases h))
  go_loopw [4] (fun i wr => ∃ k : Nat, k ≤ n ∧ i = .int .i64 k ∧ Below w.heap.size w wr ∧ wr.ownsRow w.heap.size 3 1 (.slice (some ⟨w.heap.size, 0, none⟩) n n) n ((zs.map (Value.int .i64)).take k ++ List.replicate (n - k) (.int .i64 0))) (fun i _ => n - (intOf i).toNat)
  case atStart =>
    refine ⟨0, by omega, rfl, hb0, ?_⟩
    have := hown
    rw [Nat.mul_one, show (Value.int .i64 0).cells = #[.int .i64 0] from rfl, toList_madeCells_one] at this
    simpa using this
  case round =>
    clear hown hg hb0
    obtain ⟨k, hk, rfl, hB, hown⟩ := hrel
    by_cases hlt : k < n
    · obtain ⟨b1, o1, rfl, hc1⟩ := Hr.out k _ (getI_lt (by rw [HN.out]; omega))
      have e1 := (hB.cell (p := ⟨b1, o1 + k, none⟩) (World.block_lt_of_cell? w _ hc1)).trans hc1
      have h1 : (0 : Int) ≤ (k : Int) := by omega
      have h2 : (k : Int) < (n : Int) := by omega
      have e2 := hown.cellAt k (by omega)
      rw [List.getElem?_eq_getElem (by rw [hown.1]; omega)] at e2
      have e3 := hown.frozenAt k
      have hst := hown.stored k (.int .i64 (zs[k]'(by rw [HN.out]; omega)))
      have hst1 := hide hst.1; have hst2 := hide hst.2
      clear hst hc1
      go_wp2
      go_roundw
      case rel =>
        refine ⟨k + 1, by omega, by go_num, hB.setCell (Nat.le_refl _) _, ?_⟩
        have hx := set_next (zs.map (Value.int .i64)) (.int .i64 0) k n hlt (by rw [List.length_map, HN.out])
        simp only [List.getElem_map] at hx
        rw [← hx]
        exact hst1.out
      case measure => simp [intOf]; omega
    · go_wp2
      go_ret
      obtain rfl : k = n := by omega
      refine ⟨_, _, rfl, ?_, hB⟩
      have := hown
      rw [List.take_of_length_le (by rw [List.length_map, HN.out]; exact Nat.le_refl _), Nat.sub_self, List.replicate_zero, List.append_nil] at this
      exact this

end Go.Proofs.Ytahfbhfmhccgoaa
