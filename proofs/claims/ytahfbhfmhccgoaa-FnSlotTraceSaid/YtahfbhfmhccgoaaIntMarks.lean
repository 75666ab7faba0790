/- Slices of ints: the marks that show that memory is not shared. -/
import Derived.Test.YtahfbhfmhccgoaaInts
set_option linter.unusedSimpArgs false
set_option linter.unusedVariables false
namespace Go.Proofs.Ytahfbhfmhccgoaa
open Go.RowKit Go.ChangeShapes Go.WideShapes Go.ChangeAt Go.Joins Go.Deep
open Go.ChangeMaps (open_string shut_string)
def markI (k0 : Int) (n : Nat) : List Int := (List.range n).map fun (i : Nat) => k0 + (i : Int)
theorem markI_len (k0 : Int) (n : Nat) : (markI k0 n).length = n := by simp [markI]
theorem markI_at (k0 : Int) (n k : Nat) (h : k < n) : (markI k0 n)[k]? = some (k0 + (k : Int)) := by simp [markI, List.getElem?_range h]
theorem markI_wf (k0 : Int) (n : Nat) (h0 : 0 ≤ k0) (h1 : k0 ≤ 1000000000) (h2 : n ≤ 1048576) : ∀ z ∈ markI k0 n, (Lit.int .i64 z).wf = true := by
  intro z hz
  simp only [markI, List.mem_map, List.mem_range] at hz
  obtain ⟨i, hi, rfl⟩ := hz
  show (decide (IntKind.min .i64 ≤ _) && decide (_ ≤ IntKind.max .i64)) = true
  rw [show IntKind.min .i64 = -9223372036854775808 from rfl, show IntKind.max .i64 = 9223372036854775807 from rfl]
  simp; omega
def MarkedI (lo hi : Nat) (w : World) (a : Option Addr) (n c : Nat) (k0 : Int) (e : Ending) (w' : World) : Prop :=
  e = .returned (.int .i64 (k0 + n)) ∧ Owned lo hi w' 3 1 a n c ((markI k0 n).map (Value.int .i64)) ∧ Save lo hi w w'

set_option maxHeartbeats 400000 in
theorem laws_markIntS (lo hi : Nat) (a : Option Addr) (n c : Nat) (k0 : Int) (xs : List Value) (w : World) (hk0 : 0 ≤ k0 ∧ k0 ≤ 1000000000) (hs : n ≤ 1048576) (ho : Owned lo hi w 3 1 a n c xs) :
    Calls Try.prog 93 #[.slice a n c, .int .i64 k0] w (MarkedI lo hi w a n c k0) := by
  have hk1 := hk0.1; have hk2 := hk0.2
  clear hk0
  have hxl := hide ho.row.1
  have hc := ho.row.2.1
  have hm : c ≤ 9223372036854775807 := ho.row.2.2.1
  go_enter Try.func93, Try.ntmps93
  go_wp2
  go_loopw [1, 5] (fun v i wr => ∃ k : Nat, k ≤ n ∧ i = .int .i64 k ∧ v = .int .i64 (k0 + k) ∧ Owned lo hi wr 3 1 a n c (((markI k0 n).map (Value.int .i64)).take k ++ xs.drop k) ∧ Save lo hi w wr) (fun _ i _ => n - (intOf i).toNat)
  case atStart => exact ⟨0, by omega, rfl, by simp, by simpa using ho, Save.refl _ _ _⟩
  case round =>
    clear ho
    obtain ⟨k, hk, rfl, rfl, hO, hS⟩ := hrel
    by_cases hlt : k < n
    · obtain ⟨g, rfl, hg1, hg2, hg3, hcell, hfr⟩ := hO.some (by omega)
      obtain ⟨u, e1⟩ : ∃ u, wr.cell? ⟨g, k, none⟩ = some u := ⟨_, (hcell k (by omega)).trans (List.getElem?_eq_getElem (by rw [hO.1.1]; omega))⟩
      have e2 := hfr k
      have h1 : (0 : Int) ≤ (k : Int) := by omega
      have h2 : (k : Int) < (n : Int) := by omega
      have HM := hide (markI_at k0 n k hlt)
      have HO := hide hO
      clear hO hcell hfr
      go_wp2
      go_roundw
      case rel =>
        obtain ⟨h3, h4⟩ := HO.out.store k (.int .i64 (k0 + (k : Int)))
        refine ⟨k + 1, by omega, by go_num, by simp; omega, ?_, hS.trans h4⟩
        rw [over_next _ _ k n hlt (by simp [markI_len]) hxl.out _ (by rw [List.getElem?_map, HM.out]; rfl)] at h3
        exact h3
      case measure => simp [intOf]; omega
    · go_wp2
      go_ret
      obtain rfl : k = n := by omega
      rw [List.take_of_length_le (by simp [markI_len]), List.drop_eq_nil_of_le (by rw [hxl.out]; exact Nat.le_refl _), List.append_nil] at hO
      exact ⟨rfl, hO, hS⟩

end Go.Proofs.Ytahfbhfmhccgoaa
