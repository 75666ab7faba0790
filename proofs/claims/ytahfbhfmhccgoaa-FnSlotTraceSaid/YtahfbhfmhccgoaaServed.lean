/- Served requests: the laws' comparison of lists and their marks. -/
import Derived.Test.YtahfbhfmhccgoaaSts
import Derived.Deep.RegionHeld3
set_option linter.unusedSimpArgs false
set_option linter.unusedVariables false
namespace Go.Proofs.Ytahfbhfmhccgoaa
open Go.RowKit Go.ChangeShapes Go.WideShapes Go.ChangeAt Go.Joins Go.Deep
open Go.ChangeMaps (open_string shut_string)
structure Sv where
  id : Int
  tm : Int
def svF (e : Sv) : List Value := [.int .i64 e.id, .int .i64 e.tm]
theorem svF_len (e : Sv) : (svF e).length = 2 := rfl
theorem info_Sv : (Try.prog.info? 58).map (fun i => (i.zero, i.size, i.bytes)) = some (some (.agg #[.int .i64 0, .int .i64 0]), 2, 16) := by kernel_rfl
set_option maxHeartbeats 400000 in
theorem laws_eqServed (e : Sv) (w : World) :
    Calls Try.prog 90 #[.agg #[.int .i64 e.id, .int .i64 e.tm], .agg #[.int .i64 e.id, .int .i64 e.tm]] w fun r w' => r = .returned (.bool true) ∧ Below w.heap.size w w' := by
  go_enter Try.func90, Try.ntmps90
  go_wp2
  go_ret
  exact ⟨rfl, by go_grown⟩
set_option maxRecDepth 100000 in
set_option maxHeartbeats 1000000 in
theorem laws_eqServedS (a b : Option Addr) (n c c' : Nat) (es : List Sv) (w : World) (ha : IsStructs svF 2 w a n c es) (hb : IsStructs svF 2 w b n c' es) :
    Calls Try.prog 41 #[.slice a n c, .slice b n c'] w fun e w' => e = .returned (.bool true) ∧ Below w.heap.size w w' := by
  have HA := hide ha; have HB := hide hb
  have hc := ha.2.1; have hm : c ≤ 9223372036854775807 := ha.2.2.1
  clear ha hb
  go_enter Try.func41, Try.ntmps41
  go_wp2
  go_loopw [5] (fun i wr => ∃ k : Nat, k ≤ n ∧ i = .int .i64 k ∧ Below w.heap.size w wr) (fun i _ => n - (intOf i).toNat)
  case atStart => exact ⟨0, by omega, rfl, Below.refl _ _⟩
  case round =>
    obtain ⟨k, hk, rfl, hB⟩ := hrel
    by_cases hlt : k < n
    · obtain ⟨e, b1, o1, he, rfl, hlb, hcell⟩ := HA.out.get svF_len (by omega) hlt
      obtain ⟨e', b2, o2, he', rfl, hlb', hcell'⟩ := HB.out.get svF_len (by omega) hlt
      obtain rfl : e' = e := by rw [he] at he'; injection he' with h; exact h.symm
      have e0 : wr.cell? ⟨b1, o1 + k * 2, none⟩ = some (.int .i64 e'.id) := (hB.cell (p := ⟨b1, o1 + (k * 2 + 0), none⟩) hlb).trans (hcell 0 _ rfl)
      have e1 : wr.cell? ⟨b1, o1 + k * 2 + 1, none⟩ = some (.int .i64 e'.tm) := (hB.cell (p := ⟨b1, o1 + (k * 2 + 1), none⟩) hlb).trans (hcell 1 _ rfl)
      have f0 : wr.cell? ⟨b2, o2 + k * 2, none⟩ = some (.int .i64 e'.id) := (hB.cell (p := ⟨b2, o2 + (k * 2 + 0), none⟩) hlb').trans (hcell' 0 _ rfl)
      have f1 : wr.cell? ⟨b2, o2 + k * 2 + 1, none⟩ = some (.int .i64 e'.tm) := (hB.cell (p := ⟨b2, o2 + (k * 2 + 1), none⟩) hlb').trans (hcell' 1 _ rfl)
      have h1 : (0 : Int) ≤ (k : Int) := by omega
      have h2 : (k : Int) < (n : Int) := by omega
      have hs1 := hB.size
      have hl1 : b1 < wr.heap.size := by omega
      have hl2 : b2 < wr.heap.size := by omega
      clear hcell hcell' he he'
      go_wp2_with fail
      go_region_held3 (fun v => v.cell? ⟨b1, o1 + k * 2, none⟩ = some (.int .i64 e'.id) ∧ v.cell? ⟨b1, o1 + k * 2 + 1, none⟩ = some (.int .i64 e'.tm) ∧ v.cell? ⟨b2, o2 + k * 2, none⟩ = some (.int .i64 e'.id) ∧ v.cell? ⟨b2, o2 + k * 2 + 1, none⟩ = some (.int .i64 e'.tm)) (go_keep)
        (first | (go_at_call 90; refine (laws_eqServed e' _).mono ?_; rintro e w1 ⟨rfl, h1⟩; (try (have hz0 : wr.heap.size < w1.heap.size := (by have := h1.size; (try simp at this); omega); have hl0 := (fun o => (bcell h1).1 (wr.heap.size) o (by go_size)); have hv0 := (fun o => (bcell h1).2 (wr.heap.size) o (by go_size)))); replace h1 : Below wr.heap.size wr w1 := bthen (by go_grown) h1 (by first | go_size | omega); obtain ⟨hc1, hf1⟩ := bcell h1; have hB2 : Below w.heap.size w w1 := bthen hB h1 (by omega)))
      go_wp2_with fail
      go_roundw
      case rel => exact ⟨k + 1, by omega, by go_num, by first | assumption | exact bdrawn (by assumption) _⟩
      case measure => simp [intOf]; omega
    · go_wp2
      go_ret
      exact ⟨rfl, hB⟩
def markSv (k0 : Int) (i : Nat) : Sv := ⟨k0 + (i : Int) * 2, k0 + (i : Int) * 2 + 1⟩
def marksSv (k0 : Int) (n : Nat) : List Sv := (List.range n).map (markSv k0)
theorem marksSv_len (k0 : Int) (n : Nat) : (marksSv k0 n).length = n := by simp [marksSv]
theorem marksSv_at (k0 : Int) (n k : Nat) (h : k < n) : (marksSv k0 n)[k]? = some (markSv k0 k) := by simp [marksSv, List.getElem?_range h]
def MarkedSv (lo hi : Nat) (w : World) (a : Option Addr) (n c : Nat) (k0 : Int) (e : Ending) (w' : World) : Prop :=
  e = .returned (.int .i64 (k0 + (n : Int) * 2)) ∧ Owned lo hi w' 58 2 a n c ((marksSv k0 n).flatMap svF) ∧ Save lo hi w w'
set_option maxRecDepth 100000 in
set_option maxHeartbeats 1000000 in
theorem laws_markServedS (lo hi : Nat) (a : Option Addr) (n c : Nat) (k0 : Int) (xs : List Value) (w : World) (hk0 : 0 ≤ k0 ∧ k0 ≤ 1000000000) (hs : n ≤ 1048576) (ho : Owned lo hi w 58 2 a n c xs) :
    Calls Try.prog 46 #[.slice a n c, .int .i64 k0] w (MarkedSv lo hi w a n c k0) := by
  have hk1 := hk0.1; have hk2 := hk0.2
  clear hk0
  have hxl := hide ho.1.1
  have hc := (Owned.caps ho).1
  have hm : c ≤ 9223372036854775807 := (Owned.caps ho).2
  go_enter Try.func46, Try.ntmps46
  go_wp2
  go_loopw [1, 5] (fun v i wr => ∃ k : Nat, k ≤ n ∧ i = .int .i64 k ∧ v = .int .i64 (k0 + (k : Int) * 2) ∧ Owned lo hi wr 58 2 a n c (((marksSv k0 n).take k).flatMap svF ++ xs.drop (k * 2)) ∧ Save lo hi w wr) (fun _ i _ => n - (intOf i).toNat)
  case atStart => exact ⟨0, by omega, rfl, by simp, by simpa using ho, Save.refl _ _ _⟩
  case round =>
    clear ho
    obtain ⟨k, hk, rfl, rfl, hO, hS⟩ := hrel
    by_cases hlt : k < n
    · obtain ⟨g, rfl, hg1, hg2, hg3, hcell, hfr⟩ := hO.some (by omega)
      have hc0 : ∀ j, j < 2 → ∃ u, wr.cell? ⟨g, k * 2 + j, none⟩ = some u := fun j hj => ⟨_, (hcell (k * 2 + j) (by omega)).trans (List.getElem?_eq_getElem (by rw [hO.1.1]; omega))⟩
      obtain ⟨u0, c0⟩ := hc0 0 (by omega)
      obtain ⟨u1, c1⟩ := hc0 1 (by omega)
      replace c0 : wr.cell? ⟨g, k * 2, none⟩ = some u0 := c0
      have h1 : (0 : Int) ≤ (k : Int) := by omega
      have h2 : (k : Int) < (n : Int) := by omega
      have HM := hide (marksSv_at k0 n k hlt)
      have HO := hide hO
      clear hO hcell hc0
      go_wp2
      go_roundw
      case rel =>
        obtain ⟨h3, h4⟩ := store_owned HO.out (k * 2) 0 (svF (markSv k0 k))
        refine ⟨k + 1, by omega, by go_num, by simp; omega, ?_, hS.trans ?_⟩
        · rw [row_over (sz := 2) (by rw [flat_len svF_len, List.length_take, marksSv_len]; omega) hlt hxl.out rfl, ← flat_snoc HM.out] at h3
          exact h3
        · exact h4
      case measure => simp [intOf]; omega
    · go_wp2
      go_ret
      obtain rfl : k = n := by omega
      rw [List.take_of_length_le (by simp [marksSv_len]), List.drop_eq_nil_of_le (by rw [hxl.out]; exact Nat.le_refl _), List.append_nil] at hO
      exact ⟨rfl, hO, hS⟩
set_option maxRecDepth 100000 in
set_option maxHeartbeats 1000000 in
theorem laws_heldServedS (a : Option Addr) (n c : Nat) (k0 : Int) (w : World) (hk0 : 0 ≤ k0 ∧ k0 ≤ 1000000000) (hs : n ≤ 1048576) (hb : IsStructs svF 2 w a n c (marksSv k0 n)) :
    Calls Try.prog 47 #[.slice a n c, .int .i64 k0] w fun e w' => e = .returned (.int .i64 (k0 + (n : Int) * 2)) ∧ Below w.heap.size w w' := by
  have hk1 := hk0.1; have hk2 := hk0.2
  clear hk0
  have HA := hide hb
  have hc := hb.2.1; have hm : c ≤ 9223372036854775807 := hb.2.2.1
  clear hb
  go_enter Try.func47, Try.ntmps47
  go_wp2
  go_loopw [1, 5] (fun v i wr => ∃ k : Nat, k ≤ n ∧ i = .int .i64 k ∧ v = .int .i64 (k0 + (k : Int) * 2) ∧ Below w.heap.size w wr) (fun _ i _ => n - (intOf i).toNat)
  case atStart => exact ⟨0, by omega, rfl, by simp, Below.refl _ _⟩
  case round =>
    obtain ⟨k, hk, rfl, rfl, hB⟩ := hrel
    by_cases hlt : k < n
    · obtain ⟨e, b1, o1, he, rfl, hlb, hcell⟩ := HA.out.get svF_len (by omega) hlt
      rw [marksSv_at k0 n k hlt] at he
      injection he with he
      subst he
      have e0 : wr.cell? ⟨b1, o1 + k * 2, none⟩ = some (.int .i64 (k0 + (k : Int) * 2)) := (hB.cell (p := ⟨b1, o1 + (k * 2 + 0), none⟩) hlb).trans (hcell 0 _ rfl)
      have e1 : wr.cell? ⟨b1, o1 + k * 2 + 1, none⟩ = some (.int .i64 (k0 + (k : Int) * 2 + 1)) := (hB.cell (p := ⟨b1, o1 + (k * 2 + 1), none⟩) hlb).trans (hcell 1 _ rfl)
      have h1 : (0 : Int) ≤ (k : Int) := by omega
      have h2 : (k : Int) < (n : Int) := by omega
      clear hcell
      go_wp2
      go_roundw
      case rel => exact ⟨k + 1, by omega, by go_num, by simp; omega, hB⟩
      case measure => simp [intOf]; omega
    · go_wp2
      go_ret
      obtain rfl : k = n := by omega
      exact ⟨rfl, hB⟩
end Go.Proofs.Ytahfbhfmhccgoaa
