/- Slots: the laws' helpers (how large, whether equal), and NextSlot, of the program and of the reference. -/
import Derived.Test.YtahfbhfmhccgoaaSlots
set_option linter.unusedSimpArgs false
set_option linter.unusedVariables false
namespace Go.Proofs.Ytahfbhfmhccgoaa
open Go.RowKit Go.ChangeShapes Go.WideShapes Go.ChangeAt Go.Joins Go.Deep
open Go.ChangeMaps (open_string shut_string)

set_option maxHeartbeats 400000 in
theorem laws_szIntS (a : Option Addr) (n c : Nat) (l : Int) (w : World) (h0 : 0 ≤ l) (h1 : (n : Int) ≤ l) (h2 : l ≤ 1048576) :
    Calls Try.prog 87 #[.slice a n c, .int .i64 l] w fun e w' => e = .returned (.int .i64 (l - n)) ∧ w = w' := by
  have h3 : 0 ≤ l - (n : Int) := by omega
  go_enter Try.func87, Try.ntmps87
  go_wp2
  go_ret
  exact ⟨rfl, rfl⟩
set_option maxHeartbeats 400000 in
theorem laws_szIntS_no (a : Option Addr) (n c : Nat) (l : Int) (w : World) (h0 : 0 ≤ l) (h1 : l < (n : Int)) (h2 : l ≤ 1048576) (hm : n ≤ c ∧ c ≤ 9223372036854775807) :
    Calls Try.prog 87 #[.slice a n c, .int .i64 l] w fun e w' => e = .returned (.int .i64 (-1)) ∧ w = w' := by
  have h3 : l - (n : Int) < 0 := by omega
  have h4 := hm.1; have h5 := hm.2
  clear hm
  go_enter Try.func87, Try.ntmps87
  go_wp2
  go_ret
  exact ⟨rfl, rfl⟩
set_option maxHeartbeats 400000 in
theorem laws_szSlots (a : Option Addr) (n c : Nat) (k l : Int) (w : World) (h0 : 0 ≤ l) (h1 : (n : Int) ≤ l) (h2 : l ≤ 1048576) :
    Calls Try.prog 37 #[.agg #[.slice a n c, .int .i64 k], .int .i64 l] w fun e w' => e = .returned (.int .i64 (l - n)) ∧ Below w.heap.size w w' := by
  have h3 : 0 ≤ l - (n : Int) := by omega
  go_enter Try.func37, Try.ntmps37
  go_wp2_with fail
  refine (laws_szIntS _ _ _ _ _ h0 h1 h2).mono ?_
  rintro e w1 ⟨rfl, rfl⟩
  go_wp2
  go_ret
  exact ⟨rfl, by go_grown⟩
set_option maxHeartbeats 400000 in
theorem laws_szSlots_no (a : Option Addr) (n c : Nat) (k l : Int) (w : World) (h0 : 0 ≤ l) (h1 : l < (n : Int)) (h2 : l ≤ 1048576) (hm : n ≤ c ∧ c ≤ 9223372036854775807) :
    Calls Try.prog 37 #[.agg #[.slice a n c, .int .i64 k], .int .i64 l] w fun e w' => e = .returned (.int .i64 (-1)) ∧ Below w.heap.size w w' := by
  go_enter Try.func37, Try.ntmps37
  go_wp2_with fail
  refine (laws_szIntS_no _ _ _ _ _ h0 h1 h2 hm).mono ?_
  rintro e w1 ⟨rfl, rfl⟩
  go_wp2
  go_ret
  exact ⟨rfl, by go_grown⟩
set_option maxHeartbeats 400000 in
theorem laws_eqSlots (a b : Option Addr) (n c c' : Nat) (zs : List Int) (l : Int) (w : World) (ha : IsInts .i64 w a n c zs) (hb : IsInts .i64 w b n c' zs) :
    Calls Try.prog 42 #[.agg #[.slice a n c, .int .i64 l], .agg #[.slice b n c', .int .i64 l]] w fun e w' => e = .returned (.bool true) ∧ Below w.heap.size w w' := by
  have HA := hide ha; have HB := hide hb
  clear ha hb
  go_enter Try.func42, Try.ntmps42
  go_wp2_with fail
  refine (laws_eqIntS _ _ _ _ _ _ _ (HA.out.below (B := w.heap.size) (by go_grown) (Nat.le_refl _)) (HB.out.below (B := w.heap.size) (by go_grown) (Nat.le_refl _))).mono ?_
  rintro e w1 ⟨rfl, h1⟩
  have s1 := h1.size
  try simp only [World.size_alloc, World.size_setCell, World.size_drew, World.heap_drewN] at s1
  have B1_1 := h1
  have z1_0 : w.heap.size < w1.heap.size := by omega
  have q1_0 := fun o => (bcell B1_1).1 (w.heap.size) o (by go_size)
  have f1_0 := fun o => (bcell B1_1).2 (w.heap.size) o (by go_size)
  have z1_1 : w.heap.size + 1 < w1.heap.size := by omega
  have q1_1 := fun o => (bcell B1_1).1 (w.heap.size + 1) o (by go_size)
  have f1_1 := fun o => (bcell B1_1).2 (w.heap.size + 1) o (by go_size)
  have H1 : Below w.heap.size w w1 := bthen (by repeat' (first | (with_reducible exact Below.refl _ _) | (with_reducible assumption) | (with_reducible refine bdrawn ?_ _) | (with_reducible refine Below.alloc ?_ ?_ _) | (with_reducible refine Below.drew ?_) | (with_reducible refine Below.setCell ?_ ?_ _) | go_size)) h1 (by go_size)
  have C1 := (bcell H1).1; have F1 := (bcell H1).2
  go_wp2
  go_ret
  exact ⟨rfl, by go_grown⟩

def nsFrom (zs : List Int) (l tn : Int) : Nat → Int → Int
  | 0, _ => -1
  | f + 1, b => if (ownerAt zs l b == tn) = true then b else nsFrom zs l tn f (b + l)
def nextSlot (zs : List Int) (l tn t : Int) : Int := if slotsOkB zs l = true ∧ btw t 0 1000000 = true then nsFrom zs l tn zs.length ((t + l - 1) / l * l) else -1
theorem nsFrom_yes {zs : List Int} {l tn b : Int} {f : Nat} (hf : 0 < f) (h : (ownerAt zs l b == tn) = true) : nsFrom zs l tn f b = b := by
  obtain ⟨g, rfl⟩ : ∃ g, f = g + 1 := ⟨f - 1, by omega⟩
  exact if_pos h
theorem nsFrom_no {zs : List Int} {l tn b : Int} {f : Nat} (hf : 0 < f) (h : (ownerAt zs l b == tn) = false) : nsFrom zs l tn f b = nsFrom zs l tn (f - 1) (b + l) := by
  obtain ⟨g, rfl⟩ : ∃ g, f = g + 1 := ⟨f - 1, by omega⟩
  exact if_neg (by simp [h])

set_option maxHeartbeats 1000000 in
theorem impl_NextSlot (a : Option Addr) (n c : Nat) (zs : List Int) (l tn t : Int) (w : World) (ha : IsInts .i64 w a n c zs) (hs : n ≤ 1048576) :
    Calls Try.prog 28 #[.agg #[.slice a n c, .int .i64 l], .int .i64 tn, .int .i64 t] w fun e w' => e = .returned (.int .i64 (nextSlot zs l tn t)) ∧ Below w.heap.size w w' := by
  have HA := hide ha
  clear ha
  cases hok : slotsOkB zs l
  · have HV := hide (show nextSlot zs l tn t = -1 by unfold nextSlot; rw [if_neg (by simp [hok])])
    go_enter Try.func28, Try.ntmps28
    go_wp2_with (first | (go_at_call 77; refine (impl_between _ _ _ _).mono ?_; rintro e w1 ⟨rfl, rfl⟩) | (go_at_call 32; refine (impl_SlotsOk _ _ _ _ _ _ (HA.out.below (B := w.heap.size) (by go_grown) (Nat.le_refl _)) hs).mono ?_; rintro e w1 ⟨rfl, h1⟩; (try (have hz0 : w.heap.size < w1.heap.size := (by have := h1.size; (try simp at this); omega); have hl0 := (fun o => (bcell h1).1 (w.heap.size) o (by go_size)); have hv0 := (fun o => (bcell h1).2 (w.heap.size) o (by go_size)))); (try (have hz1 : w.heap.size + 1 < w1.heap.size := (by have := h1.size; (try simp at this); omega); have hl1 := (fun o => (bcell h1).1 (w.heap.size + 1) o (by go_size)); have hv1 := (fun o => (bcell h1).2 (w.heap.size + 1) o (by go_size)))); (try (have hz2 : w.heap.size + 1 + 1 < w1.heap.size := (by have := h1.size; (try simp at this); omega); have hl2 := (fun o => (bcell h1).1 (w.heap.size + 1 + 1) o (by go_size)); have hv2 := (fun o => (bcell h1).2 (w.heap.size + 1 + 1) o (by go_size)))); replace h1 : Below w.heap.size w w1 := bthen (by go_grown) h1 (by first | go_size | omega); obtain ⟨hc1, hf1⟩ := bcell h1))
    go_ret
    exact ⟨ret_int HV.out.symm, by go_grown⟩
  · cases hb : btw t 0 1000000
    · have HV := hide (show nextSlot zs l tn t = -1 by unfold nextSlot; rw [if_neg (by simp [hb])])
      go_enter Try.func28, Try.ntmps28
      go_wp2_with (first | (go_at_call 77; refine (impl_between _ _ _ _).mono ?_; rintro e w1 ⟨rfl, rfl⟩) | (go_at_call 32; refine (impl_SlotsOk _ _ _ _ _ _ (HA.out.below (B := w.heap.size) (by go_grown) (Nat.le_refl _)) hs).mono ?_; rintro e w1 ⟨rfl, h1⟩; (try (have hz0 : w.heap.size < w1.heap.size := (by have := h1.size; (try simp at this); omega); have hl0 := (fun o => (bcell h1).1 (w.heap.size) o (by go_size)); have hv0 := (fun o => (bcell h1).2 (w.heap.size) o (by go_size)))); (try (have hz1 : w.heap.size + 1 < w1.heap.size := (by have := h1.size; (try simp at this); omega); have hl1 := (fun o => (bcell h1).1 (w.heap.size + 1) o (by go_size)); have hv1 := (fun o => (bcell h1).2 (w.heap.size + 1) o (by go_size)))); (try (have hz2 : w.heap.size + 1 + 1 < w1.heap.size := (by have := h1.size; (try simp at this); omega); have hl2 := (fun o => (bcell h1).1 (w.heap.size + 1 + 1) o (by go_size)); have hv2 := (fun o => (bcell h1).2 (w.heap.size + 1 + 1) o (by go_size)))); replace h1 : Below w.heap.size w w1 := bthen (by go_grown) h1 (by first | go_size | omega); obtain ⟨hc1, hf1⟩ := bcell h1))
      go_ret
      exact ⟨ret_int HV.out.symm, by go_grown⟩
    · obtain ⟨hb0, hb1, hb2, hb3, hb4⟩ := slotsOkB_bd hok
      rw [HA.out.1] at hb1 hb2
      have hbt := btw_true.1 hb
      have ht0 := hbt.1; have ht1 := hbt.2
      have g0 : 0 ≤ t + l - 1 := by omega
      have g1 : (t + l - 1).tdiv l = (t + l - 1) / l := Int.tdiv_eq_ediv_of_nonneg g0
      have g2 : ¬ l = 0 := by omega
      have g3 : (t + l - 1) / l * l ≤ t + l - 1 := Int.ediv_mul_le _ g2
      have g4 : 0 ≤ (t + l - 1) / l := Int.ediv_nonneg g0 (by omega)
      have g5 : 0 ≤ (t + l - 1) / l * l := Int.mul_nonneg g4 (by omega)
      have g6 : (t + l - 1) / l ≤ t + l - 1 := Int.ediv_le_self l g0
      have HV := hide (show nextSlot zs l tn t = nsFrom zs l tn n ((t + l - 1) / l * l) by unfold nextSlot; rw [if_pos ⟨hok, hb⟩, HA.out.1])
      clear hb0 hbt
      go_enter Try.func28, Try.ntmps28
      go_wp2_with (first | (go_at_call 77; refine (impl_between _ _ _ _).mono ?_; rintro e w1 ⟨rfl, rfl⟩) | (go_at_call 32; refine (impl_SlotsOk _ _ _ _ _ _ (HA.out.below (B := w.heap.size) (by go_grown) (Nat.le_refl _)) hs).mono ?_; rintro e w1 ⟨rfl, h1⟩; (try (have hz0 : w.heap.size < w1.heap.size := (by have := h1.size; (try simp at this); omega); have hl0 := (fun o => (bcell h1).1 (w.heap.size) o (by go_size)); have hv0 := (fun o => (bcell h1).2 (w.heap.size) o (by go_size)))); (try (have hz1 : w.heap.size + 1 < w1.heap.size := (by have := h1.size; (try simp at this); omega); have hl1 := (fun o => (bcell h1).1 (w.heap.size + 1) o (by go_size)); have hv1 := (fun o => (bcell h1).2 (w.heap.size + 1) o (by go_size)))); (try (have hz2 : w.heap.size + 1 + 1 < w1.heap.size := (by have := h1.size; (try simp at this); omega); have hl2 := (fun o => (bcell h1).1 (w.heap.size + 1 + 1) o (by go_size)); have hv2 := (fun o => (bcell h1).2 (w.heap.size + 1 + 1) o (by go_size)))); replace h1 : Below w.heap.size w w1 := bthen (by go_grown) h1 (by first | go_size | omega); obtain ⟨hc1, hf1⟩ := bcell h1))
      go_quiet (fail)
      go_wp2_with fail
      go_loopw [7, 30] (fun v i wr => ∃ (k : Nat) (x : Int), k ≤ n ∧ i = .int .i64 k ∧ v = .int .i64 x ∧ 0 ≤ x ∧ x ≤ 1001000 + 1000 * (k : Int) ∧ Hid (nsFrom zs l tn (n - k) x = nsFrom zs l tn n ((t + l - 1) / l * l)) ∧ Below w.heap.size w wr ∧ w.heap.size < wr.heap.size ∧ wr.cell? ⟨w.heap.size, 0, none⟩ = some (.slice a n c) ∧ wr.cell? ⟨w.heap.size, 1, none⟩ = some (.int .i64 l)) (fun _ i _ => n - (intOf i).toNat)
      case atStart => exact ⟨0, _, by omega, rfl, rfl, g5, by omega, hide rfl, by first | (with_reducible exact bdrawn (by assumption) _) | go_grown, by simp [*], by simp [*], by simp [*]⟩
      case round =>
        obtain ⟨k, x, hk, rfl, rfl, hx0, hx1, HG, hB, hsz, e0, e1⟩ := hrel
        by_cases hlt : k < n
        · have HB := hide hB
          cases hq : (ownerAt zs l x == tn)
          all_goals
            go_wp2_with (first | (go_at_call 30; refine (impl_OwnerAt _ _ _ _ _ _ _ (by omega) (HA.out.below HB.out (Nat.le_refl _)) hs).mono ?_; rintro e w1 ⟨rfl, h1⟩; (try (have hz0 : wr.heap.size < w1.heap.size := (by have := h1.size; (try simp at this); omega); have hl0 := (fun o => (bcell h1).1 (wr.heap.size) o (by go_size)); have hv0 := (fun o => (bcell h1).2 (wr.heap.size) o (by go_size)))); replace h1 : Below wr.heap.size wr w1 := bthen (by go_grown) h1 (by first | go_size | omega); obtain ⟨hc1, hf1⟩ := bcell h1; have hzw : w.heap.size < w1.heap.size := (by have := h1.size; omega); have hB2 : Below w.heap.size w w1 := bthen HB.out h1 (by omega)))
          · go_roundw
            case rel => exact ⟨k + 1, _, by omega, by go_num, rfl, by omega, by omega, hide (by rw [← HG.out, nsFrom_no (show 0 < n - k by omega) hq]; rfl), by assumption, by assumption, by simp [*], by simp [*]⟩
            case measure => simp [intOf]; omega
          · go_ret
            exact ⟨ret_int (by rw [HV.out, ← HG.out, nsFrom_yes (show 0 < n - k by omega) hq]), by assumption⟩
        · obtain rfl : k = n := by omega
          go_wp2
          go_ret
          exact ⟨ret_int (by rw [HV.out, ← HG.out, Nat.sub_self]; rfl), hB⟩

end Go.Proofs.Ytahfbhfmhccgoaa
