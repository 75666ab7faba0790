/- Slots of a fixed schedule: SlotsOk and OwnerAt, of the program and of the reference, and the laws' copy of slots. -/
import Derived.Test.YtahfbhfmhccgoaaInts
import Derived.Test.YtahfbhfmhccgoaaBetween
import Derived.Deep.RegionHeld3
set_option linter.unusedSimpArgs false
set_option linter.unusedVariables false
namespace Go.Proofs.Ytahfbhfmhccgoaa
open Go.RowKit Go.ChangeShapes Go.WideShapes Go.ChangeAt Go.Joins Go.Deep
open Go.ChangeMaps (open_string shut_string)

theorem ownsRow_set_below {w : World} {base : Nat} {e : TypeId} {size : Nat} {v : Value} {n : Nat} {xs : List Value} {g o : Nat} {u : Value} (h : w.ownsRow base e size v n xs) (hg : g < base) : (w.setCell ⟨g, o, none⟩ u).ownsRow base e size v n xs :=
  h.kept (row := some g) ⟨rfl, rfl, rfl, by simp [World.setCell], fun k hk hr => Below.heap_setCell w ⟨g, o, none⟩ u k (fun e => hr (by rw [e]))⟩ (own_ne h hg)

def slotsOkB (zs : List Int) (l : Int) : Bool := (zs.all fun z => btw z 0 3) && (btw (zs.length : Int) 1 16 && btw l 4 1000)
theorem all_no {α : Type} {xs : List α} {p : α → Bool} {k : Nat} {z : α} (h : xs[k]? = some z) (hp : p z = false) : xs.all p = false := by
  rw [List.all_eq_false]; exact ⟨z, List.mem_of_getElem? h, by simp [hp]⟩
theorem all_next {α : Type} {xs : List α} {p : α → Bool} {k : Nat} {z : α} (h : xs[k]? = some z) (hp : p z = true) (ha : (xs.take k).all p = true) : (xs.take (k + 1)).all p = true := by
  rw [take_snoc h, List.all_append, ha]; simp [hp]
theorem slotsOkB_bd {zs : List Int} {l : Int} (h : slotsOkB zs l = true) : (∀ z ∈ zs, 0 ≤ z ∧ z ≤ 3) ∧ 1 ≤ zs.length ∧ zs.length ≤ 16 ∧ 4 ≤ l ∧ l ≤ 1000 := by
  simp only [slotsOkB, Bool.and_eq_true, List.all_eq_true, btw_true] at h
  exact ⟨h.1, by omega, by omega, h.2.2.1, h.2.2.2⟩
/-- The tenant whose slot contains a time. -/
def ownerAt (zs : List Int) (l t : Int) : Int := if slotsOkB zs l = true ∧ 0 ≤ t then zs[(t / l % zs.length).toNat]?.getD 0 else -1

set_option maxHeartbeats 400000 in
theorem laws_toSlots (a : Option Addr) (n c : Nat) (zs : List Int) (l : Int) (w : World) (ha : IsInts .i64 w a n c zs) (hs : n ≤ 1048576) :
    Calls Try.prog 39 #[.agg #[.slice a n c, .int .i64 l]] w fun e w' => ∃ (a' : Option Addr) (c' : Nat), e = .returned (.agg #[.slice a' n c', .int .i64 l]) ∧ w'.ownsRow w.heap.size 3 1 (.slice a' n c') n (zs.map (.int .i64)) ∧ Below w.heap.size w w' := by
  have HA := hide ha
  clear ha
  go_enter Try.func39, Try.ntmps39
  go_wp2_with fail
  refine (laws_toIntS a n c zs _ (HA.out.below (B := w.heap.size) (by go_grown) (Nat.le_refl _)) hs).mono ?_
  rintro e w1 ⟨a1, c1, rfl, o1, h1⟩
  have s1 := h1.size
  simp only [World.size_alloc] at s1
  have z0 : w.heap.size < w1.heap.size := by omega
  have z1 : w.heap.size + 1 < w1.heap.size := by omega
  have z2 : w.heap.size + 1 + 1 < w1.heap.size := by omega
  have q0 := fun o => (bcell h1).1 w.heap.size o (by go_size)
  have q1 := fun o => (bcell h1).1 (w.heap.size + 1) o (by go_size)
  have q2 := fun o => (bcell h1).1 (w.heap.size + 1 + 1) o (by go_size)
  have f1 := fun o => (bcell h1).2 (w.heap.size + 1) o (by go_size)
  have f2 := fun o => (bcell h1).2 (w.heap.size + 1 + 1) o (by go_size)
  have hO := hide o1
  have H1 : Below w.heap.size w w1 := bthen (by go_grown) h1 (by go_size)
  clear o1
  go_wp2_with fail
  refine bodyPost_ret (by simp [results, Try.results39, go_sem, *]; try rfl) rfl ?_
  refine ⟨a1, c1, rfl, ?_, by go_grown⟩
  refine own_base (ownsRow_set_below (ownsRow_set_below (ownsRow_set_below (ownsRow_set_below hO.out ?_) ?_) ?_) ?_) ?_
  all_goals (simp only [World.size_alloc]; omega)

set_option maxHeartbeats 800000 in
theorem impl_SlotsOk (a : Option Addr) (n c : Nat) (zs : List Int) (l : Int) (w : World) (ha : IsInts .i64 w a n c zs) (hs : n ≤ 1048576) :
    Calls Try.prog 32 #[.agg #[.slice a n c, .int .i64 l]] w fun e w' => e = .returned (.bool (slotsOkB zs l)) ∧ Below w.heap.size w w' := by
  obtain ⟨hn, hc, hm, hw, hr⟩ := ha
  have Hr := hide hr; have HN := hide hn
  clear hr hw hm hn
  go_enter Try.func32, Try.ntmps32
  go_wp2
  go_loop [8] (fun i => ∃ k : Nat, k ≤ n ∧ i = .int .i64 k ∧ Hid ((zs.take k).all (fun z => btw z 0 3) = true)) (fun i => n - (intOf i).toNat)
  case atStart => exact ⟨0, by omega, rfl, hide (by simp)⟩
  case round =>
    obtain ⟨k, hk, rfl, HT⟩ := hrel
    by_cases hlt : k < n
    · obtain ⟨z, b1, o1, hz, rfl, hlb, hc1⟩ := Hr.out.get (k := k) (by rw [HN.out]; exact hlt)
      have HZ := hide hz
      have h1 : (0 : Int) ≤ (k : Int) := by omega
      have h2 : (k : Int) < (n : Int) := by omega
      clear hz
      cases hb : btw z 0 3
      · go_wp2_with (first | (go_at_call 77; refine (impl_between _ _ _ _).mono ?_; rintro e w1 ⟨rfl, rfl⟩))
        go_ret
        exact ⟨ret_bool (by unfold slotsOkB; rw [all_no HZ.out hb]; rfl), by go_grown⟩
      · go_wp2_with (first | (go_at_call 77; refine (impl_between _ _ _ _).mono ?_; rintro e w1 ⟨rfl, rfl⟩))
        go_round
        case rel => exact ⟨k + 1, by omega, by go_num, hide (all_next HZ.out hb HT.out)⟩
        case measure => simp [intOf]; omega
    · obtain rfl : k = n := by omega
      have HV : Hid (slotsOkB zs l = (btw (k : Int) 1 16 && btw l 4 1000)) := by
        have := HT.out
        rw [List.take_of_length_le (by rw [HN.out]; exact Nat.le_refl _)] at this
        exact hide (by unfold slotsOkB; rw [this, HN.out]; rfl)
      cases hb : btw (k : Int) 1 16
      all_goals
        go_wp2_with (first | (go_at_call 77; refine (impl_between _ _ _ _).mono ?_; rintro e w1 ⟨rfl, rfl⟩))
        go_ret
        exact ⟨ret_bool (by rw [HV.out, hb]; rfl), by go_grown⟩

set_option maxHeartbeats 800000 in
theorem spec_SlotsOk (a : Option Addr) (n c : Nat) (zs : List Int) (l : Int) (w : World) (ha : IsInts .i64 w a n c zs) (hs : n ≤ 1048576) :
    Calls Try.prog 124 #[.agg #[.slice a n c, .int .i64 l]] w fun e w' => e = .returned (.bool (slotsOkB zs l)) ∧ Below w.heap.size w w' := by
  obtain ⟨hn, hc, hm, hw, hr⟩ := ha
  have Hr := hide hr; have HN := hide hn
  clear hr hw hm hn
  go_enter Try.func124, Try.ntmps124
  go_wp2
  go_loop [3] (fun i => ∃ k : Nat, k ≤ n ∧ i = .int .i64 k ∧ Hid ((zs.take k).all (fun z => btw z 0 3) = true)) (fun i => n - (intOf i).toNat)
  case atStart => exact ⟨0, by omega, rfl, hide (by simp)⟩
  case round =>
    obtain ⟨k, hk, rfl, HT⟩ := hrel
    by_cases hlt : k < n
    · obtain ⟨z, b1, o1, hz, rfl, hlb, hc1⟩ := Hr.out.get (k := k) (by rw [HN.out]; exact hlt)
      have HZ := hide hz
      have h1 : (0 : Int) ≤ (k : Int) := by omega
      have h2 : (k : Int) < (n : Int) := by omega
      clear hz
      cases hb : btw z 0 3
      · go_wp2_with (first | (go_at_call 78; refine (spec_l01In _ _ _ _).mono ?_; rintro e w1 ⟨rfl, rfl⟩))
        go_ret
        exact ⟨ret_bool (by unfold slotsOkB; rw [all_no HZ.out hb]; rfl), by go_grown⟩
      · go_wp2_with (first | (go_at_call 78; refine (spec_l01In _ _ _ _).mono ?_; rintro e w1 ⟨rfl, rfl⟩))
        go_round
        case rel => exact ⟨k + 1, by omega, by go_num, hide (all_next HZ.out hb HT.out)⟩
        case measure => simp [intOf]; omega
    · obtain rfl : k = n := by omega
      have HV : Hid (slotsOkB zs l = (btw (k : Int) 1 16 && btw l 4 1000)) := by
        have := HT.out
        rw [List.take_of_length_le (by rw [HN.out]; exact Nat.le_refl _)] at this
        exact hide (by unfold slotsOkB; rw [this, HN.out]; rfl)
      cases hb : btw (k : Int) 1 16
      all_goals
        go_wp2_with (first | (go_at_call 78; refine (spec_l01In _ _ _ _).mono ?_; rintro e w1 ⟨rfl, rfl⟩))
        go_ret
        exact ⟨ret_bool (by rw [HV.out, hb]; rfl), by go_grown⟩

set_option maxHeartbeats 800000 in
theorem impl_OwnerAt (a : Option Addr) (n c : Nat) (zs : List Int) (l t : Int) (w : World) (htb : t ≤ 9223372036854775807) (ha : IsInts .i64 w a n c zs) (hs : n ≤ 1048576) :
    Calls Try.prog 30 #[.agg #[.slice a n c, .int .i64 l], .int .i64 t] w fun e w' => e = .returned (.int .i64 (ownerAt zs l t)) ∧ Below w.heap.size w w' := by
  have HA := hide ha
  clear ha
  cases hok : slotsOkB zs l
  · have HV := hide (show ownerAt zs l t = -1 by unfold ownerAt; rw [if_neg (by simp [hok])])
    go_enter Try.func30, Try.ntmps30
    go_wp2_with (first | (go_at_call 32; refine (impl_SlotsOk _ _ _ _ _ _ (HA.out.below (B := w.heap.size) (by go_grown) (Nat.le_refl _)) hs).mono ?_; rintro e w1 ⟨rfl, h1⟩; (try (have hz0 : w.heap.size < w1.heap.size := (by have := h1.size; (try simp at this); omega); have hl0 := (fun o => (bcell h1).1 (w.heap.size) o (by go_size)); have hv0 := (fun o => (bcell h1).2 (w.heap.size) o (by go_size)))); (try (have hz1 : w.heap.size + 1 < w1.heap.size := (by have := h1.size; (try simp at this); omega); have hl1 := (fun o => (bcell h1).1 (w.heap.size + 1) o (by go_size)); have hv1 := (fun o => (bcell h1).2 (w.heap.size + 1) o (by go_size)))); (try (have hz2 : w.heap.size + 1 + 1 < w1.heap.size := (by have := h1.size; (try simp at this); omega); have hl2 := (fun o => (bcell h1).1 (w.heap.size + 1 + 1) o (by go_size)); have hv2 := (fun o => (bcell h1).2 (w.heap.size + 1 + 1) o (by go_size)))); replace h1 : Below w.heap.size w w1 := bthen (by go_grown) h1 (by first | go_size | omega); obtain ⟨hc1, hf1⟩ := bcell h1))
    go_ret
    exact ⟨ret_int HV.out.symm, by go_grown⟩
  · obtain ⟨hb0, hb1, hb2, hb3, hb4⟩ := slotsOkB_bd hok
    clear hb0
    by_cases ht : 0 ≤ t
    · obtain ⟨hn, hc, hm, hw, hr⟩ := HA.out
      have hi0 : 0 ≤ t / l % (zs.length : Int) := Int.emod_nonneg _ (by omega)
      have hi1 : t / l % (zs.length : Int) < (zs.length : Int) := Int.emod_lt_of_pos _ (by omega)
      obtain ⟨i, hi⟩ := Int.eq_ofNat_of_zero_le hi0
      have hlt : i < n := by have := hi1; rw [hi] at this; omega
      obtain ⟨z, b1, o1, hz, rfl, hlb, hcell⟩ := hr.get (k := i) (by omega)
      have HV := hide (show ownerAt zs l t = z by unfold ownerAt; rw [if_pos ⟨hok, ht⟩, hi, Int.toNat_natCast, hz]; rfl)
      have htl : 0 ≤ t / l := Int.ediv_nonneg ht (by omega)
      have htu : t / l ≤ 9223372036854775807 := Int.le_trans (Int.ediv_le_self l ht) htb
      rw [hn] at hi hb1 hb2
      have h1 : (0 : Int) ≤ (i : Int) := by omega
      have h2 : (i : Int) < (n : Int) := by omega
      have g1 : t.tdiv l = t / l := by rw [Int.tdiv_eq_ediv_of_nonneg ht]
      have g2 : (t / l).tmod (n : Int) = (i : Int) := by rw [Int.tmod_eq_emod_of_nonneg htl]; exact hi
      have g3 : ¬ l = 0 := by omega
      have g4 : ¬ (n : Int) = 0 := by omega
      clear hi0 hi1 hz hw hr hm hn
      go_enter Try.func30, Try.ntmps30
      go_wp2_with (first | (go_at_call 32; refine (impl_SlotsOk _ _ _ _ _ _ (HA.out.below (B := w.heap.size) (by go_grown) (Nat.le_refl _)) hs).mono ?_; rintro e w1 ⟨rfl, h1⟩; (try (have hz0 : w.heap.size < w1.heap.size := (by have := h1.size; (try simp at this); omega); have hl0 := (fun o => (bcell h1).1 (w.heap.size) o (by go_size)); have hv0 := (fun o => (bcell h1).2 (w.heap.size) o (by go_size)))); (try (have hz1 : w.heap.size + 1 < w1.heap.size := (by have := h1.size; (try simp at this); omega); have hl1 := (fun o => (bcell h1).1 (w.heap.size + 1) o (by go_size)); have hv1 := (fun o => (bcell h1).2 (w.heap.size + 1) o (by go_size)))); (try (have hz2 : w.heap.size + 1 + 1 < w1.heap.size := (by have := h1.size; (try simp at this); omega); have hl2 := (fun o => (bcell h1).1 (w.heap.size + 1 + 1) o (by go_size)); have hv2 := (fun o => (bcell h1).2 (w.heap.size + 1 + 1) o (by go_size)))); replace h1 : Below w.heap.size w w1 := bthen (by go_grown) h1 (by first | go_size | omega); obtain ⟨hc1, hf1⟩ := bcell h1))
      go_quiet (fail)
      go_wp2
      go_ret
      exact ⟨ret_int HV.out.symm, by first | (with_reducible exact bdrawn (by assumption) _) | go_grown⟩
    · have HV := hide (show ownerAt zs l t = -1 by unfold ownerAt; rw [if_neg (by simp [ht])])
      go_enter Try.func30, Try.ntmps30
      go_wp2_with (first | (go_at_call 32; refine (impl_SlotsOk _ _ _ _ _ _ (HA.out.below (B := w.heap.size) (by go_grown) (Nat.le_refl _)) hs).mono ?_; rintro e w1 ⟨rfl, h1⟩; (try (have hz0 : w.heap.size < w1.heap.size := (by have := h1.size; (try simp at this); omega); have hl0 := (fun o => (bcell h1).1 (w.heap.size) o (by go_size)); have hv0 := (fun o => (bcell h1).2 (w.heap.size) o (by go_size)))); (try (have hz1 : w.heap.size + 1 < w1.heap.size := (by have := h1.size; (try simp at this); omega); have hl1 := (fun o => (bcell h1).1 (w.heap.size + 1) o (by go_size)); have hv1 := (fun o => (bcell h1).2 (w.heap.size + 1) o (by go_size)))); (try (have hz2 : w.heap.size + 1 + 1 < w1.heap.size := (by have := h1.size; (try simp at this); omega); have hl2 := (fun o => (bcell h1).1 (w.heap.size + 1 + 1) o (by go_size)); have hv2 := (fun o => (bcell h1).2 (w.heap.size + 1 + 1) o (by go_size)))); replace h1 : Below w.heap.size w w1 := bthen (by go_grown) h1 (by first | go_size | omega); obtain ⟨hc1, hf1⟩ := bcell h1))
      go_ret
      exact ⟨ret_int HV.out.symm, by go_grown⟩

set_option maxHeartbeats 800000 in
theorem spec_OwnerAt (a : Option Addr) (n c : Nat) (zs : List Int) (l t : Int) (w : World) (htb : t ≤ 9223372036854775807) (ha : IsInts .i64 w a n c zs) (hs : n ≤ 1048576) :
    Calls Try.prog 125 #[.agg #[.slice a n c, .int .i64 l], .int .i64 t] w fun e w' => e = .returned (.int .i64 (ownerAt zs l t)) ∧ Below w.heap.size w w' := by
  have HA := hide ha
  clear ha
  cases hok : slotsOkB zs l
  · have HV := hide (show ownerAt zs l t = -1 by unfold ownerAt; rw [if_neg (by simp [hok])])
    go_enter Try.func125, Try.ntmps125
    go_wp2_with (first | (go_at_call 124; refine (spec_SlotsOk _ _ _ _ _ _ (HA.out.below (B := w.heap.size) (by go_grown) (Nat.le_refl _)) hs).mono ?_; rintro e w1 ⟨rfl, h1⟩; (try (have hz0 : w.heap.size < w1.heap.size := (by have := h1.size; (try simp at this); omega); have hl0 := (fun o => (bcell h1).1 (w.heap.size) o (by go_size)); have hv0 := (fun o => (bcell h1).2 (w.heap.size) o (by go_size)))); (try (have hz1 : w.heap.size + 1 < w1.heap.size := (by have := h1.size; (try simp at this); omega); have hl1 := (fun o => (bcell h1).1 (w.heap.size + 1) o (by go_size)); have hv1 := (fun o => (bcell h1).2 (w.heap.size + 1) o (by go_size)))); (try (have hz2 : w.heap.size + 1 + 1 < w1.heap.size := (by have := h1.size; (try simp at this); omega); have hl2 := (fun o => (bcell h1).1 (w.heap.size + 1 + 1) o (by go_size)); have hv2 := (fun o => (bcell h1).2 (w.heap.size + 1 + 1) o (by go_size)))); replace h1 : Below w.heap.size w w1 := bthen (by go_grown) h1 (by first | go_size | omega); obtain ⟨hc1, hf1⟩ := bcell h1))
    go_ret
    exact ⟨ret_int HV.out.symm, by go_grown⟩
  · obtain ⟨hb0, hb1, hb2, hb3, hb4⟩ := slotsOkB_bd hok
    clear hb0
    by_cases ht : 0 ≤ t
    · obtain ⟨hn, hc, hm, hw, hr⟩ := HA.out
      have hi0 : 0 ≤ t / l % (zs.length : Int) := Int.emod_nonneg _ (by omega)
      have hi1 : t / l % (zs.length : Int) < (zs.length : Int) := Int.emod_lt_of_pos _ (by omega)
      obtain ⟨i, hi⟩ := Int.eq_ofNat_of_zero_le hi0
      have hlt : i < n := by have := hi1; rw [hi] at this; omega
      obtain ⟨z, b1, o1, hz, rfl, hlb, hcell⟩ := hr.get (k := i) (by omega)
      have HV := hide (show ownerAt zs l t = z by unfold ownerAt; rw [if_pos ⟨hok, ht⟩, hi, Int.toNat_natCast, hz]; rfl)
      have htl : 0 ≤ t / l := Int.ediv_nonneg ht (by omega)
      have htu : t / l ≤ 9223372036854775807 := Int.le_trans (Int.ediv_le_self l ht) htb
      rw [hn] at hi hb1 hb2
      have h1 : (0 : Int) ≤ (i : Int) := by omega
      have h2 : (i : Int) < (n : Int) := by omega
      have g1 : t.tdiv l = t / l := by rw [Int.tdiv_eq_ediv_of_nonneg ht]
      have g2 : (t / l).tmod (n : Int) = (i : Int) := by rw [Int.tmod_eq_emod_of_nonneg htl]; exact hi
      have g3 : ¬ l = 0 := by omega
      have g4 : ¬ (n : Int) = 0 := by omega
      clear hi0 hi1 hz hw hr hm hn
      go_enter Try.func125, Try.ntmps125
      go_wp2_with (first | (go_at_call 124; refine (spec_SlotsOk _ _ _ _ _ _ (HA.out.below (B := w.heap.size) (by go_grown) (Nat.le_refl _)) hs).mono ?_; rintro e w1 ⟨rfl, h1⟩; (try (have hz0 : w.heap.size < w1.heap.size := (by have := h1.size; (try simp at this); omega); have hl0 := (fun o => (bcell h1).1 (w.heap.size) o (by go_size)); have hv0 := (fun o => (bcell h1).2 (w.heap.size) o (by go_size)))); (try (have hz1 : w.heap.size + 1 < w1.heap.size := (by have := h1.size; (try simp at this); omega); have hl1 := (fun o => (bcell h1).1 (w.heap.size + 1) o (by go_size)); have hv1 := (fun o => (bcell h1).2 (w.heap.size + 1) o (by go_size)))); (try (have hz2 : w.heap.size + 1 + 1 < w1.heap.size := (by have := h1.size; (try simp at this); omega); have hl2 := (fun o => (bcell h1).1 (w.heap.size + 1 + 1) o (by go_size)); have hv2 := (fun o => (bcell h1).2 (w.heap.size + 1 + 1) o (by go_size)))); replace h1 : Below w.heap.size w w1 := bthen (by go_grown) h1 (by first | go_size | omega); obtain ⟨hc1, hf1⟩ := bcell h1))
      go_quiet (fail)
      go_wp2
      go_ret
      exact ⟨ret_int HV.out.symm, by first | (with_reducible exact bdrawn (by assumption) _) | go_grown⟩
    · have HV := hide (show ownerAt zs l t = -1 by unfold ownerAt; rw [if_neg (by simp [ht])])
      go_enter Try.func125, Try.ntmps125
      go_wp2_with (first | (go_at_call 124; refine (spec_SlotsOk _ _ _ _ _ _ (HA.out.below (B := w.heap.size) (by go_grown) (Nat.le_refl _)) hs).mono ?_; rintro e w1 ⟨rfl, h1⟩; (try (have hz0 : w.heap.size < w1.heap.size := (by have := h1.size; (try simp at this); omega); have hl0 := (fun o => (bcell h1).1 (w.heap.size) o (by go_size)); have hv0 := (fun o => (bcell h1).2 (w.heap.size) o (by go_size)))); (try (have hz1 : w.heap.size + 1 < w1.heap.size := (by have := h1.size; (try simp at this); omega); have hl1 := (fun o => (bcell h1).1 (w.heap.size + 1) o (by go_size)); have hv1 := (fun o => (bcell h1).2 (w.heap.size + 1) o (by go_size)))); (try (have hz2 : w.heap.size + 1 + 1 < w1.heap.size := (by have := h1.size; (try simp at this); omega); have hl2 := (fun o => (bcell h1).1 (w.heap.size + 1 + 1) o (by go_size)); have hv2 := (fun o => (bcell h1).2 (w.heap.size + 1 + 1) o (by go_size)))); replace h1 : Below w.heap.size w w1 := bthen (by go_grown) h1 (by first | go_size | omega); obtain ⟨hc1, hf1⟩ := bcell h1))
      go_ret
      exact ⟨ret_int HV.out.symm, by go_grown⟩

end Go.Proofs.Ytahfbhfmhccgoaa
