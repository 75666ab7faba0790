/- The served requests of a schedule, by the program and by the reference. -/
import Derived.Test.YtahfbhfmhccgoaaServe3
set_option linter.unusedSimpArgs false
set_option linter.unusedVariables false
namespace Go.Proofs.Ytahfbhfmhccgoaa
open Go.RowKit Go.ChangeShapes Go.WideShapes Go.ChangeAt Go.Joins Go.Deep
open Go.ChangeMaps (open_string shut_string)
theorem impl_SlotsOk_is (a : Option Addr) (n c : Nat) (zs : List Int) (l : Int) (v : Bool) (h : slotsOkB zs l = v) (w : World) (ha : IsInts .i64 w a n c zs) (hs : n ≤ 1048576) :
    Calls Try.prog 32 #[.agg #[.slice a n c, .int .i64 l]] w fun e w' => e = .returned (.bool v) ∧ Below w.heap.size w w' := by subst h; exact impl_SlotsOk a n c zs l w ha hs
theorem spec_SlotsOk_is (a : Option Addr) (n c : Nat) (zs : List Int) (l : Int) (v : Bool) (h : slotsOkB zs l = v) (w : World) (ha : IsInts .i64 w a n c zs) (hs : n ≤ 1048576) :
    Calls Try.prog 124 #[.agg #[.slice a n c, .int .i64 l]] w fun e w' => e = .returned (.bool v) ∧ Below w.heap.size w w' := by subst h; exact spec_SlotsOk a n c zs l w ha hs
theorem servable_no1 {zs : List Int} {l u : Int} {n : Nat} (h : slotsOkB zs l = false) : servable zs l u n = false := by unfold servable; rw [h]; rfl
theorem servable_no2 {zs : List Int} {l u : Int} {n : Nat} (h : btw u 0 1000000 = false) : servable zs l u n = false := by unfold servable; rw [h]; simp
theorem servable_no3 {zs : List Int} {l u : Int} {n : Nat} (h : ¬ n ≤ 60) : servable zs l u n = false := by unfold servable; simp [h]
theorem servable_no4 {zs : List Int} {l u : Int} {n : Nat} (h : ¬ u / l ≤ 1000) : servable zs l u n = false := by unfold servable; simp [h]
theorem servable_yes {zs : List Int} {l u : Int} {n : Nat} (h1 : slotsOkB zs l = true) (h2 : btw u 0 1000000 = true) (h3 : n ≤ 60) (h4 : u / l ≤ 1000) : servable zs l u n = true := by unfold servable; simp [h1, h2, h3, h4]
set_option maxHeartbeats 2000000 in
theorem spec_l23Ok (a1 : Option Addr) (n1 c1 : Nat) (zs : List Int) (l u : Int) (a : Option Addr) (n c : Nat) (w : World) (hz : IsInts .i64 w a1 n1 c1 zs) (hs1 : n1 ≤ 1048576) (hn : n ≤ c ∧ c ≤ 9223372036854775807) :
    Calls Try.prog 85 #[.agg #[.slice a1 n1 c1, .int .i64 l], .int .i64 u, .slice a n c] w fun e w' => e = .returned (.bool (servable zs l u n)) ∧ Below w.heap.size w w' := by
  have HZ := hide hz
  have hc := hn.1; have hcm := hn.2
  clear hz hn
  cases h1 : slotsOkB zs l
  · have HV := hide (servable_no1 (u := u) (n := n) h1)
    go_enter Try.func85, Try.ntmps85
    go_wp2_with (first | (go_at_call 78; refine (spec_l01In _ _ _ _).mono ?_; rintro e w1 ⟨rfl, rfl⟩) | (go_at_call 124; refine (spec_SlotsOk_is _ _ _ _ _ _ h1 _ (HZ.out.below (B := w.heap.size) (by go_grown) (Nat.le_refl _)) hs1).mono ?_; rintro e w1 ⟨rfl, h1⟩; (try (have hz0 : w.heap.size < w1.heap.size := (by have := h1.size; (try simp at this); omega); have hl0 := (fun o => (bcell h1).1 (w.heap.size) o (by go_size)); have hv0 := (fun o => (bcell h1).2 (w.heap.size) o (by go_size)))); (try (have hz1 : w.heap.size + 1 < w1.heap.size := (by have := h1.size; (try simp at this); omega); have hl1 := (fun o => (bcell h1).1 (w.heap.size + 1) o (by go_size)); have hv1 := (fun o => (bcell h1).2 (w.heap.size + 1) o (by go_size)))); (try (have hz2 : w.heap.size + 1 + 1 < w1.heap.size := (by have := h1.size; (try simp at this); omega); have hl2 := (fun o => (bcell h1).1 (w.heap.size + 1 + 1) o (by go_size)); have hv2 := (fun o => (bcell h1).2 (w.heap.size + 1 + 1) o (by go_size)))); replace h1 : Below w.heap.size w w1 := bthen (by go_grown) h1 (by first | go_size | omega); obtain ⟨hc1, hf1⟩ := bcell h1))
    go_ret
    exact ⟨ret_bool HV.out.symm, by go_grown⟩
  · cases h2 : btw u 0 1000000
    · have HV := hide (servable_no2 (zs := zs) (l := l) (n := n) h2)
      go_enter Try.func85, Try.ntmps85
      go_wp2_with (first | (go_at_call 78; refine (spec_l01In _ _ _ _).mono ?_; rintro e w1 ⟨rfl, rfl⟩) | (go_at_call 124; refine (spec_SlotsOk_is _ _ _ _ _ _ h1 _ (HZ.out.below (B := w.heap.size) (by go_grown) (Nat.le_refl _)) hs1).mono ?_; rintro e w1 ⟨rfl, h1⟩; (try (have hz0 : w.heap.size < w1.heap.size := (by have := h1.size; (try simp at this); omega); have hl0 := (fun o => (bcell h1).1 (w.heap.size) o (by go_size)); have hv0 := (fun o => (bcell h1).2 (w.heap.size) o (by go_size)))); (try (have hz1 : w.heap.size + 1 < w1.heap.size := (by have := h1.size; (try simp at this); omega); have hl1 := (fun o => (bcell h1).1 (w.heap.size + 1) o (by go_size)); have hv1 := (fun o => (bcell h1).2 (w.heap.size + 1) o (by go_size)))); (try (have hz2 : w.heap.size + 1 + 1 < w1.heap.size := (by have := h1.size; (try simp at this); omega); have hl2 := (fun o => (bcell h1).1 (w.heap.size + 1 + 1) o (by go_size)); have hv2 := (fun o => (bcell h1).2 (w.heap.size + 1 + 1) o (by go_size)))); replace h1 : Below w.heap.size w w1 := bthen (by go_grown) h1 (by first | go_size | omega); obtain ⟨hc1, hf1⟩ := bcell h1))
      go_ret
      exact ⟨ret_bool HV.out.symm, by go_grown⟩
    · by_cases h3 : n ≤ 60
      · obtain ⟨_, hb1, hb2, hb3, hb4⟩ := slotsOkB_bd h1
        obtain ⟨hu0, hu1⟩ := btw_true.1 h2
        have g1 : u.tdiv l = u / l := Int.tdiv_eq_ediv_of_nonneg hu0
        have g2 : ¬ l = 0 := by omega
        have g3 : 0 ≤ u / l := Int.ediv_nonneg hu0 (by omega)
        have g4 : u / l ≤ u := Int.ediv_le_self l hu0
        clear hb1 hb2
        have h3' : (n : Int) ≤ 60 := by omega
        by_cases h4 : u / l ≤ 1000
        · have HV := hide (servable_yes h1 h2 h3 h4)
          go_enter Try.func85, Try.ntmps85
          go_wp2_with (first | (go_at_call 78; refine (spec_l01In _ _ _ _).mono ?_; rintro e w1 ⟨rfl, rfl⟩) | (go_at_call 124; refine (spec_SlotsOk_is _ _ _ _ _ _ h1 _ (HZ.out.below (B := w.heap.size) (by go_grown) (Nat.le_refl _)) hs1).mono ?_; rintro e w1 ⟨rfl, h1⟩; (try (have hz0 : w.heap.size < w1.heap.size := (by have := h1.size; (try simp at this); omega); have hl0 := (fun o => (bcell h1).1 (w.heap.size) o (by go_size)); have hv0 := (fun o => (bcell h1).2 (w.heap.size) o (by go_size)))); (try (have hz1 : w.heap.size + 1 < w1.heap.size := (by have := h1.size; (try simp at this); omega); have hl1 := (fun o => (bcell h1).1 (w.heap.size + 1) o (by go_size)); have hv1 := (fun o => (bcell h1).2 (w.heap.size + 1) o (by go_size)))); (try (have hz2 : w.heap.size + 1 + 1 < w1.heap.size := (by have := h1.size; (try simp at this); omega); have hl2 := (fun o => (bcell h1).1 (w.heap.size + 1 + 1) o (by go_size)); have hv2 := (fun o => (bcell h1).2 (w.heap.size + 1 + 1) o (by go_size)))); replace h1 : Below w.heap.size w w1 := bthen (by go_grown) h1 (by first | go_size | omega); obtain ⟨hc1, hf1⟩ := bcell h1))
          go_ret
          exact ⟨ret_bool HV.out.symm, by go_grown⟩
        · have HV := hide (servable_no4 (zs := zs) (n := n) h4)
          go_enter Try.func85, Try.ntmps85
          go_wp2_with (first | (go_at_call 78; refine (spec_l01In _ _ _ _).mono ?_; rintro e w1 ⟨rfl, rfl⟩) | (go_at_call 124; refine (spec_SlotsOk_is _ _ _ _ _ _ h1 _ (HZ.out.below (B := w.heap.size) (by go_grown) (Nat.le_refl _)) hs1).mono ?_; rintro e w1 ⟨rfl, h1⟩; (try (have hz0 : w.heap.size < w1.heap.size := (by have := h1.size; (try simp at this); omega); have hl0 := (fun o => (bcell h1).1 (w.heap.size) o (by go_size)); have hv0 := (fun o => (bcell h1).2 (w.heap.size) o (by go_size)))); (try (have hz1 : w.heap.size + 1 < w1.heap.size := (by have := h1.size; (try simp at this); omega); have hl1 := (fun o => (bcell h1).1 (w.heap.size + 1) o (by go_size)); have hv1 := (fun o => (bcell h1).2 (w.heap.size + 1) o (by go_size)))); (try (have hz2 : w.heap.size + 1 + 1 < w1.heap.size := (by have := h1.size; (try simp at this); omega); have hl2 := (fun o => (bcell h1).1 (w.heap.size + 1 + 1) o (by go_size)); have hv2 := (fun o => (bcell h1).2 (w.heap.size + 1 + 1) o (by go_size)))); replace h1 : Below w.heap.size w w1 := bthen (by go_grown) h1 (by first | go_size | omega); obtain ⟨hc1, hf1⟩ := bcell h1))
          go_ret
          exact ⟨ret_bool (by rw [HV.out]; simpa using h4), by go_grown⟩
      · have HV := hide (servable_no3 (zs := zs) (l := l) (u := u) h3)
        have h3' : ¬ (n : Int) ≤ 60 := by omega
        go_enter Try.func85, Try.ntmps85
        go_wp2_with (first | (go_at_call 78; refine (spec_l01In _ _ _ _).mono ?_; rintro e w1 ⟨rfl, rfl⟩) | (go_at_call 124; refine (spec_SlotsOk_is _ _ _ _ _ _ h1 _ (HZ.out.below (B := w.heap.size) (by go_grown) (Nat.le_refl _)) hs1).mono ?_; rintro e w1 ⟨rfl, h1⟩; (try (have hz0 : w.heap.size < w1.heap.size := (by have := h1.size; (try simp at this); omega); have hl0 := (fun o => (bcell h1).1 (w.heap.size) o (by go_size)); have hv0 := (fun o => (bcell h1).2 (w.heap.size) o (by go_size)))); (try (have hz1 : w.heap.size + 1 < w1.heap.size := (by have := h1.size; (try simp at this); omega); have hl1 := (fun o => (bcell h1).1 (w.heap.size + 1) o (by go_size)); have hv1 := (fun o => (bcell h1).2 (w.heap.size + 1) o (by go_size)))); (try (have hz2 : w.heap.size + 1 + 1 < w1.heap.size := (by have := h1.size; (try simp at this); omega); have hl2 := (fun o => (bcell h1).1 (w.heap.size + 1 + 1) o (by go_size)); have hv2 := (fun o => (bcell h1).2 (w.heap.size + 1 + 1) o (by go_size)))); replace h1 : Below w.heap.size w w1 := bthen (by go_grown) h1 (by first | go_size | omega); obtain ⟨hc1, hf1⟩ := bcell h1))
        go_ret
        exact ⟨ret_bool HV.out.symm, by go_grown⟩
theorem spec_l23Ok_is (a1 : Option Addr) (n1 c1 : Nat) (zs : List Int) (l u : Int) (a : Option Addr) (n c : Nat) (v : Bool) (h : servable zs l u n = v) (w : World) (hz : IsInts .i64 w a1 n1 c1 zs) (hs1 : n1 ≤ 1048576) (hn : n ≤ c ∧ c ≤ 9223372036854775807) :
    Calls Try.prog 85 #[.agg #[.slice a1 n1 c1, .int .i64 l], .int .i64 u, .slice a n c] w fun e w' => e = .returned (.bool v) ∧ Below w.heap.size w w' := by subst h; exact spec_l23Ok a1 n1 c1 zs l u a n c w hz hs1 hn
theorem runS_at (rs : List Rq) (zs : List Int) (l : Int) : ∀ (N k : Nat), k < N → (runS rs zs l N).2[k]? = some (pickS rs zs l k)
  | 0, k, h => by omega
  | N + 1, k, h => by
    have e : (runS rs zs l (N + 1)).2 = (runS rs zs l N).2 ++ [pickS rs zs l N] := rfl
    rw [e]
    by_cases hk : k < N
    · rw [List.getElem?_append_left (by rw [(runS_len rs zs l N).2]; exact hk)]
      exact runS_at rs zs l N k hk
    · have hl := (runS_len rs zs l N).2
      rw [List.getElem?_append_right (by omega), hl, show k - N = 0 by omega, show k = N by omega]; rfl
theorem served_le (rs : List Rq) (zs : List Int) (l : Int) (j : Nat) : (servedS rs zs l j).length ≤ j := by
  rw [served_zip, List.length_zipWith, begin_len, Nat.min_self]; exact which_le j
theorem svAt_of {rs : List Rq} {m : Nat} {r : Rq} (h : rs[m]? = some r) (b : Int) : svAt rs m b = ⟨r.id, b⟩ := by unfold svAt; rw [Int.toNat_natCast, h]; rfl
set_option maxRecDepth 100000 in
set_option maxHeartbeats 4000000 in
theorem spec_ServeSlots (a1 : Option Addr) (n1 c1 : Nat) (zs : List Int) (l u : Int) (a : Option Addr) (n c : Nat) (rs : List Rq) (K : Nat) (w : World) (hz : IsInts .i64 w a1 n1 c1 zs) (hs1 : n1 ≤ 1048576) (ha : IsStructs rqF 6 w a n c rs) (hK : (servedAll rs zs l u).length = K) :
    Calls Try.prog 33 #[.agg #[.slice a1 n1 c1, .int .i64 l], .int .i64 u, .slice a n c] w (Fresh w 58 2 K ((servedAll rs zs l u).flatMap svF)) := by
  obtain ⟨i0_Sv, hi_Sv, hz0_Sv, hz1_Sv, hz2_Sv⟩ := info_parts info_Sv
  have HZ := hide hz; have HA := hide ha
  have HL := hide ha.1
  have hc := ha.2.1; have hcm : c ≤ 9223372036854775807 := ha.2.2.1
  clear hz ha
  cases hok : servable zs l u n
  · have HV := hide (show servedAll rs zs l u = [] by unfold servedAll; rw [HL.out, hok]; rfl)
    obtain rfl : 0 = K := by rw [← hK, HV.out]; rfl
    clear hK
    go_enter Try.func33, Try.ntmps33
    go_wp2_with fail
    refine (spec_l23Ok_is _ _ _ zs l u a n c _ hok _ (HZ.out.below (B := w.heap.size) (by go_grown) (Nat.le_refl _)) hs1 ⟨hc, hcm⟩).mono ?_
    rintro e w1 ⟨rfl, h1⟩
    have s1 := h1.size
    try simp only [World.size_alloc, World.size_setCell, World.size_drew, World.heap_drewN] at s1
    have B1_1 := h1
    have z1_0 : w.heap.size < w1.heap.size := by omega
    have q1_0 := fun o => (bcell B1_1).1 (w.heap.size) o (by go_size)
    have f1_0 := fun o => (bcell B1_1).2 (w.heap.size) o (by go_size)
    have z1_1 : w.heap.size + 1 < w1.heap.size := by omega
    have q1_1 := fun o => (bcell B1_1).1 (w.heap.size + 1) o (by go_size)
    have f1_1 := fun o => (bcell B1_1).2 (w.heap.size + 1) o (by go_size)
    have H1 : Below w.heap.size w w1 := bthen (by repeat' (first | (with_reducible exact Below.refl _ _) | (with_reducible assumption) | (with_reducible refine bdrawn ?_ _) | (with_reducible refine Below.alloc ?_ ?_ _) | (with_reducible refine Below.drew ?_) | (with_reducible refine Below.setCell ?_ ?_ _) | go_size)) h1 (by go_size)
    have C1 := (bcell H1).1; have F1 := (bcell H1).2
    have HO := hide (((own_made_at (w := w.alloc (.cells #[.slice a1 n1 c1, .int .i64 l] 48)) (base := w.heap.size) (e := 58) (size := 2) (b := w.heap.size + 1) (by simp) (by simp))))
    go_wp2_with fail
    go_ret
    exact ⟨_, _, rfl, by rw [HV.out, List.flatMap_nil]; exact own_below HO.out h1 (fun q hq => by simp [Value.ownBlock] at hq; simp; omega), H1⟩
  · obtain ⟨hok1, hu0, hu1, hn60, huq⟩ := servable_bd hok
    obtain ⟨_, hb1, hb2, hb3, hb4⟩ := slotsOkB_bd hok1
    have HV := hide (show servedAll rs zs l u = servedS rs zs l (nSlots u l) by unfold servedAll; rw [HL.out, hok]; rfl)
    have hnl := nSlots_le (u := u) (l := l) hb3 hu0 huq
    have hN1 := hnl.1; have hN2 := hnl.2
    have HS := hide (spec_l23Serve a1 n1 c1 zs l u a n c rs)
    generalize nSlots u l = N at *
    rw [HV.out] at hK
    have HK := hide hK
    clear hnl hb1 hb2 hok1 huq hK
    go_enter Try.func33, Try.ntmps33
    go_wp2_with fail
    refine (spec_l23Ok_is _ _ _ zs l u a n c _ hok _ (HZ.out.below (B := w.heap.size) (by go_grown) (Nat.le_refl _)) hs1 ⟨hc, hcm⟩).mono ?_
    rintro e w1 ⟨rfl, h1⟩
    have s1 := h1.size
    try simp only [World.size_alloc, World.size_setCell, World.size_drew, World.heap_drewN] at s1
    have B1_1 := h1
    have z1_0 : w.heap.size < w1.heap.size := by omega
    have q1_0 := fun o => (bcell B1_1).1 (w.heap.size) o (by go_size)
    have f1_0 := fun o => (bcell B1_1).2 (w.heap.size) o (by go_size)
    have z1_1 : w.heap.size + 1 < w1.heap.size := by omega
    have q1_1 := fun o => (bcell B1_1).1 (w.heap.size + 1) o (by go_size)
    have f1_1 := fun o => (bcell B1_1).2 (w.heap.size + 1) o (by go_size)
    have H1 : Below w.heap.size w w1 := bthen (by repeat' (first | (with_reducible exact Below.refl _ _) | (with_reducible assumption) | (with_reducible refine bdrawn ?_ _) | (with_reducible refine Below.alloc ?_ ?_ _) | (with_reducible refine Below.drew ?_) | (with_reducible refine Below.setCell ?_ ?_ _) | go_size)) h1 (by go_size)
    have C1 := (bcell H1).1; have F1 := (bcell H1).2
    have HO := hide (own_below (((own_made_at (w := w.alloc (.cells #[.slice a1 n1 c1, .int .i64 l] 48)) (base := w.heap.size + 1) (e := 58) (size := 2) (b := w.heap.size + 1) (by simp) (by simp)))) h1 (fun q hq => by simp [Value.ownBlock] at hq; simp; omega))
    go_wp2_with fail
    refine (HS.out w1 (HZ.out.below H1 (Nat.le_refl _)) hs1 (HA.out.below H1 (Nat.le_refl _)) hok).mono ?_
    rintro e X ⟨at', ct, rfl, hat, hX⟩
    have hsX := hX.size
    have HX := hide (bthen H1 hX (by omega))
    have HAT := hide hat
    have hct := own_caps hat
    have hct1 := hct.1; have hct2 : ct ≤ 9223372036854775807 := hct.2
    have HO2 := hide (own_below HO.out hX (fun q hq => by have := HO.out.lt q hq; exact this.2))
    have HE := hide ((hX.block w.heap.size (by omega)).trans ((h1.block w.heap.size (by simp; omega)).trans ((alloc_lt _ _ _ (by simp)).trans (alloc_at w (.cells #[.slice a1 n1 c1, .int .i64 l] 48) _ rfl))))
    have hsX2 : w.heap.size + 1 < X.heap.size := by omega
    clear hat hct HO hX h1 H1 C1 F1 q1_0 q1_1 f1_0 f1_1 B1_1 HS
    go_wp2_with fail
    obtain ⟨b1s, hb1s⟩ : ∃ z, z = w1.heap.size := ⟨_, rfl⟩
    have hAT0 : ∀ x : Addr, at' = some x → b1s ≤ x.block ∧ x.block < X.heap.size := fun x hx => by rw [hb1s]; exact HAT.out.lt x.block (by rw [hx]; rfl)
    have HAT0 := hide hAT0
    have HROW := hide (rowIn_own HAT.out)
    have hw1s : w.heap.size + 1 < b1s := by omega
    have hb1X : b1s ≤ X.heap.size := by omega
    have HR0 := hide (show RowIn X at' ((runS rs zs l N).2.map (.int .i64)) by
      obtain ⟨a', c', e, _, _, _, hr⟩ := HROW.out
      injection e with e1 e2 e3; subst e1; exact hr)
    clear hAT0 hb1s HAT HROW
    go_loopw [7, 9] (fun vo vi wr => ∃ (k m : Nat) (ao : Option Addr) (co : Nat), k ≤ N ∧ vi = .int .i64 k ∧ vo = .slice ao m co ∧ m ≤ k ∧ Hid ((servedS rs zs l k).length = m) ∧ Hid (wr.ownsRow (w.heap.size + 1) 58 2 (.slice ao m co) m ((servedS rs zs l k).flatMap svF)) ∧ Below w.heap.size w wr ∧ X.heap.size ≤ wr.heap.size ∧ Hid (wr.heap[w.heap.size]? = some (.cells #[.slice a1 n1 c1, .int .i64 l] 48 (0, 0))) ∧ Hid (RowIn wr at' ((runS rs zs l N).2.map (.int .i64))) ∧ Hid (∀ x : Addr, ao = some x → x.block < b1s ∨ X.heap.size ≤ x.block)) (fun _ vi _ => N - (intOf vi).toNat)
    case atStart => exact ⟨0, 0, _, _, by omega, rfl, rfl, by omega, hide rfl, HO2, HX.out, Nat.le_refl _, HE, HR0, hide (fun x hx => by injection hx with hx; rw [← hx]; exact .inl hw1s)⟩
    case round =>
      obtain ⟨k, m, ao, co, hk, rfl, rfl, hmk, Hm, HOk, hB, hXr, HEk, HRk, HDk⟩ := hrel
      by_cases hlt : k < N
      · obtain ⟨p, hp⟩ : ∃ p, pickS rs zs l k = p := ⟨_, rfl⟩
        have hpb := pickS_bd rs zs l k
        rw [hp, HL.out] at hpb
        have hpb0 := hpb.1; have hpb1 := hpb.2
        have HP := hide hp
        obtain ⟨gb, ob, rfl, hac⟩ := HRk.out k (.int .i64 p) (by rw [List.getElem?_map, runS_at rs zs l N k hlt, hp]; rfl)
        have hgb := HAT0.out _ rfl
        have hgb0 : b1s ≤ gb := hgb.1
        have hgb1 : gb < X.heap.size := hgb.2
        have i0 : (0 : Int) ≤ (k : Int) := by omega
        have i1 : (k : Int) < (N : Int) := by omega
        clear hp hpb hgb
        by_cases hneg : p < 0
        · have HSN := hide (served_no (rs := rs) (zs := zs) (l := l) (j := k) (by rw [HP.out]; exact hneg))
          go_wp2_with fail
          go_roundw
          case rel => exact ⟨k + 1, m, ao, co, by omega, by go_num, rfl, by omega, hide (by rw [HSN.out]; exact Hm.out), hide (by rw [HSN.out]; exact HOk.out), hB, hXr, HEk, HRk, HDk⟩
          case measure => simp [intOf]; omega
        · obtain ⟨m0, rfl⟩ := Int.eq_ofNat_of_zero_le (show 0 ≤ p by omega)
          have HSY := hide (served_yes HP.out)
          have hm0 : m0 < n := by omega
          obtain ⟨r, b1, o1, hh_r, rfl, hlb, hcell⟩ := HA.out.get rqF_len (by omega) (show m0 < n by omega)
          have r0 : wr.cell? ⟨b1, o1 + m0 * 6, none⟩ = some (.int .i64 r.id) := (hB.cell (p := ⟨b1, o1 + (m0 * 6 + 0), none⟩) hlb).trans (hcell 0 _ rfl)
          have r1 : wr.cell? ⟨b1, o1 + m0 * 6 + 1, none⟩ = some (.int .i64 r.tenant) := (hB.cell (p := ⟨b1, o1 + (m0 * 6 + 1), none⟩) hlb).trans (hcell 1 _ rfl)
          have r2 : wr.cell? ⟨b1, o1 + m0 * 6 + 2, none⟩ = some (.int .i64 r.line) := (hB.cell (p := ⟨b1, o1 + (m0 * 6 + 2), none⟩) hlb).trans (hcell 2 _ rfl)
          have r3 : wr.cell? ⟨b1, o1 + m0 * 6 + 3, none⟩ = some (.bool r.write) := (hB.cell (p := ⟨b1, o1 + (m0 * 6 + 3), none⟩) hlb).trans (hcell 3 _ rfl)
          have r4 : wr.cell? ⟨b1, o1 + m0 * 6 + 4, none⟩ = some (.int .i64 r.data) := (hB.cell (p := ⟨b1, o1 + (m0 * 6 + 4), none⟩) hlb).trans (hcell 4 _ rfl)
          have r5 : wr.cell? ⟨b1, o1 + m0 * 6 + 5, none⟩ = some (.int .i64 r.tm) := (hB.cell (p := ⟨b1, o1 + (m0 * 6 + 5), none⟩) hlb).trans (hcell 5 _ rfl)
          have HE_r := hide hh_r
          have sz_r := hB.size
          have lt_b1 : b1 < wr.heap.size := (by have := hB.size; omega)
          have lw_b1 := hlb
          have i0_r : (0 : Int) ≤ (m0 : Int) := by omega
          have i1_r : (m0 : Int) < (n : Int) := by omega
          clear hcell hlb hh_r
          have HSA := hide (svAt_of HE_r.out ((k : Int) * l))
          have e1 : wr.cell? ⟨w.heap.size, 1, none⟩ = some (.int .i64 l) := cell_blk HEk.out 1
          have hkl0 : 0 ≤ (k : Int) * l := Int.mul_nonneg (by omega) (by omega)
          have hkl1 : (k : Int) * l ≤ (N : Int) * l := Int.mul_le_mul_of_nonneg_right (by omega) (by omega)
          have hkl : IntKind.i64.wrap ((k : Int) * l) = (k : Int) * l := IntWalk.i64_in _ (by omega)
          have hlw : w.heap.size < wr.heap.size := by omega
          have hlg : gb < wr.heap.size := by omega
          have hne : some gb ≠ (Value.slice ao m co).ownBlock := fun e => by
            cases ao with
            | none => simp [Value.ownBlock] at e
            | some x => simp [Value.ownBlock] at e; have := HDk.out x rfl; omega
          go_wp2_with fail
          go_region_held3 (fun v => v.cell? ⟨gb, ob + k, none⟩ = some (.int .i64 m0) ∧ v.cell? ⟨b1, o1 + m0 * 6, none⟩ = some (.int .i64 r.id) ∧ v.cell? ⟨w.heap.size, 1, none⟩ = some (.int .i64 l)) (first | go_keep | (go_split_ands; refine ⟨?_, ?_, ?_⟩ <;> (rw [hgq.cell_far _ (by go_size) (by first | exact own_far HOk.out (by omega) | exact own_far HOk.out (by dsimp only; omega) | assumption)]; assumption))) ((refine step_append_lies _ (by rfl) _ _ _ (by rfl) ((w.heap.size + 1)) 58 i0_Sv _ 2 16 Try.underlying55 hi_Sv hz0_Sv hz1_Sv hz2_Sv rfl (by omega) _ _ _ (by rfl) ((HOk.out.alloc _).drew) ⟨wr.heap.size, 0, none⟩ 1 1 [.int .i64 r.id, .int .i64 ((k : Int) * l)] (by rfl) (by rfl) (World.news_of_block (cs := #[.int .i64 r.id, .int .i64 ((k : Int) * l)]) (t := 58) (fr := (0, 0)) (heap_alloc_new _ _)) (List.all_eq_true.1 rfl) (by omega) (by unfold maxLen; omega) (by omega) (by first | go_size | (simp; omega)) (wr.heap.size + 1) (by simp) ?_; intro gq cq wq hownq hgq hatq hltq))
          obtain ⟨hBq, hsq⟩ := below_appr hB HOk.out (by omega) (by omega) hgq
          have HGq := hide hgq; clear hgq
          have HEq := hide (app_block HOk.out (w := wr) (o := .cells #[.int .i64 r.id, .int .i64 ((k : Int) * l)] 58) ⟨HGq.out.os, HGq.out.tape, HGq.out.output, HGq.out.size, HGq.out.block⟩ (by omega) hlw HEk.out)
          have HRq := hide (((HRk.out.kept (row := none) (World.grownBy_alloc _ (.cells #[.int .i64 r.id, .int .i64 ((k : Int) * l)] 58) _) (fun x hx => by simp)).kept (row := (Value.slice ao m co).ownBlock) ⟨HGq.out.os, HGq.out.tape, HGq.out.output, HGq.out.size, HGq.out.block⟩ (fun x hx => by injection hx with hx; rw [← hx]; exact hne)))
          have HDq := hide (fun (x : Addr) (hx : some (⟨gq, 0, none⟩ : Addr) = some x) => (show x.block < b1s ∨ X.heap.size ≤ x.block by
            injection hx with hx; rw [← hx]
            rcases hatq with h | h
            · cases ao with
              | none => simp [Value.ownBlock] at h
              | some y => simp [Value.ownBlock] at h; have := HDk.out y rfl; show gq < b1s ∨ X.heap.size ≤ gq; omega
            · show gq < b1s ∨ X.heap.size ≤ gq; omega))
          have HOq := hide hownq
          clear hatq hltq hownq HGq HOk HEk HRk HDk e1 hne
          go_wp2_with fail
          go_roundw
          case rel => exact ⟨k + 1, m + 1, _, _, by omega, by go_num, rfl, by omega, hide (by rw [HSY.out, List.length_append, Hm.out]; rfl), hide (by rw [HSY.out, List.flatMap_append, HSA.out]; simpa [svF] using HOq.out), hBq, by omega, HEq, HRq, HDq⟩
          case measure => simp [intOf]; omega
      · obtain rfl : k = N := by omega
        obtain rfl : K = m := by rw [← HK.out, Hm.out]
        go_wp2_with fail
        go_ret
        exact ⟨_, _, rfl, by rw [HV.out]; exact own_base HOk.out (by omega), hB⟩
set_option maxRecDepth 100000 in
set_option maxHeartbeats 4000000 in
theorem impl_ServeSlots (a1 : Option Addr) (n1 c1 : Nat) (zs : List Int) (l u : Int) (a : Option Addr) (n c : Nat) (rs : List Rq) (K : Nat) (w : World) (hz : IsInts .i64 w a1 n1 c1 zs) (hs1 : n1 ≤ 1048576) (ha : IsStructs rqF 6 w a n c rs) (hK : (servedAll rs zs l u).length = K) :
    Calls Try.prog 31 #[.agg #[.slice a1 n1 c1, .int .i64 l], .int .i64 u, .slice a n c] w (Fresh w 58 2 K ((servedAll rs zs l u).flatMap svF)) := by
  obtain ⟨i0_Sv, hi_Sv, hz0_Sv, hz1_Sv, hz2_Sv⟩ := info_parts info_Sv
  have HZ := hide hz; have HA := hide ha
  have HL := hide ha.1
  have hc := ha.2.1; have hcm : c ≤ 9223372036854775807 := ha.2.2.1
  clear hz ha
  cases h1 : slotsOkB zs l
  · skip
    have HV := hide (show servedAll rs zs l u = [] by unfold servedAll; rw [HL.out, servable_no1 h1]; rfl)
    obtain rfl : 0 = K := by rw [← hK, HV.out]; rfl
    clear hK
    go_enter Try.func31, Try.ntmps31
    go_wp2_with (first | (go_at_call 77; refine (impl_between _ _ _ _).mono ?_; rintro e w1 ⟨rfl, rfl⟩) | (go_at_call 32; refine (impl_SlotsOk_is _ _ _ _ _ _ h1 _ (HZ.out.below (B := w.heap.size) (by go_grown) (Nat.le_refl _)) hs1).mono ?_; rintro e w1 ⟨rfl, h1⟩; (try (have hz0 : w.heap.size < w1.heap.size := (by have := h1.size; (try simp at this); omega); have hl0 := (fun o => (bcell h1).1 (w.heap.size) o (by go_size)); have hv0 := (fun o => (bcell h1).2 (w.heap.size) o (by go_size)))); (try (have hz1 : w.heap.size + 1 < w1.heap.size := (by have := h1.size; (try simp at this); omega); have hl1 := (fun o => (bcell h1).1 (w.heap.size + 1) o (by go_size)); have hv1 := (fun o => (bcell h1).2 (w.heap.size + 1) o (by go_size)))); (try (have hz2 : w.heap.size + 1 + 1 < w1.heap.size := (by have := h1.size; (try simp at this); omega); have hl2 := (fun o => (bcell h1).1 (w.heap.size + 1 + 1) o (by go_size)); have hv2 := (fun o => (bcell h1).2 (w.heap.size + 1 + 1) o (by go_size)))); replace h1 : Below w.heap.size w w1 := bthen (by go_grown) h1 (by first | go_size | omega); obtain ⟨hc1, hf1⟩ := bcell h1))
    go_ret
    exact ⟨_, _, rfl, by rw [HV.out, List.flatMap_nil]; exact World.ownsRow_nil _ _ _ _, by go_grown⟩
  · cases h2 : btw u 0 1000000
    · skip
      have HV := hide (show servedAll rs zs l u = [] by unfold servedAll; rw [HL.out, servable_no2 h2]; rfl)
      obtain rfl : 0 = K := by rw [← hK, HV.out]; rfl
      clear hK
      go_enter Try.func31, Try.ntmps31
      go_wp2_with (first | (go_at_call 77; refine (impl_between _ _ _ _).mono ?_; rintro e w1 ⟨rfl, rfl⟩) | (go_at_call 32; refine (impl_SlotsOk_is _ _ _ _ _ _ h1 _ (HZ.out.below (B := w.heap.size) (by go_grown) (Nat.le_refl _)) hs1).mono ?_; rintro e w1 ⟨rfl, h1⟩; (try (have hz0 : w.heap.size < w1.heap.size := (by have := h1.size; (try simp at this); omega); have hl0 := (fun o => (bcell h1).1 (w.heap.size) o (by go_size)); have hv0 := (fun o => (bcell h1).2 (w.heap.size) o (by go_size)))); (try (have hz1 : w.heap.size + 1 < w1.heap.size := (by have := h1.size; (try simp at this); omega); have hl1 := (fun o => (bcell h1).1 (w.heap.size + 1) o (by go_size)); have hv1 := (fun o => (bcell h1).2 (w.heap.size + 1) o (by go_size)))); (try (have hz2 : w.heap.size + 1 + 1 < w1.heap.size := (by have := h1.size; (try simp at this); omega); have hl2 := (fun o => (bcell h1).1 (w.heap.size + 1 + 1) o (by go_size)); have hv2 := (fun o => (bcell h1).2 (w.heap.size + 1 + 1) o (by go_size)))); replace h1 : Below w.heap.size w w1 := bthen (by go_grown) h1 (by first | go_size | omega); obtain ⟨hc1, hf1⟩ := bcell h1))
      go_ret
      exact ⟨_, _, rfl, by rw [HV.out, List.flatMap_nil]; exact World.ownsRow_nil _ _ _ _, by go_grown⟩
    · by_cases h3 : n ≤ 60
      · obtain ⟨_, hb1, hb2, hb3, hb4⟩ := slotsOkB_bd h1
        obtain ⟨hu0, hu1⟩ := btw_true.1 h2
        have g1 : u.tdiv l = u / l := Int.tdiv_eq_ediv_of_nonneg hu0
        have g2 : ¬ l = 0 := by omega
        have g3 : 0 ≤ u / l := Int.ediv_nonneg hu0 (by omega)
        have g4 : u / l ≤ u := Int.ediv_le_self l hu0
        clear hb1 hb2
        have h3' : ¬ (60 : Int) < (n : Int) := by omega
        by_cases h4 : u / l ≤ 1000
        · have hok := servable_yes h1 h2 h3 h4
          have HV := hide (show servedAll rs zs l u = servedS rs zs l (nSlots u l) by unfold servedAll; rw [HL.out, hok]; rfl)
          have hnl := nSlots_le (u := u) (l := l) hb3 hu0 h4
          have hN1 := hnl.1; have hN2 := hnl.2
          have HS := hide (impl_slotOrder a1 n1 c1 zs l u a n c rs)
          have Hok := hide hok
          generalize nSlots u l = N at *
          rw [HV.out] at hK
          have HK := hide (show (whichS rs zs l N).length = K by rw [← hK, served_zip, List.length_zipWith, begin_len, Nat.min_self])
          have hKN : K ≤ N := by rw [← HK.out]; exact which_le N
          clear hnl hK hok
          go_enter Try.func31, Try.ntmps31
          go_wp2_with (first | (go_at_call 77; refine (impl_between _ _ _ _).mono ?_; rintro e w1 ⟨rfl, rfl⟩) | (go_at_call 32; refine (impl_SlotsOk_is _ _ _ _ _ _ h1 _ (HZ.out.below (B := w.heap.size) (by go_grown) (Nat.le_refl _)) hs1).mono ?_; rintro e w1 ⟨rfl, h1⟩; (try (have hz0 : w.heap.size < w1.heap.size := (by have := h1.size; (try simp at this); omega); have hl0 := (fun o => (bcell h1).1 (w.heap.size) o (by go_size)); have hv0 := (fun o => (bcell h1).2 (w.heap.size) o (by go_size)))); (try (have hz1 : w.heap.size + 1 < w1.heap.size := (by have := h1.size; (try simp at this); omega); have hl1 := (fun o => (bcell h1).1 (w.heap.size + 1) o (by go_size)); have hv1 := (fun o => (bcell h1).2 (w.heap.size + 1) o (by go_size)))); (try (have hz2 : w.heap.size + 1 + 1 < w1.heap.size := (by have := h1.size; (try simp at this); omega); have hl2 := (fun o => (bcell h1).1 (w.heap.size + 1 + 1) o (by go_size)); have hv2 := (fun o => (bcell h1).2 (w.heap.size + 1 + 1) o (by go_size)))); replace h1 : Below w.heap.size w w1 := bthen (by go_grown) h1 (by first | go_size | omega); obtain ⟨hc1, hf1⟩ := bcell h1))
          have hB1 : Below w.heap.size w (w1.alloc (.cells #[] 58)) := (by repeat' (first | (with_reducible exact Below.refl _ _) | (with_reducible assumption) | (with_reducible refine bdrawn ?_ _) | (with_reducible refine Below.alloc ?_ ?_ _) | (with_reducible refine Below.drew ?_) | (with_reducible refine Below.setCell ?_ ?_ _) | go_size))
          refine (HS.out K _ (HZ.out.below hB1 (Nat.le_refl _)) hs1 (HA.out.below hB1 (Nat.le_refl _)) Hok.out HK.out).mono ?_
          rintro e X ⟨aw, cw, ab, cb, rfl, hwo, hbo, hX⟩
          have hsX := hX.size
          simp only [World.size_alloc] at hsX
          have HX := hide (bthen hB1 hX (by simp; omega))
          have HO := hide (own_below (own_made_at (w := w1) (base := w1.heap.size) (e := 58) (size := 2) rfl (Nat.le_refl _)) hX (fun q hq => by simp [Value.ownBlock] at hq; simp; omega))
          have hcw := own_caps hwo
          have hcw1 := hcw.1; have hcw2 : cw ≤ 9223372036854775807 := hcw.2
          have hcb := own_caps hbo
          have hcb1 := hcb.1; have hcb2 : cb ≤ 9223372036854775807 := hcb.2
          have HAW := hide (fun (x : Addr) (hx : aw = some x) => (show w1.heap.size + 1 ≤ x.block ∧ x.block < X.heap.size by have := hwo.lt x.block (by rw [hx]; rfl); simpa using this))
          have HAB := hide (fun (x : Addr) (hx : ab = some x) => (show w1.heap.size + 1 ≤ x.block ∧ x.block < X.heap.size by have := hbo.lt x.block (by rw [hx]; rfl); simpa using this))
          have HRW := hide (show RowIn X aw ((whichS rs zs l N).map (.int .i64)) by
            obtain ⟨a', c', e, _, _, _, hr⟩ := rowIn_own hwo
            injection e with e1 e2 e3; subst e1; exact hr)
          have HRB := hide (show RowIn X ab ((beginS rs zs l N).map (.int .i64)) by
            obtain ⟨a', c', e, _, _, _, hr⟩ := rowIn_own hbo
            injection e with e1 e2 e3; subst e1; exact hr)
          have hsX2 : w.heap.size < w1.heap.size := hz0
          clear hwo hbo hcw hcb hX hB1 h1 hz0 hl0 hv0 hc1 hf1 HS
          generalize w1.heap.size = b1s at HO HAW HAB hsX hsX2
          go_wp2_with fail
          go_loopw [7, 42] (fun vo vi wr => ∃ (k : Nat) (ao : Option Addr) (co : Nat), k ≤ K ∧ vi = .int .i64 k ∧ vo = .slice ao k co ∧ Hid (wr.ownsRow b1s 58 2 (.slice ao k co) k (((servedS rs zs l N).take k).flatMap svF)) ∧ Below w.heap.size w wr ∧ X.heap.size ≤ wr.heap.size ∧ Hid (RowIn wr aw ((whichS rs zs l N).map (.int .i64))) ∧ Hid (RowIn wr ab ((beginS rs zs l N).map (.int .i64))) ∧ Hid (∀ x : Addr, ao = some x → x.block = b1s ∨ X.heap.size ≤ x.block)) (fun _ vi _ => K - (intOf vi).toNat)
          case atStart => exact ⟨0, _, _, by omega, rfl, rfl, HO, HX.out, Nat.le_refl _, HRW, HRB, hide (fun x hx => by injection hx with hx; rw [← hx]; exact .inl rfl)⟩
          case round =>
            obtain ⟨k, ao, co, hk, rfl, rfl, HOk, hB, hXr, HWk, HBk, HDk⟩ := hrel
            by_cases hlt : k < K
            · have hw : (whichS rs zs l N)[k]? = some ((whichS rs zs l N)[k]'(by rw [HK.out]; exact hlt)) := List.getElem?_eq_getElem _
              generalize (whichS rs zs l N)[k]'(by rw [HK.out]; exact hlt) = p at hw
              have hpb := which_bd N p (List.mem_of_getElem? hw)
              rw [HL.out] at hpb
              obtain ⟨m0, rfl⟩ := Int.eq_ofNat_of_zero_le hpb.1
              have hm0 : m0 < n := by have := hpb.2; omega
              have hg : (beginS rs zs l N)[k]? = some ((beginS rs zs l N)[k]'(by rw [begin_len, HK.out]; exact hlt)) := List.getElem?_eq_getElem _
              generalize (beginS rs zs l N)[k]'(by rw [begin_len, HK.out]; exact hlt) = t at hg
              have htb := begin_bd (rs := rs) (zs := zs) (l := l) (by omega) N t (List.mem_of_getElem? hg)
              have ht0 := htb.1; have ht1 := htb.2
              obtain ⟨r, b1, o1, hh_r, rfl, hlb, hcell⟩ := HA.out.get rqF_len (by omega) (show m0 < n by omega)
              have r0 : wr.cell? ⟨b1, o1 + m0 * 6, none⟩ = some (.int .i64 r.id) := (hB.cell (p := ⟨b1, o1 + (m0 * 6 + 0), none⟩) hlb).trans (hcell 0 _ rfl)
              have r1 : wr.cell? ⟨b1, o1 + m0 * 6 + 1, none⟩ = some (.int .i64 r.tenant) := (hB.cell (p := ⟨b1, o1 + (m0 * 6 + 1), none⟩) hlb).trans (hcell 1 _ rfl)
              have r2 : wr.cell? ⟨b1, o1 + m0 * 6 + 2, none⟩ = some (.int .i64 r.line) := (hB.cell (p := ⟨b1, o1 + (m0 * 6 + 2), none⟩) hlb).trans (hcell 2 _ rfl)
              have r3 : wr.cell? ⟨b1, o1 + m0 * 6 + 3, none⟩ = some (.bool r.write) := (hB.cell (p := ⟨b1, o1 + (m0 * 6 + 3), none⟩) hlb).trans (hcell 3 _ rfl)
              have r4 : wr.cell? ⟨b1, o1 + m0 * 6 + 4, none⟩ = some (.int .i64 r.data) := (hB.cell (p := ⟨b1, o1 + (m0 * 6 + 4), none⟩) hlb).trans (hcell 4 _ rfl)
              have r5 : wr.cell? ⟨b1, o1 + m0 * 6 + 5, none⟩ = some (.int .i64 r.tm) := (hB.cell (p := ⟨b1, o1 + (m0 * 6 + 5), none⟩) hlb).trans (hcell 5 _ rfl)
              have HE_r := hide hh_r
              have sz_r := hB.size
              have lt_b1 : b1 < wr.heap.size := (by have := hB.size; omega)
              have lw_b1 := hlb
              have i0_r : (0 : Int) ≤ (m0 : Int) := by omega
              have i1_r : (m0 : Int) < (n : Int) := by omega
              clear hcell hlb hh_r
              have HSK := hide (show (servedS rs zs l N)[k]? = some ⟨r.id, t⟩ by rw [served_zip, List.getElem?_zipWith, hw, hg]; simp [svAt_of HE_r.out])
              obtain ⟨gw, ow, rfl, hcw⟩ := HWk.out k (.int .i64 m0) (by rw [List.getElem?_map, hw]; rfl)
              obtain ⟨gb, ob, rfl, hcb⟩ := HBk.out k (.int .i64 t) (by rw [List.getElem?_map, hg]; rfl)
              have hgw := HAW.out _ rfl; have hgb := HAB.out _ rfl
              have hgw0 : b1s + 1 ≤ gw := hgw.1
              have hgw1 : gw < X.heap.size := hgw.2
              have hgb0 : b1s + 1 ≤ gb := hgb.1
              have hgb1 : gb < X.heap.size := hgb.2
              have i0 : (0 : Int) ≤ (k : Int) := by omega
              have i1 : (k : Int) < (K : Int) := by omega
              have hlw : gw < wr.heap.size := by omega
              have hlg : gb < wr.heap.size := by omega
              have hne : some gb ≠ (Value.slice ao k co).ownBlock := fun e => by
                cases ao with
                | none => simp [Value.ownBlock] at e
                | some x => simp [Value.ownBlock] at e; have := HDk.out x rfl; omega
              have hnw : some gw ≠ (Value.slice ao k co).ownBlock := fun e => by
                cases ao with
                | none => simp [Value.ownBlock] at e
                | some x => simp [Value.ownBlock] at e; have := HDk.out x rfl; omega
              clear hpb hw hg htb hgw hgb
              go_wp2_with fail
              go_region_held3 (fun v => v.cell? ⟨gb, ob + k, none⟩ = some (.int .i64 t) ∧ v.cell? ⟨b1, o1 + m0 * 6, none⟩ = some (.int .i64 r.id)) (first | go_keep | (go_split_ands; refine ⟨?_, ?_⟩ <;> (rw [hgq.cell_far _ (by go_size) (by first | exact own_far HOk.out (by omega) | exact own_far HOk.out (by dsimp only; omega) | assumption)]; assumption))) ((refine step_append_lies _ (by rfl) _ _ _ (by rfl) (b1s) 58 i0_Sv _ 2 16 Try.underlying55 hi_Sv hz0_Sv hz1_Sv hz2_Sv rfl (by omega) _ _ _ (by rfl) ((HOk.out.alloc _).drew) ⟨wr.heap.size, 0, none⟩ 1 1 [.int .i64 r.id, .int .i64 t] (by rfl) (by rfl) (World.news_of_block (cs := #[.int .i64 r.id, .int .i64 t]) (t := 58) (fr := (0, 0)) (heap_alloc_new _ _)) (List.all_eq_true.1 rfl) (by omega) (by unfold maxLen; omega) (by omega) (by first | go_size | (simp; omega)) (wr.heap.size + 1) (by simp) ?_; intro gq cq wq hownq hgq hatq hltq))
              obtain ⟨hBq, hsq⟩ := below_appr hB HOk.out (by omega) (by omega) hgq
              have HGq := hide hgq; clear hgq
              have HBq := hide (((HBk.out.kept (row := none) (World.grownBy_alloc _ (.cells #[.int .i64 r.id, .int .i64 t] 58) _) (fun x hx => by simp)).kept (row := (Value.slice ao k co).ownBlock) ⟨HGq.out.os, HGq.out.tape, HGq.out.output, HGq.out.size, HGq.out.block⟩ (fun x hx => by injection hx with hx; rw [← hx]; exact hne)))
              have HWq := hide (((HWk.out.kept (row := none) (World.grownBy_alloc _ (.cells #[.int .i64 r.id, .int .i64 t] 58) _) (fun x hx => by simp)).kept (row := (Value.slice ao k co).ownBlock) ⟨HGq.out.os, HGq.out.tape, HGq.out.output, HGq.out.size, HGq.out.block⟩ (fun x hx => by injection hx with hx; rw [← hx]; exact hnw)))
              have HDq := hide (fun (x : Addr) (hx : some (⟨gq, 0, none⟩ : Addr) = some x) => (show x.block = b1s ∨ X.heap.size ≤ x.block by
                injection hx with hx; rw [← hx]
                rcases hatq with h | h
                · cases ao with
                  | none => simp [Value.ownBlock] at h
                  | some y => simp [Value.ownBlock] at h; have := HDk.out y rfl; show gq = b1s ∨ X.heap.size ≤ gq; omega
                · show gq = b1s ∨ X.heap.size ≤ gq; omega))
              have HOq := hide hownq
              clear hatq hltq hownq HGq HOk HWk HBk HDk hne hnw hcw hcb
              go_wp2_with fail
              go_roundw
              case rel => exact ⟨k + 1, _, _, by omega, by go_num, rfl, hide (by rw [flat_snoc HSK.out]; simpa [svF] using HOq.out), hBq, by omega, HWq, HBq, HDq⟩
              case measure => simp [intOf]; omega
            · obtain rfl : k = K := by omega
              go_wp2_with fail
              go_ret
              refine ⟨_, _, rfl, ?_, hB⟩
              have := HOk.out
              rw [List.take_of_length_le (by rw [served_zip, List.length_zipWith, begin_len, Nat.min_self, HK.out]; exact Nat.le_refl _)] at this
              rw [HV.out]
              exact own_base this (by omega)
        · have h4' : (1000 : Int) < u / l := by omega
          have HV := hide (show servedAll rs zs l u = [] by unfold servedAll; rw [HL.out, servable_no4 h4]; rfl)
          obtain rfl : 0 = K := by rw [← hK, HV.out]; rfl
          clear hK
          go_enter Try.func31, Try.ntmps31
          go_wp2_with (first | (go_at_call 77; refine (impl_between _ _ _ _).mono ?_; rintro e w1 ⟨rfl, rfl⟩) | (go_at_call 32; refine (impl_SlotsOk_is _ _ _ _ _ _ h1 _ (HZ.out.below (B := w.heap.size) (by go_grown) (Nat.le_refl _)) hs1).mono ?_; rintro e w1 ⟨rfl, h1⟩; (try (have hz0 : w.heap.size < w1.heap.size := (by have := h1.size; (try simp at this); omega); have hl0 := (fun o => (bcell h1).1 (w.heap.size) o (by go_size)); have hv0 := (fun o => (bcell h1).2 (w.heap.size) o (by go_size)))); (try (have hz1 : w.heap.size + 1 < w1.heap.size := (by have := h1.size; (try simp at this); omega); have hl1 := (fun o => (bcell h1).1 (w.heap.size + 1) o (by go_size)); have hv1 := (fun o => (bcell h1).2 (w.heap.size + 1) o (by go_size)))); (try (have hz2 : w.heap.size + 1 + 1 < w1.heap.size := (by have := h1.size; (try simp at this); omega); have hl2 := (fun o => (bcell h1).1 (w.heap.size + 1 + 1) o (by go_size)); have hv2 := (fun o => (bcell h1).2 (w.heap.size + 1 + 1) o (by go_size)))); replace h1 : Below w.heap.size w w1 := bthen (by go_grown) h1 (by first | go_size | omega); obtain ⟨hc1, hf1⟩ := bcell h1))
          go_ret
          exact ⟨_, _, rfl, by rw [HV.out, List.flatMap_nil]; exact World.ownsRow_nil _ _ _ _, by go_grown⟩
      · have h3' : (60 : Int) < (n : Int) := by omega
        have HV := hide (show servedAll rs zs l u = [] by unfold servedAll; rw [HL.out, servable_no3 h3]; rfl)
        obtain rfl : 0 = K := by rw [← hK, HV.out]; rfl
        clear hK
        go_enter Try.func31, Try.ntmps31
        go_wp2_with (first | (go_at_call 77; refine (impl_between _ _ _ _).mono ?_; rintro e w1 ⟨rfl, rfl⟩) | (go_at_call 32; refine (impl_SlotsOk_is _ _ _ _ _ _ h1 _ (HZ.out.below (B := w.heap.size) (by go_grown) (Nat.le_refl _)) hs1).mono ?_; rintro e w1 ⟨rfl, h1⟩; (try (have hz0 : w.heap.size < w1.heap.size := (by have := h1.size; (try simp at this); omega); have hl0 := (fun o => (bcell h1).1 (w.heap.size) o (by go_size)); have hv0 := (fun o => (bcell h1).2 (w.heap.size) o (by go_size)))); (try (have hz1 : w.heap.size + 1 < w1.heap.size := (by have := h1.size; (try simp at this); omega); have hl1 := (fun o => (bcell h1).1 (w.heap.size + 1) o (by go_size)); have hv1 := (fun o => (bcell h1).2 (w.heap.size + 1) o (by go_size)))); (try (have hz2 : w.heap.size + 1 + 1 < w1.heap.size := (by have := h1.size; (try simp at this); omega); have hl2 := (fun o => (bcell h1).1 (w.heap.size + 1 + 1) o (by go_size)); have hv2 := (fun o => (bcell h1).2 (w.heap.size + 1 + 1) o (by go_size)))); replace h1 : Below w.heap.size w w1 := bthen (by go_grown) h1 (by first | go_size | omega); obtain ⟨hc1, hf1⟩ := bcell h1))
        go_ret
        exact ⟨_, _, rfl, by rw [HV.out, List.flatMap_nil]; exact World.ownsRow_nil _ _ _ _, by go_grown⟩
end Go.Proofs.Ytahfbhfmhccgoaa
