/- Draining begins and ends only at its limits: for every drawn input FnDrains answers true. No condition. -/
import Derived.Test.YtlaoeaecbdmebaaDrawSw
import Derived.Test.YtlaoeaecbdmebaaSwitches
import Derived.Deep.DeepCutAuto
set_option linter.unusedSimpArgs false
set_option linter.unusedVariables false
namespace Go.Proofs.Ytlaoeaecbdmebaa
open Go.RowKit Go.ChangeShapes Go.WideShapes Go.ChangeAt Go.Joins Go.Deep
open Go.ChangeMaps (open_string shut_string)

theorem small_wf {z : Int} (h : 0 ≤ z ∧ z ≤ 8) : (Lit.int .i64 z).wf = true := by
  show (decide (IntKind.min .i64 ≤ z) && decide (z ≤ IntKind.max .i64)) = true
  rw [show IntKind.min .i64 = -9223372036854775808 from rfl, show IntKind.max .i64 = 9223372036854775807 from rfl]
  simp; omega
theorem after_up {lo hi z : Int} (hok : drainOkB lo hi = true) (h : drainAfterB false lo hi z = true) : hi ≤ z := by
  unfold drainAfterB at h
  rw [if_pos hok] at h
  split at h
  · assumption
  · split at h <;> cases h
theorem after_down {lo hi z : Int} (hok : drainOkB lo hi = true) (h : drainAfterB true lo hi z = false) : z ≤ lo := by
  unfold drainAfterB at h
  rw [if_pos hok] at h
  split at h
  · cases h
  · split at h
    · assumption
    · cases h
theorem after_is (on : Bool) (lo hi x : Int) (r : Bool) (h : drainAfterB on lo hi x = r) (w : World) :
    Calls Try.prog 20 #[.agg #[.bool on, .int .i64 lo, .int .i64 hi], .int .i64 x] w fun e w' => e = .returned (.agg #[.bool r, .int .i64 lo, .int .i64 hi]) ∧ Below w.heap.size w w' := by subst h; exact impl_DrainAfter on lo hi x w
theorem allows_is (on : Bool) (lo hi x : Int) (b r : Bool) (h : drainAllowsB on lo hi x b = r) (w : World) :
    Calls Try.prog 19 #[.agg #[.bool on, .int .i64 lo, .int .i64 hi], .int .i64 x, .bool b] w fun e w' => e = .returned (.bool r) ∧ Below w.heap.size w w' := by subst h; exact impl_DrainAllows on lo hi x b w
theorem allows_one (on : Bool) (lo hi : Int) (b : Bool) (hok : drainOkB lo hi = true) (w : World) :
    Calls Try.prog 19 #[.agg #[.bool on, .int .i64 lo, .int .i64 hi], .int .i64 1, .bool b] w fun e w' => e = .returned (.bool (on == b)) ∧ Below w.heap.size w w' := by
  have := impl_DrainAllows on lo hi 1 b w
  have h : drainAllowsB on lo hi 1 b = (on == b) := by unfold drainAllowsB; rw [hok]; cases on <;> cases b <;> rfl
  rw [h] at this; exact this
theorem switches_is (on : Bool) (lo hi : Int) (a : Option Addr) (n c : Nat) (zs : List Int) (r : Int) (h : (swRun on lo hi zs).2 = r) (w : World) (ha : IsInts .i64 w a n c zs) (hs : n ≤ 1048576) :
    Calls Try.prog 21 #[.agg #[.bool on, .int .i64 lo, .int .i64 hi], .slice a n c] w fun e w' => e = .returned (.int .i64 r) ∧ Below w.heap.size w w' := by subst h; exact impl_DrainSwitches on lo hi a n c zs w ha hs
theorem iok_is (on : Bool) (lo hi : Int) (r : Bool) (h : drainOkB lo hi = r) (w : World) :
    Calls Try.prog 18 #[.agg #[.bool on, .int .i64 lo, .int .i64 hi]] w fun e w' => e = .returned (.bool r) ∧ Below w.heap.size w w' := by subst h; exact impl_DrainOk on lo hi w
theorem sok_is (on : Bool) (lo hi : Int) (r : Bool) (h : drainOkB lo hi = r) (w : World) :
    Calls Try.prog 17 #[.agg #[.bool on, .int .i64 lo, .int .i64 hi]] w fun e w' => e = .returned (.bool r) ∧ Below w.heap.size w w' := by subst h; exact spec_DrainOk on lo hi w

set_option maxRecDepth 100000 in
set_option maxHeartbeats 2000000 in
theorem FnDrains_walk (a : Option Addr) (n c : Nat) (zs : List Int) (w : World) (ha : IsInts .u8 w a n c zs) :
    Calls Try.prog 3 #[.slice a n c] w fun e w' => e = .returned (.bool true) ∧ Below w.heap.size w w' := by
  have hm : c ≤ 9223372036854775807 := ha.2.2.1
  have hc := ha.2.1
  by_cases hs : n ≤ 1048576
  · have HA := hide ha
    clear ha
    go_enter Try.func3, Try.ntmps3
    go_wp2_with fail
    refine (laws_big a n c _ hs).mono ?_
    rintro e w' ⟨rfl, rfl⟩
    go_wp2_with fail
    refine (spec_DrawDrainSwitches a n c _ _ HA.out hs).mono ?_
    rintro e v1 ⟨on, lo, hi, m, a1, c1, ws, rfl, hown, hwl, hm19, hwb, hV⟩
    have x := hide (Owned.of_own hown)
    clear hown
    cases hok : drainOkB lo hi
    · skip
      go_wp2_with fail
      refine (sok_is _ _ _ false hok _).mono ?_
      rintro e w1 ⟨rfl, h1⟩
      have s1 := h1.size
      try simp only [World.size_alloc, World.size_setCell, World.size_drew, World.heap_drewN] at s1
      have B1_1 := h1
      have z1_0 : v1.heap.size < w1.heap.size := by omega
      have q1_0 := fun o => (bcell B1_1).1 (v1.heap.size) o (by go_size)
      have f1_0 := fun o => (bcell B1_1).2 (v1.heap.size) o (by go_size)
      have H1 : Below v1.heap.size v1 w1 := bthen (by repeat' (first | (with_reducible exact Below.refl _ _) | (with_reducible assumption) | (with_reducible refine bdrawn ?_ _) | (with_reducible refine Below.alloc ?_ ?_ _) | (with_reducible refine Below.drew ?_) | (with_reducible refine Below.setCell ?_ ?_ _) | go_size)) h1 (by go_size)
      have C1 := (bcell H1).1; have F1 := (bcell H1).2
      have P1 : Below v1.heap.size v1 w1 := bthen (by repeat' (first | (with_reducible exact Below.refl _ _) | (with_reducible assumption) | (with_reducible refine bdrawn ?_ _) | (with_reducible refine Below.alloc ?_ ?_ _) | (with_reducible refine Below.drew ?_) | (with_reducible refine Below.setCell ?_ ?_ _) | go_size)) h1 (by go_size)
      replace x := hide (x.out.below P1 (by omega))
      go_wp2_with fail
      refine (iok_is _ _ _ false hok _).mono ?_
      rintro e w2 ⟨rfl, h2⟩
      have s2 := h2.size
      try simp only [World.size_alloc, World.size_setCell, World.size_drew, World.heap_drewN] at s2
      have B2_1 := bnext (by first | (with_reducible exact B1_1) | exact (bgrow B1_1 (by go_size) (by repeat' (first | (with_reducible exact Below.refl _ _) | (with_reducible assumption) | (with_reducible refine bdrawn ?_ _) | (with_reducible refine Below.alloc ?_ ?_ _) | (with_reducible refine Below.drew ?_) | (with_reducible refine Below.setCell ?_ ?_ _) | go_size)))) h2 (by go_size)
      have z2_0 : v1.heap.size < w2.heap.size := by omega
      have q2_0 := fun o => (bcell B2_1).1 (v1.heap.size) o (by go_size)
      have f2_0 := fun o => (bcell B2_1).2 (v1.heap.size) o (by go_size)
      have H2 : Below v1.heap.size v1 w2 := bthen (by repeat' (first | (with_reducible exact Below.refl _ _) | (with_reducible assumption) | (with_reducible refine bdrawn ?_ _) | (with_reducible refine Below.alloc ?_ ?_ _) | (with_reducible refine Below.drew ?_) | (with_reducible refine Below.setCell ?_ ?_ _) | go_size)) h2 (by go_size)
      have C2 := (bcell H2).1; have F2 := (bcell H2).2
      have P2 : Below w1.heap.size w1 w2 := bthen (by repeat' (first | (with_reducible exact Below.refl _ _) | (with_reducible assumption) | (with_reducible refine bdrawn ?_ _) | (with_reducible refine Below.alloc ?_ ?_ _) | (with_reducible refine Below.drew ?_) | (with_reducible refine Below.setCell ?_ ?_ _) | go_size)) h2 (by go_size)
      replace x := hide (x.out.below P2 (by omega))
      go_wp2_with fail
      refine (allows_is on lo hi 0 true false (by unfold drainAllowsB; rw [hok]; rfl) _).mono ?_
      rintro e w3 ⟨rfl, h3⟩
      have s3 := h3.size
      try simp only [World.size_alloc, World.size_setCell, World.size_drew, World.heap_drewN] at s3
      have B3_1 := bnext (by first | (with_reducible exact B2_1) | exact (bgrow B2_1 (by go_size) (by repeat' (first | (with_reducible exact Below.refl _ _) | (with_reducible assumption) | (with_reducible refine bdrawn ?_ _) | (with_reducible refine Below.alloc ?_ ?_ _) | (with_reducible refine Below.drew ?_) | (with_reducible refine Below.setCell ?_ ?_ _) | go_size)))) h3 (by go_size)
      have z3_0 : v1.heap.size < w3.heap.size := by omega
      have q3_0 := fun o => (bcell B3_1).1 (v1.heap.size) o (by go_size)
      have f3_0 := fun o => (bcell B3_1).2 (v1.heap.size) o (by go_size)
      have H3 : Below v1.heap.size v1 w3 := bthen (by repeat' (first | (with_reducible exact Below.refl _ _) | (with_reducible assumption) | (with_reducible refine bdrawn ?_ _) | (with_reducible refine Below.alloc ?_ ?_ _) | (with_reducible refine Below.drew ?_) | (with_reducible refine Below.setCell ?_ ?_ _) | go_size)) h3 (by go_size)
      have C3 := (bcell H3).1; have F3 := (bcell H3).2
      have P3 : Below w2.heap.size w2 w3 := bthen (by repeat' (first | (with_reducible exact Below.refl _ _) | (with_reducible assumption) | (with_reducible refine bdrawn ?_ _) | (with_reducible refine Below.alloc ?_ ?_ _) | (with_reducible refine Below.drew ?_) | (with_reducible refine Below.setCell ?_ ?_ _) | go_size)) h3 (by go_size)
      replace x := hide (x.out.below P3 (by omega))
      go_wp2_with fail
      refine (allows_is false 0 2 0 true true rfl _).mono ?_
      rintro e w4 ⟨rfl, h4⟩
      have s4 := h4.size
      try simp only [World.size_alloc, World.size_setCell, World.size_drew, World.heap_drewN] at s4
      have B4_1 := bnext (by first | (with_reducible exact B3_1) | exact (bgrow B3_1 (by go_size) (by repeat' (first | (with_reducible exact Below.refl _ _) | (with_reducible assumption) | (with_reducible refine bdrawn ?_ _) | (with_reducible refine Below.alloc ?_ ?_ _) | (with_reducible refine Below.drew ?_) | (with_reducible refine Below.setCell ?_ ?_ _) | go_size)))) h4 (by go_size)
      have z4_0 : v1.heap.size < w4.heap.size := by omega
      have q4_0 := fun o => (bcell B4_1).1 (v1.heap.size) o (by go_size)
      have f4_0 := fun o => (bcell B4_1).2 (v1.heap.size) o (by go_size)
      have H4 : Below v1.heap.size v1 w4 := bthen (by repeat' (first | (with_reducible exact Below.refl _ _) | (with_reducible assumption) | (with_reducible refine bdrawn ?_ _) | (with_reducible refine Below.alloc ?_ ?_ _) | (with_reducible refine Below.drew ?_) | (with_reducible refine Below.setCell ?_ ?_ _) | go_size)) h4 (by go_size)
      have C4 := (bcell H4).1; have F4 := (bcell H4).2
      have P4 : Below w3.heap.size w3 w4 := bthen (by repeat' (first | (with_reducible exact Below.refl _ _) | (with_reducible assumption) | (with_reducible refine bdrawn ?_ _) | (with_reducible refine Below.alloc ?_ ?_ _) | (with_reducible refine Below.drew ?_) | (with_reducible refine Below.setCell ?_ ?_ _) | go_size)) h4 (by go_size)
      replace x := hide (x.out.below P4 (by omega))
      go_wp2_with fail
      go_ret
      exact ⟨rfl, bthen hV H4 hV.size⟩
    · obtain ⟨hlo, hlh, hhi⟩ := drainOkB_lt hok
      go_wp2_with fail
      refine (sok_is _ _ _ true hok _).mono ?_
      rintro e w1 ⟨rfl, h1⟩
      have s1 := h1.size
      try simp only [World.size_alloc, World.size_setCell, World.size_drew, World.heap_drewN] at s1
      have B1_1 := h1
      have z1_0 : v1.heap.size < w1.heap.size := by omega
      have q1_0 := fun o => (bcell B1_1).1 (v1.heap.size) o (by go_size)
      have f1_0 := fun o => (bcell B1_1).2 (v1.heap.size) o (by go_size)
      have H1 : Below v1.heap.size v1 w1 := bthen (by repeat' (first | (with_reducible exact Below.refl _ _) | (with_reducible assumption) | (with_reducible refine bdrawn ?_ _) | (with_reducible refine Below.alloc ?_ ?_ _) | (with_reducible refine Below.drew ?_) | (with_reducible refine Below.setCell ?_ ?_ _) | go_size)) h1 (by go_size)
      have C1 := (bcell H1).1; have F1 := (bcell H1).2
      have P1 : Below v1.heap.size v1 w1 := bthen (by repeat' (first | (with_reducible exact Below.refl _ _) | (with_reducible assumption) | (with_reducible refine bdrawn ?_ _) | (with_reducible refine Below.alloc ?_ ?_ _) | (with_reducible refine Below.drew ?_) | (with_reducible refine Below.setCell ?_ ?_ _) | go_size)) h1 (by go_size)
      replace x := hide (x.out.below P1 (by omega))
      go_wp2_with fail
      have hX1 := H1
      have HW := hide (isInts_own x.out.1 (fun z hz => small_wf (hwb z hz)))
      have HWL := hide hwl; have HWB := hide hwb
      have hcw : c1 ≤ 9223372036854775807 := HW.out.2.2.1
      have hcw2 := HW.out.2.1
      clear hwl hwb
      obtain ⟨x1, rfl⟩ : ∃ W : World, W = w1 := ⟨_, rfl⟩
      go_loopw [5, 7] (fun v i wr => ∃ k : Nat, k ≤ m ∧ i = .int .i64 k ∧ v = .int .i64 (swRun on lo hi (ws.take k)).2 ∧ Below x1.heap.size x1 wr ∧ x1.heap.size < wr.heap.size ∧ wr.cell? ⟨x1.heap.size, 0, none⟩ = some (.bool (swRun on lo hi (ws.take k)).1) ∧ wr.cell? ⟨x1.heap.size, 1, none⟩ = some (.int .i64 lo) ∧ wr.cell? ⟨x1.heap.size, 2, none⟩ = some (.int .i64 hi) ∧ (∀ o, wr.frozen? ⟨x1.heap.size, o, none⟩ = false)) (fun _ i _ => m - (intOf i).toNat)
      case atStart => exact ⟨0, by omega, rfl, rfl, by go_grown, by simp, by simp [swRun], by simp, by simp, by simp⟩
      case round =>
        obtain ⟨k, hk, rfl, rfl, hB, hsz, e0, e1, e2, hf⟩ := hrel
        have hd := fun o => (hB.cell (p := ⟨v1.heap.size, o, none⟩) (by omega)).trans (q1_0 o)
        have d0 : wr.cell? ⟨v1.heap.size, 0, none⟩ = some (.bool on) := (hd 0).trans (by simp)
        have d1 : wr.cell? ⟨v1.heap.size, 1, none⟩ = some (.int .i64 lo) := (hd 1).trans (by simp)
        have d2 : wr.cell? ⟨v1.heap.size, 2, none⟩ = some (.int .i64 hi) := (hd 2).trans (by simp)
        have hlv : v1.heap.size < wr.heap.size := by omega
        clear hd
        by_cases hlt : k < m
        · obtain ⟨z, b1, o1, hz, rfl, hlb, hc1⟩ := HW.out.2.2.2.2.get (k := k) (by rw [HWL.out]; omega)
          have e3 := (hB.cell (p := ⟨b1, o1 + k, none⟩) hlb).trans hc1
          have h1 : (0 : Int) ≤ (k : Int) := by omega
          have h2 : (k : Int) < (m : Int) := by omega
          have hl1 : b1 < wr.heap.size := by omega
          have hb := swRun_bd on lo hi ws k (by rw [HWL.out]; omega)
          have hb1 := hb.1
          have hb2 := hb.2
          have HS := hide (swRun_snoc on lo hi ws k z hz)
          have hzb := HWB.out z (List.mem_of_getElem? hz)
          have hz1 := hzb.1; have hz2 := hzb.2
          clear hc1 hb hz hzb q1_0
          generalize hcn : (swRun on lo hi (ws.take k)).2 = cnt at *
          have HCn := hide hcn
          clear hcn
          generalize hp : (swRun on lo hi (ws.take k)).1 = pp at *
          have HPp := hide hp
          clear hp
          obtain ⟨q, hq⟩ : ∃ q, drainAfterB pp lo hi z = q := ⟨_, rfl⟩
          have HQ := hide hq
          clear hq
          have n1 : ¬ x1.heap.size = wr.heap.size := by omega
          have n2 : ¬ b1 = wr.heap.size := by omega
          have n3 : ¬ wr.heap.size = x1.heap.size := by omega
          have n4 : ¬ wr.heap.size = b1 := by omega
          go_upto_region 12 with fail
          go_cut [8] (fun y wx => ∃ yb, y = .pointer (some ⟨yb, 0, none⟩) ∧ Below wr.heap.size wr wx ∧ wr.heap.size ≤ yb ∧ yb < wx.heap.size ∧ wx.cell? ⟨yb, 0, none⟩ = some (.bool q) ∧ wx.cell? ⟨yb, 1, none⟩ = some (.int .i64 lo) ∧ wx.cell? ⟨yb, 2, none⟩ = some (.int .i64 hi))
          case first =>
            go_wp2_with fail
            go_region_held3 (fun v => v.cell? ⟨x1.heap.size, 0, none⟩ = some (.bool pp) ∧ v.cell? ⟨x1.heap.size, 1, none⟩ = some (.int .i64 lo) ∧ v.cell? ⟨x1.heap.size, 2, none⟩ = some (.int .i64 hi) ∧ v.cell? ⟨b1, o1 + k, none⟩ = some (.int .i64 z)) (go_keep) (first | (go_at_call 20; refine (after_is _ _ _ _ _ HQ.out _).mono ?_; rintro e w1 ⟨rfl, h1⟩; (try (have hz0 : wr.heap.size < w1.heap.size := (by have := h1.size; (try simp at this); omega); have hl0 := (fun o => (bcell h1).1 (wr.heap.size) o (by go_size)); have hv0 := (fun o => (bcell h1).2 (wr.heap.size) o (by go_size)))); replace h1 : Below wr.heap.size wr w1 := bthen (by go_grown) h1 (by first | go_size | omega); obtain ⟨hc1, hf1⟩ := bcell h1))
            all_goals go_wp2_with fail
            all_goals go_meet
            all_goals have hs1 := h1.size
            all_goals exact ⟨_, rfl, (by repeat' (first | (with_reducible exact Below.refl _ _) | (with_reducible assumption) | (with_reducible refine bdrawn ?_ _) | (with_reducible refine Below.alloc ?_ ?_ _) | (with_reducible refine Below.drew ?_) | (with_reducible refine Below.setCell ?_ ?_ _) | go_size)), by go_size, by go_size, by first | (simp [go_sem, *]; done) | simp, by first | (simp [go_sem, *]; done) | simp, by first | (simp [go_sem, *]; done) | simp⟩
          case rest =>
            obtain ⟨yb, rfl, hBy, hy0, hy1, c0, c1, c2⟩ := hcut
            have hsy := hBy.size
            have hBx : Below x1.heap.size x1 wc := bthen hB hBy (by omega)
            have e0' := (hBy.cell (p := ⟨x1.heap.size, 0, none⟩) hsz).trans e0
            have e1' := (hBy.cell (p := ⟨x1.heap.size, 1, none⟩) hsz).trans e1
            have e2' := (hBy.cell (p := ⟨x1.heap.size, 2, none⟩) hsz).trans e2
            have hf' := fun o => (hBy.frozen (p := ⟨x1.heap.size, o, none⟩) hsz).trans (hf o)
            have d0' := (hBy.cell (p := ⟨v1.heap.size, 0, none⟩) hlv).trans d0
            have d1' := (hBy.cell (p := ⟨v1.heap.size, 1, none⟩) hlv).trans d1
            have d2' := (hBy.cell (p := ⟨v1.heap.size, 2, none⟩) hlv).trans d2
            have e3' := (hBy.cell (p := ⟨b1, o1 + k, none⟩) hl1).trans e3
            have m1 : x1.heap.size < wc.heap.size := by omega
            have m2 : b1 < wc.heap.size := by omega
            have m3 : v1.heap.size < wc.heap.size := by omega
            have m4 : ¬ x1.heap.size = yb := by omega
            have m5 : ¬ yb = x1.heap.size := by omega
            have HSS := hide (show swRun on lo hi (ws.take (k + 1)) = (q, if (!(q == pp)) = true then cnt + 1 else cnt) by
              rw [HS.out]; unfold swSt; rw [HPp.out, HQ.out, HCn.out])
            have hq1 : pp = false → q = true → hi ≤ z := fun h1 h2 => after_up hok (h2 ▸ h1 ▸ HQ.out)
            have hq2 : pp = true → q = false → z ≤ lo := fun h1 h2 => after_down hok (h2 ▸ h1 ▸ HQ.out)
            clear e0 e1 e2 hf d0 d1 d2 e3 hB
            cases q
            · cases pp
              · clear hq1 hq2
                go_wp2_with fail
                go_wp2_with fail
                go_region_held3 (fun v => v.cell? ⟨yb, 0, none⟩ = some (.bool false) ∧ v.cell? ⟨yb, 1, none⟩ = some (.int .i64 lo) ∧ v.cell? ⟨yb, 2, none⟩ = some (.int .i64 hi)) (first | go_keep | simp [go_sem, *]) (first | (go_at_call 19; refine (allows_one false lo hi _ hok _).mono ?_; rintro e w1 ⟨rfl, h1⟩; have s1 := h1.size; (try simp only [World.size_alloc, World.size_setCell, World.size_drew, World.heap_drewN] at s1); have H1 : Below wc.heap.size wc w1 := bthen (by repeat' (first | (with_reducible exact Below.refl _ _) | (with_reducible assumption) | (with_reducible refine bdrawn ?_ _) | (with_reducible refine Below.alloc ?_ ?_ _) | (with_reducible refine Below.drew ?_) | (with_reducible refine Below.setCell ?_ ?_ _) | go_size)) h1 (by go_size); have C1 := (bcell H1).1; have F1 := (bcell H1).2))
                go_wp2_with fail
                have hBE := bthen hBx H1 (by omega)
                have hBs := hBE.size
                go_roundw
                case rel => exact ⟨k + 1, by omega, by go_num, by rw [HSS.out]; rfl, (by repeat' (first | (with_reducible exact Below.refl _ _) | (with_reducible assumption) | (with_reducible refine bdrawn ?_ _) | (with_reducible refine Below.alloc ?_ ?_ _) | (with_reducible refine Below.drew ?_) | (with_reducible refine Below.setCell ?_ ?_ _) | go_size)), by go_size, by rw [HSS.out]; simp [go_sem, *], by simp [go_sem, *], by simp [go_sem, *], by simp [go_sem, *]⟩
                case measure => simp [intOf]; omega
              · have hz := hq2 rfl rfl
                have hz2 : decide (lo < z) = false := by simpa using hz
                clear hq1 hq2
                go_wp2_with fail
                go_quiet (fail)
                go_wp2_with fail
                go_wp2_with fail
                go_region_held3 (fun v => v.cell? ⟨yb, 0, none⟩ = some (.bool false) ∧ v.cell? ⟨yb, 1, none⟩ = some (.int .i64 lo) ∧ v.cell? ⟨yb, 2, none⟩ = some (.int .i64 hi)) (first | go_keep | simp [go_sem, *]) (first | (go_at_call 19; refine (allows_one false lo hi _ hok _).mono ?_; rintro e w1 ⟨rfl, h1⟩; have s1 := h1.size; (try simp only [World.size_alloc, World.size_setCell, World.size_drew, World.heap_drewN] at s1); have H1 : Below wc.heap.size wc w1 := bthen (by repeat' (first | (with_reducible exact Below.refl _ _) | (with_reducible assumption) | (with_reducible refine bdrawn ?_ _) | (with_reducible refine Below.alloc ?_ ?_ _) | (with_reducible refine Below.drew ?_) | (with_reducible refine Below.setCell ?_ ?_ _) | go_size)) h1 (by go_size); have C1 := (bcell H1).1; have F1 := (bcell H1).2))
                go_wp2_with fail
                have hBE := bthen hBx H1 (by omega)
                have hBs := hBE.size
                go_roundw
                case rel => exact ⟨k + 1, by omega, by go_num, by rw [HSS.out]; rfl, (by repeat' (first | (with_reducible exact Below.refl _ _) | (with_reducible assumption) | (with_reducible refine bdrawn ?_ _) | (with_reducible refine Below.alloc ?_ ?_ _) | (with_reducible refine Below.drew ?_) | (with_reducible refine Below.setCell ?_ ?_ _) | go_size)), by go_size, by rw [HSS.out]; simp [go_sem, *], by simp [go_sem, *], by simp [go_sem, *], by simp [go_sem, *]⟩
                case measure => simp [intOf]; omega
            · cases pp
              · have hz := hq1 rfl rfl
                have hz1 : decide (z < hi) = false := by simpa using hz
                clear hq1 hq2
                go_wp2_with fail
                go_quiet (fail)
                go_wp2_with fail
                go_wp2_with fail
                go_region_held3 (fun v => v.cell? ⟨yb, 0, none⟩ = some (.bool true) ∧ v.cell? ⟨yb, 1, none⟩ = some (.int .i64 lo) ∧ v.cell? ⟨yb, 2, none⟩ = some (.int .i64 hi)) (first | go_keep | simp [go_sem, *]) (first | (go_at_call 19; refine (allows_one true lo hi _ hok _).mono ?_; rintro e w1 ⟨rfl, h1⟩; have s1 := h1.size; (try simp only [World.size_alloc, World.size_setCell, World.size_drew, World.heap_drewN] at s1); have H1 : Below wc.heap.size wc w1 := bthen (by repeat' (first | (with_reducible exact Below.refl _ _) | (with_reducible assumption) | (with_reducible refine bdrawn ?_ _) | (with_reducible refine Below.alloc ?_ ?_ _) | (with_reducible refine Below.drew ?_) | (with_reducible refine Below.setCell ?_ ?_ _) | go_size)) h1 (by go_size); have C1 := (bcell H1).1; have F1 := (bcell H1).2))
                go_wp2_with fail
                have hBE := bthen hBx H1 (by omega)
                have hBs := hBE.size
                go_roundw
                case rel => exact ⟨k + 1, by omega, by go_num, by rw [HSS.out]; rfl, (by repeat' (first | (with_reducible exact Below.refl _ _) | (with_reducible assumption) | (with_reducible refine bdrawn ?_ _) | (with_reducible refine Below.alloc ?_ ?_ _) | (with_reducible refine Below.drew ?_) | (with_reducible refine Below.setCell ?_ ?_ _) | go_size)), by go_size, by rw [HSS.out]; simp [go_sem, *], by simp [go_sem, *], by simp [go_sem, *], by simp [go_sem, *]⟩
                case measure => simp [intOf]; omega
              · clear hq1 hq2
                go_wp2_with fail
                go_wp2_with fail
                go_region_held3 (fun v => v.cell? ⟨yb, 0, none⟩ = some (.bool true) ∧ v.cell? ⟨yb, 1, none⟩ = some (.int .i64 lo) ∧ v.cell? ⟨yb, 2, none⟩ = some (.int .i64 hi)) (first | go_keep | simp [go_sem, *]) (first | (go_at_call 19; refine (allows_one true lo hi _ hok _).mono ?_; rintro e w1 ⟨rfl, h1⟩; have s1 := h1.size; (try simp only [World.size_alloc, World.size_setCell, World.size_drew, World.heap_drewN] at s1); have H1 : Below wc.heap.size wc w1 := bthen (by repeat' (first | (with_reducible exact Below.refl _ _) | (with_reducible assumption) | (with_reducible refine bdrawn ?_ _) | (with_reducible refine Below.alloc ?_ ?_ _) | (with_reducible refine Below.drew ?_) | (with_reducible refine Below.setCell ?_ ?_ _) | go_size)) h1 (by go_size); have C1 := (bcell H1).1; have F1 := (bcell H1).2))
                go_wp2_with fail
                have hBE := bthen hBx H1 (by omega)
                have hBs := hBE.size
                go_roundw
                case rel => exact ⟨k + 1, by omega, by go_num, by rw [HSS.out]; rfl, (by repeat' (first | (with_reducible exact Below.refl _ _) | (with_reducible assumption) | (with_reducible refine bdrawn ?_ _) | (with_reducible refine Below.alloc ?_ ?_ _) | (with_reducible refine Below.drew ?_) | (with_reducible refine Below.setCell ?_ ?_ _) | go_size)), by go_size, by rw [HSS.out]; simp [go_sem, *], by simp [go_sem, *], by simp [go_sem, *], by simp [go_sem, *]⟩
                case measure => simp [intOf]; omega
        · obtain rfl : k = m := by omega
          have HC := hide (show (swRun on lo hi (ws.take k)).2 = (swRun on lo hi ws).2 by rw [List.take_of_length_le (by rw [HWL.out]; exact Nat.le_refl _)])
          generalize hcn : (swRun on lo hi (ws.take k)).2 = cnt at *
          have hcn' := HC.out
          have HSW := hide hcn'.symm
          clear hcn hcn' HC q1_0
          go_wp2_with fail
          refine (iok_is _ _ _ true hok _).mono ?_
          rintro e w1 ⟨rfl, h1⟩
          have s1 := h1.size
          try simp only [World.size_alloc, World.size_setCell, World.size_drew, World.heap_drewN] at s1
          have H1 : Below wr.heap.size wr w1 := bthen (by repeat' (first | (with_reducible exact Below.refl _ _) | (with_reducible assumption) | (with_reducible refine bdrawn ?_ _) | (with_reducible refine Below.alloc ?_ ?_ _) | (with_reducible refine Below.drew ?_) | (with_reducible refine Below.setCell ?_ ?_ _) | go_size)) h1 (by go_size)
          have C1 := (bcell H1).1; have F1 := (bcell H1).2
          go_wp2_with fail
          refine (switches_is _ _ _ _ _ _ ws cnt HSW.out _ (HW.out.below (bthen hB H1 (by omega)) (Nat.le_refl _)) (by omega)).mono ?_
          rintro e w2 ⟨rfl, h2⟩
          have s2 := h2.size
          try simp only [World.size_alloc, World.size_setCell, World.size_drew, World.heap_drewN] at s2
          have H2 : Below wr.heap.size wr w2 := bthen (by repeat' (first | (with_reducible exact Below.refl _ _) | (with_reducible assumption) | (with_reducible refine bdrawn ?_ _) | (with_reducible refine Below.alloc ?_ ?_ _) | (with_reducible refine Below.drew ?_) | (with_reducible refine Below.setCell ?_ ?_ _) | go_size)) h2 (by go_size)
          have C2 := (bcell H2).1; have F2 := (bcell H2).2
          go_wp2_with fail
          refine (allows_is false 0 2 0 true true rfl _).mono ?_
          rintro e w3 ⟨rfl, h3⟩
          have s3 := h3.size
          try simp only [World.size_alloc, World.size_setCell, World.size_drew, World.heap_drewN] at s3
          have H3 : Below wr.heap.size wr w3 := bthen (by repeat' (first | (with_reducible exact Below.refl _ _) | (with_reducible assumption) | (with_reducible refine bdrawn ?_ _) | (with_reducible refine Below.alloc ?_ ?_ _) | (with_reducible refine Below.drew ?_) | (with_reducible refine Below.setCell ?_ ?_ _) | go_size)) h3 (by go_size)
          have C3 := (bcell H3).1; have F3 := (bcell H3).2
          go_wp2_with fail
          go_ret
          exact ⟨rfl, bthen hV (bthen hX1 (bthen hB H3 (by omega)) (by omega)) hV.size⟩
  · go_enter Try.func3, Try.ntmps3
    go_wp2_with fail
    refine (laws_big_yes a n c _ hm hc hs).mono ?_
    rintro e w' ⟨rfl, rfl⟩
    go_wp2_with fail
    go_ret
    exact ⟨rfl, by go_grown⟩

set_option maxRecDepth 100000 in
theorem FnDrains_lifted (os : Os) (started : os.Started) (H : Type) (enc : TypeId × Value → H) :
    ReturnsInHanded {} Try.checked os 3 .any (Rows.fnDrainsSpec.pre6 enc Try.prog Try.f3 Rows.fnDrainsRow.domain false) (Rows.fnDrainsSpec.post enc Try.prog Try.f3 false true false false) := by
  refine returnsInHanded_of_change (C := Try.checked) try_own started (by kernel_rfl) Try.func3
    (ChangeSpec.witness6 (enc := enc) (C := Try.checked) false ⟨#[], #[.slice none 0 0], []⟩ 8 (by kernel_rfl) (by kernel_rfl) (by kernel_rfl) (by kernel_rfl)) ?_
  intro W base args ds gs before hval0 hW _ _
  have hval : ∀ (j : Nat) t v, Try.f3.params[j]? = some t → args[j]? = some v → Value.okWide Try.prog W .any base t v := hval0
  have hW' := hW
  obtain ⟨p, q, hA0, hV, rfl, hfz, hnd⟩ := hW
  have hA : DataW.TrodAll enc Try.prog W 0 (fun _ => true) true Try.f3.params.toList args.toList ds p := hA0
  rw [Try.params3] at hA hval
  obtain ⟨v0, vs0, d0, ds0, p0, q0, hargs, rfl, rfl, h0, r0⟩ := trodAll_cons hA
  obtain ⟨rfl, rfl, rfl⟩ := trodAll_nil r0
  obtain rfl : args = #[v0] := by cases args; simp_all
  obtain ⟨rfl, rfl⟩ := trodVars_none hV
  have k0 := h0
  have lt0 : ∀ x ∈ p0, x.block < W.heap.size := by obtain ⟨m, hm⟩ := k0; exact DataW.trod_lt m _ _ _ hm
  obtain ⟨b_x0, m_x0, l_x0, rfl⟩ := okWide_slice Try.underlying22 (hval 0 22 v0 rfl rfl)
  obtain ⟨fu0, h0⟩ := h0
  obtain ⟨a_x0, n_x0, c_x0, x0, e_x0, w_x0⟩ := isBytes_of Try.underlying22 Try.underlying5 (by kernel_rfl) h0
  simp only [Value.cells, List.cons.injEq, and_true] at e_x0
  obtain ⟨q1, q2, q3⟩ : b_x0 = a_x0 ∧ m_x0 = n_x0 ∧ l_x0 = c_x0 := by simpa using e_x0
  replace q1 := q1.symm; replace q2 := q2.symm; replace q3 := q3.symm; subst q1 q2 q3
  clear hA0 hval0
  refine (FnDrains_walk a_x0 n_x0 c_x0 x0 W w_x0).mono fun e W' ⟨he, bel⟩ => ?_
  subst he
  exact ⟨_, rfl, _, _, _, [], _, [], hW', trodAll_mk1 (shut_bool Try.underlying4 _), (trodAll_cons_mk (Below.trod try_laidOut (by kernel_rfl) (of_decide_eq_true (by kernel_rfl)) k0 bel lt0) trodAll_mk0), rfl, bel.frame _, fun h => by cases h⟩

theorem FnDrains_holds : Rows.FnDrainsSaid :=
  OpenClaim.holds_of_wide 3 Try.f3 rfl rfl rfl rfl rfl rfl rfl ⟨rfl, rfl, rfl, rfl, rfl⟩ rfl rfl rfl rfl rfl (by kernel_rfl) Try.func3 (by kernel_rfl)
    (of_decide_eq_true (by kernel_rfl)) (by unfold Func.isWrapper; rw [if_neg (of_decide_eq_false (by kernel_rfl))]; exact ⟨rfl, rfl⟩)
    (fun os started H enc _ => FnDrains_lifted os started H enc)
#print axioms FnDrains_holds
end Go.Proofs.Ytlaoeaecbdmebaa
