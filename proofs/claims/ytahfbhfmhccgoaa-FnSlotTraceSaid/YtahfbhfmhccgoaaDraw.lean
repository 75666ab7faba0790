/- The cursor of the drawn inputs: each draw gives some number in its range, and writes the cursor alone. -/
import Derived.Test.YtahfbhfmhccgoaaInts
set_option linter.unusedSimpArgs false
set_option linter.unusedVariables false
namespace Go.Proofs.Ytahfbhfmhccgoaa
open Go.RowKit Go.ChangeShapes Go.WideShapes Go.ChangeAt Go.Joins Go.Deep
open Go.ChangeMaps (open_string shut_string)

theorem and255 (x : Int) : 0 ≤ bits .and .i64 x 255 ∧ bits .and .i64 x 255 ≤ 255 := by
  have h1 : bits .and .i64 x 255 = IntKind.i64.wrap ((BitVec.ofInt 64 x &&& BitVec.ofInt 64 255).toNat : Int) := rfl
  have h2 : (BitVec.ofInt 64 x &&& BitVec.ofInt 64 255).toNat ≤ 255 := by
    rw [BitVec.toNat_and]; exact Nat.le_trans Nat.and_le_right (by decide)
  rw [h1, IntKind.wrap_i64]
  omega

/-- The cursor lies in block b, its bytes lie below it as they did. -/
def Cur (w0 : World) (a : Option Addr) (n c b : Nat) (w : World) : Prop :=
  ∃ (i : Nat) (h : Int), w.heap[b]? = some (.cells #[.slice a n c, .int .i64 i, .int .i64 h] 158 (0, 0)) ∧ i ≤ n ∧ Below w0.heap.size w0 w ∧ w0.heap.size ≤ b

/-- A draw's end: some number from lo to hi; the cursor goes on; nothing else is written. -/
def Drew (w0 : World) (a : Option Addr) (n c b : Nat) (w : World) (lo hi : Int) (e : Ending) (w' : World) : Prop :=
  ∃ x : Int, lo ≤ x ∧ x ≤ hi ∧ e = .returned (.int .i64 x) ∧ Cur w0 a n c b w' ∧ w.grownBy w' (some b)

set_option maxHeartbeats 400000 in
theorem spec_l01Byte (w0 : World) (a : Option Addr) (n c b : Nat) (bs : List Int) (w : World) (ha : IsInts .u8 w0 a n c bs) (hs : n ≤ 1048576) (hC : Cur w0 a n c b w) :
    Calls Try.prog 117 #[.pointer (some ⟨b, 0, none⟩)] w (Drew w0 a n c b w 0 255) := by
  obtain ⟨i, h, hb, hi, hB, hwb⟩ := hC
  have Hb := hide hb
  have q0 : w.cell? ⟨b, 0, none⟩ = some (.slice a n c) := cell_blk hb 0
  have q1 : w.cell? ⟨b, 1, none⟩ = some (.int .i64 i) := cell_blk hb 1
  have q2 : w.cell? ⟨b, 2, none⟩ = some (.int .i64 h) := cell_blk hb 2
  have qf : ∀ o, w.frozen? ⟨b, o, none⟩ = false := free_blk hb
  clear hb
  have HA := hide ha; clear ha
  have h2 : 0 ≤ (i : Int) := by omega
  by_cases hlt : i < n
  · obtain ⟨z, b1, o1, hz, rfl, hlb, hc1⟩ := HA.out.2.2.2.2.get (k := i) (by rw [HA.out.1]; exact hlt)
    have hw := HA.out.2.2.2.1 z (List.mem_of_getElem? hz)
    have e1 := (hB.cell (p := ⟨b1, o1 + i, none⟩) hlb).trans hc1
    have hn1 : ¬ b = b1 := by omega
    have hn2 : ¬ b1 = b := by omega
    clear hc1 hz hw
    have h1 : (i : Int) < (n : Int) := by omega
    go_enter Try.func117, Try.ntmps117
    go_wp2_with fail
    generalize wrap64 (wrap64 (h * 6364136223846793005) + 1442695040888963407) = h'
    go_quiet (fail)
    go_wp2_with fail
    go_quiet (fail)
    go_wp2_with fail
    go_quiet (fail)
    go_wp2_with fail
    go_ret
    refine ⟨_, (and255 _).1, (and255 _).2, rfl, ⟨i + 1, h', ?_, by omega, ?_, hwb⟩, ?_⟩
    · have := set_blk (o := 1) (set_blk (o := 2) Hb.out (.int .i64 h')) (.int .i64 ((i : Int) + 1))
      exact this
    · exact (bdrawn (hB.setCell (p := ⟨b, 2, none⟩) hwb _) _).setCell (p := ⟨b, 1, none⟩) hwb _
    · exact only_set (only_drawn (only_set (only_refl _ _) _) _) _
  · have h1 : ¬ (i : Int) < (n : Int) := by omega
    go_enter Try.func117, Try.ntmps117
    go_wp2_with fail
    generalize wrap64 (wrap64 (h * 6364136223846793005) + 1442695040888963407) = h'
    go_quiet (fail)
    go_wp2_with fail
    go_quiet (fail)
    go_wp2_with fail
    go_ret
    exact ⟨_, (and255 _).1, (and255 _).2, rfl, ⟨i, h', set_blk Hb.out _, hi, bdrawn (bdrawn (hB.setCell hwb _) _) _, hwb⟩, only_drawn (only_drawn (only_set (only_refl _ _) _) _) _⟩

set_option maxHeartbeats 800000 in
theorem spec_l01Below (w0 : World) (a : Option Addr) (n c b : Nat) (bs : List Int) (w : World) (m : Int) (ha : IsInts .u8 w0 a n c bs) (hs : n ≤ 1048576) (hm : m ≤ 1000000000) (hC : Cur w0 a n c b w) :
    Calls Try.prog 64 #[.pointer (some ⟨b, 0, none⟩), .int .i64 m] w (Drew w0 a n c b w 0 (max (m - 1) 0)) := by
  have HA := hide ha; clear ha
  have HC := hide hC; clear hC
  by_cases h1 : m ≤ 0
  · go_enter Try.func64, Try.ntmps64
    go_wp2
    go_ret
    exact ⟨0, by omega, by omega, rfl, HC.out, only_refl _ _⟩
  · by_cases h2 : m ≤ 256
    · go_enter Try.func64, Try.ntmps64
      go_wp2_with fail
      refine (spec_l01Byte w0 a n c b bs _ HA.out hs HC.out).mono ?_
      rintro e w1 ⟨x, hx0, hx1, rfl, hC1, hg1⟩
      go_wp2_with fail
      go_ret
      have := Int.emod_nonneg x (show m ≠ 0 by omega)
      have := Int.emod_lt_of_pos x (show 0 < m by omega)
      exact ⟨_, by omega, by omega, rfl, hC1, hg1⟩
    · go_enter Try.func64, Try.ntmps64
      go_wp2_with fail
      refine (spec_l01Byte w0 a n c b bs _ HA.out hs HC.out).mono ?_
      rintro e w1 ⟨x, hx0, hx1, rfl, hC1, hg1⟩
      go_wp2_with fail
      refine (spec_l01Byte w0 a n c b bs _ HA.out hs hC1).mono ?_
      rintro e w2 ⟨y, hy0, hy1, rfl, hC2, hg2⟩
      go_wp2_with fail
      refine (spec_l01Byte w0 a n c b bs _ HA.out hs hC2).mono ?_
      rintro e w3 ⟨z, hz0, hz1, rfl, hC3, hg3⟩
      go_wp2_with fail
      refine (spec_l01Byte w0 a n c b bs _ HA.out hs hC3).mono ?_
      rintro e w4 ⟨v, hv0, hv1, rfl, hC4, hg4⟩
      go_wp2_with fail
      go_ret
      have := Int.emod_nonneg (x * 16777216 + y * 65536 + z * 256 + v) (show m ≠ 0 by omega)
      have := Int.emod_lt_of_pos (x * 16777216 + y * 65536 + z * 256 + v) (show 0 < m by omega)
      exact ⟨_, by omega, by omega, rfl, hC4, only_trans hg1 (only_trans hg2 (only_trans hg3 hg4))⟩

/-- A yes or no, whichever; the cursor goes on. -/
def DrewB (w0 : World) (a : Option Addr) (n c b : Nat) (w : World) (e : Ending) (w' : World) : Prop :=
  ∃ x : Bool, e = .returned (.bool x) ∧ Cur w0 a n c b w' ∧ w.grownBy w' (some b)

set_option maxHeartbeats 400000 in
theorem spec_l01Once (w0 : World) (a : Option Addr) (n c b : Nat) (bs : List Int) (w : World) (m : Int) (ha : IsInts .u8 w0 a n c bs) (hs : n ≤ 1048576) (hm : m ≤ 1000000000) (hC : Cur w0 a n c b w) :
    Calls Try.prog 66 #[.pointer (some ⟨b, 0, none⟩), .int .i64 m] w (DrewB w0 a n c b w) := by
  go_enter Try.func66, Try.ntmps66
  go_wp2_with fail
  refine (spec_l01Below w0 a n c b bs _ m ha hs hm hC).mono ?_
  rintro e w1 ⟨x, hx0, hx1, rfl, hC1, hg1⟩
  go_wp2_with fail
  go_ret
  exact ⟨_, rfl, hC1, hg1⟩

set_option maxRecDepth 100000 in
set_option maxHeartbeats 400000 in
theorem spec_l01New (a : Option Addr) (n c : Nat) (bs : List Int) (w : World) (ha : IsInts .u8 w a n c bs) (hs : n ≤ 1048576) :
    Calls Try.prog 63 #[.slice a n c] w fun e w' => ∃ b, e = .returned (.pointer (some ⟨b, 0, none⟩)) ∧ Cur w a n c b w' ∧ b < w'.heap.size := by
  have HA := hide ha; clear ha
  go_enter Try.func63, Try.ntmps63
  go_wp2_with fail
  go_loop [3, 4] (fun h i => ∃ (k : Nat) (x : Int), k ≤ n ∧ i = .int .i64 k ∧ h = .int .i64 x) (fun _ i => n - (intOf i).toNat)
  case atStart => exact ⟨0, _, by omega, rfl, rfl⟩
  case round =>
    obtain ⟨k, x, hk, rfl, rfl⟩ := hrel
    by_cases hlt : k < n
    · obtain ⟨z, b1, o1, hz, rfl, hlb, hc1⟩ := HA.out.2.2.2.2.get (k := k) (by rw [HA.out.1]; exact hlt)
      clear hz hlb
      by_cases h4 : k < 4000
      · go_wp2
        go_round
        case rel => exact ⟨k + 1, _, by omega, by go_num, rfl⟩
        case measure => simp [intOf]; omega
      · go_wp2
        go_ret
        exact ⟨_, rfl, ⟨0, x, heap_alloc_new w _, by omega, by go_grown, Nat.le_refl _⟩, by simp⟩
    · go_wp2
      go_ret
      exact ⟨_, rfl, ⟨0, x, heap_alloc_new w _, by omega, by go_grown, Nat.le_refl _⟩, by simp⟩

theorem Cur.keep {w0 : World} {a : Option Addr} {n c b : Nat} {w w' : World} (h : Cur w0 a n c b w) (hg : w.grownBy w' none) : Cur w0 a n c b w' := by
  obtain ⟨i, x, hb, hi, hB, hwb⟩ := h
  refine ⟨i, x, ?_, hi, hB.trans ⟨hg.os, hg.tape, hg.output, hg.size, fun k hk => hg.block k (by have := lt_blk hb; omega) (by simp)⟩, hwb⟩
  rw [hg.block b (lt_blk hb) (by simp)]; exact hb
theorem Cur.alloc {w0 : World} {a : Option Addr} {n c b : Nat} {w : World} (h : Cur w0 a n c b w) (o : Obj) : Cur w0 a n c b (w.alloc o) := h.keep (World.grownBy_alloc _ _ _)
theorem Cur.drawn {w0 : World} {a : Option Addr} {n c b : Nat} {w : World} (h : Cur w0 a n c b w) (k : Nat) : Cur w0 a n c b (w.drewN k) := h.keep ⟨rfl, rfl, rfl, Nat.le_refl _, fun _ _ _ => rfl⟩
theorem Cur.drew {w0 : World} {a : Option Addr} {n c b : Nat} {w : World} (h : Cur w0 a n c b w) : Cur w0 a n c b w.drew := h.keep ⟨rfl, rfl, rfl, Nat.le_refl _, fun _ _ _ => rfl⟩
theorem Cur.below {w0 : World} {a : Option Addr} {n c b : Nat} {w w' : World} (h : Cur w0 a n c b w) (hb : Below w.heap.size w w') : Cur w0 a n c b w' := h.keep ⟨hb.os, hb.tape, hb.output, hb.size, fun k hk _ => hb.block k hk⟩
/-- A store into another block, that lies above what was there at first. -/
theorem Cur.set {w0 : World} {a : Option Addr} {n c b : Nat} {w : World} {g o : Nat} (h : Cur w0 a n c b w) (hg : b < g ∨ (w0.heap.size ≤ g ∧ g < b)) (v : Value) : Cur w0 a n c b (w.setCell ⟨g, o, none⟩ v) := by
  obtain ⟨i, x, hb, hi, hB, hwb⟩ := h
  refine ⟨i, x, ?_, hi, hB.setCell (by show w0.heap.size ≤ g; omega) _, hwb⟩
  rw [Below.heap_setCell w ⟨g, o, none⟩ v b (by show b ≠ g; omega)]; exact hb

theorem Cur.lt {w0 : World} {a : Option Addr} {n c b : Nat} {w : World} (h : Cur w0 a n c b w) : b < w.heap.size := by obtain ⟨i, x, hb, _⟩ := h; exact lt_blk hb

/-- One of the numbers of a list. -/
def DrewOf (w0 : World) (a : Option Addr) (n c b : Nat) (w : World) (zs : List Int) (e : Ending) (w' : World) : Prop :=
  ∃ x : Int, x ∈ zs ∧ e = .returned (.int .i64 x) ∧ Cur w0 a n c b w' ∧ w.grownBy w' (some b)
set_option maxHeartbeats 400000 in
theorem spec_l01PickInt (w0 : World) (a : Option Addr) (n c b : Nat) (bs : List Int) (w : World) (a' : Option Addr) (n' c' : Nat) (zs : List Int) (ha : IsInts .u8 w0 a n c bs) (hs : n ≤ 1048576) (hC : Cur w0 a n c b w) (hz : IsInts .i64 w a' n' c' zs) (hn : 0 < n' ∧ n' ≤ 1000) (hb : ∀ g o, a' = some ⟨g, o, none⟩ → g ≠ b) :
    Calls Try.prog 76 #[.pointer (some ⟨b, 0, none⟩), .slice a' n' c'] w (DrewOf w0 a n c b w zs) := by
  have hn1 := hn.1; have hn2 := hn.2
  have HA := hide ha; clear ha
  have HZ := hide hz
  have hzl := hide hz.1
  obtain ⟨z0, b1, o1, _, rfl, hlb, _⟩ := hz.2.2.2.2.get (k := 0) (by rw [hz.1]; exact hn1)
  have hne := hb _ _ rfl
  clear hz hb hn
  go_enter Try.func76, Try.ntmps76
  go_wp2_with fail
  refine (spec_l01Below w0 a n c b bs _ (n' : Int) HA.out hs (by omega) hC).mono ?_
  rintro e w1 ⟨x, hx0, hx1, rfl, hC1, hg1⟩
  obtain ⟨k, rfl⟩ := Int.eq_ofNat_of_zero_le hx0
  obtain ⟨z, b2, o2, hz, hb2, _, hc⟩ := HZ.out.2.2.2.2.get (k := k) (by rw [hzl.out]; omega)
  simp only [Option.some.injEq, Addr.mk.injEq, and_true] at hb2
  obtain ⟨rfl, rfl⟩ := hb2
  have e1 := (only_cell hg1 hlb hne).trans hc
  have h1 : (k : Int) < (n' : Int) := by omega
  clear hc
  go_wp2_with fail
  go_ret
  exact ⟨z, List.mem_of_getElem? hz, rfl, hC1, hg1⟩
end Go.Proofs.Ytahfbhfmhccgoaa
