/- The twelve numbers of DrawPlaces: each from 0 to 9999. -/
import Derived.Test.YtahfbhfmhccgoaaDraw
set_option linter.unusedSimpArgs false
set_option linter.unusedVariables false
namespace Go.Proofs.Ytahfbhfmhccgoaa
open Go.RowKit Go.ChangeShapes Go.WideShapes Go.ChangeAt Go.Joins Go.Deep
open Go.ChangeMaps (open_string shut_string)

theorem own_far' {w : World} {base : Nat} {e : TypeId} {size : Nat} {v : Value} {n : Nat} {xs : List Value} {b : Nat} (h : w.ownsRow base e size v n xs) (hb : b < base) : some b ≠ v.ownBlock := by
  intro e
  have := (h.lt b e.symm).1
  omega
/-- What an append to a row of the call's own leaves of the cursor. -/
theorem Cur.grown {w0 : World} {a : Option Addr} {n c b : Nat} {w w' : World} {row : Option Nat} (h : Cur w0 a n c b w) (hg : w.grownBy w' row) (hr : ∀ k, row = some k → w0.heap.size ≤ k ∧ k ≠ b) : Cur w0 a n c b w' := by
  obtain ⟨i, x, hb, hi, hB, hwb⟩ := h
  refine ⟨i, x, ?_, hi, hB.trans ⟨hg.os, hg.tape, hg.output, hg.size, fun k hk => hg.block k (by have := lt_blk hb; omega) (fun e => by have := (hr k e.symm).1; omega)⟩, hwb⟩
  rw [hg.block b (lt_blk hb) (fun e => (hr b e.symm).2 rfl)]; exact hb

set_option maxHeartbeats 400000 in
theorem laws_big (a : Option Addr) (n c : Nat) (w : World) (hs : n ≤ 1048576) :
    Calls Try.prog 13 #[.slice a n c] w fun e w' => e = .returned (.bool false) ∧ w = w' := by
  have h1 : ¬ (1048576 : Int) < (n : Int) := by omega
  go_enter Try.func13, Try.ntmps13
  go_wp2
  go_ret
  exact ⟨rfl, rfl⟩
set_option maxHeartbeats 400000 in
theorem laws_big_yes (a : Option Addr) (n c : Nat) (w : World) (hc : c ≤ 9223372036854775807) (hn : n ≤ c) (hs : ¬ n ≤ 1048576) :
    Calls Try.prog 13 #[.slice a n c] w fun e w' => e = .returned (.bool true) ∧ w = w' := by
  have h1 : (1048576 : Int) < (n : Int) := by omega
  go_enter Try.func13, Try.ntmps13
  go_wp2
  go_ret
  exact ⟨rfl, rfl⟩

def Numbers (w : World) (m : Nat) (lo hi : Int) (e : Ending) (w' : World) : Prop :=
  ∃ (a : Option Addr) (c : Nat) (zs : List Int), e = .returned (.slice a m c) ∧ w'.ownsRow w.heap.size 3 1 (.slice a m c) m (zs.map (.int .i64)) ∧ zs.length = m ∧ (∀ z ∈ zs, lo ≤ z ∧ z ≤ hi) ∧ Below w.heap.size w w'

theorem Cur.app {w0 : World} {a : Option Addr} {n c b : Nat} {w w' : World} {base : Nat} {e : TypeId} {size m : Nat} {v : Value} {xs : List Value} {o : Obj} (h : Cur w0 a n c b w) (hown : w.ownsRow base e size v m xs) (hb : b < base) (hg : (w.alloc o).grownBy w' v.ownBlock) : Cur w0 a n c b w' := by
  refine (h.alloc o).grown hg (fun k hk => ?_)
  have := (hown.lt k hk).1
  obtain ⟨_, _, _, _, _, hwb⟩ := h
  omega
/-- What stood in a block that is no row of ours stands on behind an append. -/
theorem app_block {w w' : World} {base : Nat} {e : TypeId} {size m : Nat} {v : Value} {xs : List Value} {o : Obj} {k : Nat} {x : Option Obj} (hown : w.ownsRow base e size v m xs) (hg : (w.alloc o).grownBy w' v.ownBlock) (hk : k < base) (hl : k < w.heap.size) (h : w.heap[k]? = x) : w'.heap[k]? = x := by
  rw [hg.block k (by simp; omega) (own_far' hown hk), alloc_lt _ _ _ hl]; exact h
theorem own_made_at {w : World} {base b : Nat} {e : TypeId} {size : Nat} (hb : b = w.heap.size) (h : base ≤ w.heap.size) : (w.alloc (.cells #[] e)).ownsRow base e size (.slice (some ⟨b, 0, none⟩) 0 0) 0 [] := by
  subst hb
  exact World.ownsRow_made w #[] 0 h (by decide) (by simp)
set_option maxRecDepth 100000 in
set_option maxHeartbeats 800000 in
theorem spec_DrawPlaces (a : Option Addr) (n c : Nat) (bs : List Int) (w : World) (ha : IsInts .u8 w a n c bs) (hs : n ≤ 1048576) :
    Calls Try.prog 27 #[.slice a n c] w (Numbers w 12 0 9999) := by
  obtain ⟨i0, hi, hz0, hz1, hz2⟩ := info_parts info_int
  have HA := hide ha
  clear ha
  go_enter Try.func27, Try.ntmps27
  go_wp2_with fail
  refine (spec_l01New a n c bs w HA.out hs).mono ?_
  rintro e w1 ⟨b, rfl, hC1, hb1⟩
  go_wp2_with fail
  go_loopw [4, 5] (fun v i wr => ∃ (k : Nat) (a' : Option Addr) (c' : Nat) (zs : List Int), k ≤ 12 ∧ i = .int .i64 k ∧ v = .slice a' k c' ∧ wr.ownsRow w1.heap.size 3 1 (.slice a' k c') k (zs.map (.int .i64)) ∧ zs.length = k ∧ (∀ z ∈ zs, 0 ≤ z ∧ z ≤ 9999) ∧ Cur w a n c b wr ∧ w1.heap.size ≤ wr.heap.size) (fun _ i _ => 12 - (intOf i).toNat)
  case atStart => exact ⟨0, _, _, [], by omega, rfl, rfl, World.ownsRow_made w1 #[] 0 (Nat.le_refl _) (by decide) rfl, rfl, by simp, hC1.alloc _, by simp⟩
  case round =>
    obtain ⟨k, a', c', zs, hk, rfl, rfl, hown, hzl, hzb, hC, hsz⟩ := hrel
    have Hzl := hide hzl; have Hzb := hide hzb
    clear hzl hzb
    by_cases hlt : k < 12
    · go_wp2_with fail
      refine (spec_l01Below w a n c b bs _ 10000 HA.out hs (by omega) hC).mono ?_
      rintro e w2 ⟨x, hx0, hx1, rfl, hC2, hg2⟩
      have hown2 := hown.kept hg2 (own_ne hown hb1)
      have hs2 := hg2.size
      clear hown hC
      go_wp2_with (at_builtin; refine wpList_append_own _ rfl _ _ 46 rfl w1.heap.size 3 i0 (.int .i64 0) 1 8 Try.underlying46 hi hz0 hz1 hz2 rfl (by decide) _ _ _ rfl (hown2.alloc _) ⟨w2.heap.size, 0, none⟩ 1 1 [.int .i64 x] rfl rfl ?c1 ?c2 ?c3 ?c4 ?c5 ?_)
      case c1 =>
        intro j u hj
        match j, hj with
        | 0, hj => simp at hj; subst hj; simp [Addr.add]
      case c2 => intro u hu; simp at hu; subst hu; rfl
      case c3 => unfold maxLen; omega
      case c4 => omega
      case c5 => simp; omega
      · intro v' w3 hown3 hg3 _
        obtain ⟨a3, c3, rfl⟩ := own_shape hown3
        have hC3 := (hC2.alloc (.cells #[.int .i64 x] 3)).grown hg3 (fun k hk => by have := ((hown2.alloc (.cells #[.int .i64 x] 3)).lt k hk).1; have := hC1; obtain ⟨_, _, _, _, _, hwb⟩ := this; omega)
        have hs3 := hg3.size
        simp at hs3
        go_wp2
        go_roundw
        case rel => exact ⟨k + 1, _, _, zs ++ [x], by omega, by go_num, rfl, by simpa using hown3, by simp [Hzl.out], by intro z hz; simp at hz; rcases hz with hz | rfl; exact Hzb.out z hz; omega, hC3, by omega⟩
        case measure => simp [intOf]; omega
    · go_wp2
      go_ret
      obtain rfl : k = 12 := by omega
      obtain ⟨_, _, _, _, hB, hwb⟩ := hC
      exact ⟨_, _, zs, rfl, own_base hown (by omega), Hzl.out, Hzb.out, hB⟩
end Go.Proofs.Ytahfbhfmhccgoaa
