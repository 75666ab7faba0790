/- The twelve numbers of DrawPlaces: each from 0 to 9999. -/
import Derived.Test.YtlaoeaecbdmebaaDraw
set_option linter.unusedSimpArgs false
set_option linter.unusedVariables false
namespace Go.Proofs.Ytlaoeaecbdmebaa
open Go.RowKit Go.ChangeShapes Go.WideShapes Go.ChangeAt Go.Joins Go.Deep
open Go.ChangeMaps (open_string shut_string)

theorem own_far' {w : World} {base : Nat} {e : TypeId} {size : Nat} {v : Value} {n : Nat} {xs : List Value} {b : Nat} (h : w.ownsRow base e size v n xs) (hb : b < base) : some b ≠ v.ownBlock := by
  intro e
  have := (h.lt b e.symm).1
  omega
/-- What an append to a row of the call's own leaves of the cursor. -/
theorem Cur.grown {w0 : World} {a : Option Addr} {n c b : Nat} {w w' : World} {row : Option Nat} (h : Cur w0 a n c b w) (hg : w.grownBy w' row) (hr : ∀ k, row = some k → w0.heap.size ≤ k ∧ k ≠ b) : Cur w0 a n c b w' := by
  obtain ⟨i, x, hb, hi, hB, hwb⟩ := h
  refine ⟨i, x, ?_, hi, hB.trans ⟨hg.os, hg.tape, hg.output, hg.size, fun k hk => hg.block k (by have := lt_blk hb; omega) (fun e => by have := (hr k e.symm).1; omega)⟩, hwb⟩
  rw [hg.block b (lt_blk hb) (fun e => (hr b e.symm).2 rfl)]; exact hb

set_option maxHeartbeats 400000 in
theorem laws_big (a : Option Addr) (n c : Nat) (w : World) (hs : n ≤ 1048576) :
    Calls Try.prog 15 #[.slice a n c] w fun e w' => e = .returned (.bool false) ∧ w = w' := by
  have h1 : ¬ (1048576 : Int) < (n : Int) := by omega
  go_enter Try.func15, Try.ntmps15
  go_wp2
  go_ret
  exact ⟨rfl, rfl⟩
set_option maxHeartbeats 400000 in
theorem laws_big_yes (a : Option Addr) (n c : Nat) (w : World) (hc : c ≤ 9223372036854775807) (hn : n ≤ c) (hs : ¬ n ≤ 1048576) :
    Calls Try.prog 15 #[.slice a n c] w fun e w' => e = .returned (.bool true) ∧ w = w' := by
  have h1 : (1048576 : Int) < (n : Int) := by omega
  go_enter Try.func15, Try.ntmps15
  go_wp2
  go_ret
  exact ⟨rfl, rfl⟩

def Numbers (w : World) (m : Nat) (lo hi : Int) (e : Ending) (w' : World) : Prop :=
  ∃ (a : Option Addr) (c : Nat) (zs : List Int), e = .returned (.slice a m c) ∧ w'.ownsRow w.heap.size 3 1 (.slice a m c) m (zs.map (.int .i64)) ∧ zs.length = m ∧ (∀ z ∈ zs, lo ≤ z ∧ z ≤ hi) ∧ Below w.heap.size w w'

theorem Cur.app {w0 : World} {a : Option Addr} {n c b : Nat} {w w' : World} {base : Nat} {e : TypeId} {size m : Nat} {v : Value} {xs : List Value} {o : Obj} (h : Cur w0 a n c b w) (hown : w.ownsRow base e size v m xs) (hb : b < base) (hg : (w.alloc o).grownBy w' v.ownBlock) : Cur w0 a n c b w' := by
  refine (h.alloc o).grown hg (fun k hk => ?_)
  have := (hown.lt k hk).1
  obtain ⟨_, _, _, _, _, hwb⟩ := h
  omega
/-- What stood in a block that is no row of ours stands on behind an append. -/
theorem app_block {w w' : World} {base : Nat} {e : TypeId} {size m : Nat} {v : Value} {xs : List Value} {o : Obj} {k : Nat} {x : Option Obj} (hown : w.ownsRow base e size v m xs) (hg : (w.alloc o).grownBy w' v.ownBlock) (hk : k < base) (hl : k < w.heap.size) (h : w.heap[k]? = x) : w'.heap[k]? = x := by
  rw [hg.block k (by simp; omega) (own_far' hown hk), alloc_lt _ _ _ hl]; exact h
theorem own_made_at {w : World} {base b : Nat} {e : TypeId} {size : Nat} (hb : b = w.heap.size) (h : base ≤ w.heap.size) : (w.alloc (.cells #[] e)).ownsRow base e size (.slice (some ⟨b, 0, none⟩) 0 0) 0 [] := by
  subst hb
  exact World.ownsRow_made w #[] 0 h (by decide) (by simp)
end Go.Proofs.Ytlaoeaecbdmebaa
