/- The drawn drain and its counts: some drain, some list of at most twenty counts. -/
import Derived.Test.YtahfbhfmhccgoaaPlaces
import Derived.Test.YtahfbhfmhccgoaaDrainOk
import Derived.Deep.RegionHeld3
set_option linter.unusedSimpArgs false
set_option linter.unusedVariables false
namespace Go.Proofs.Ytahfbhfmhccgoaa
open Go.RowKit Go.ChangeShapes Go.WideShapes Go.ChangeAt Go.Joins Go.Deep
open Go.ChangeMaps (open_string shut_string)

def DrewDrain (w0 : World) (a : Option Addr) (n c b : Nat) (w : World) (e : Ending) (w' : World) : Prop :=
  ∃ (on : Bool) (lo hi : Int), e = .returned (.agg #[.bool on, .int .i64 lo, .int .i64 hi]) ∧ Cur w0 a n c b w' ∧ w.grownBy w' (some b)

theorem ints_lit (w : World) (T : TypeId) (zs : List Int) (n : Nat) (cs : Array Value) (hc : cs = (zs.map (Value.int .i64)).toArray) (hn : zs.length = n) (hm : n ≤ 1000) (hz : ∀ z ∈ zs, -9223372036854775808 ≤ z ∧ z ≤ 9223372036854775807) :
    IsInts .i64 (w.alloc (.cells cs T)) (some ⟨w.heap.size, 0, none⟩) n n zs := by
  refine ⟨hn, Nat.le_refl _, by unfold maxLen; omega, fun z h => ?_, fun i v hv => ⟨w.heap.size, 0, rfl, ?_⟩⟩
  · have := hz z h
    show (decide (IntKind.min .i64 ≤ z) && decide (z ≤ IntKind.max .i64)) = true
    rw [show IntKind.min .i64 = -9223372036854775808 from rfl, show IntKind.max .i64 = 9223372036854775807 from rfl]
    simp; exact this
  · subst hc
    simp only [World.cell?, World.alloc, Array.getElem?_push_size, Nat.zero_add, List.getElem?_toArray]; exact hv
end Go.Proofs.Ytahfbhfmhccgoaa
