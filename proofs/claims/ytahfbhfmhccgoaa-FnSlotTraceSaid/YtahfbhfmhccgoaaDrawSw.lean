/- The drawn drain and its list of counts. -/
import Derived.Test.YtahfbhfmhccgoaaDrawDrain
import Derived.Test.YtahfbhfmhccgoaaSts
set_option linter.unusedSimpArgs false
set_option linter.unusedVariables false
namespace Go.Proofs.Ytahfbhfmhccgoaa
open Go.RowKit Go.ChangeShapes Go.WideShapes Go.ChangeAt Go.Joins Go.Deep
open Go.ChangeMaps (open_string shut_string)

theorem new_cur (a : Option Addr) (n c : Nat) (bs : List Int) (w : World) (N : Nat) (hN : N ≤ w.heap.size) (ha : IsInts .u8 w a n c bs) (hs : n ≤ 1048576) :
    Calls Try.prog 63 #[.slice a n c] w fun e w' => ∃ b, e = .returned (.pointer (some ⟨b, 0, none⟩)) ∧ Cur w a n c b w' ∧ N ≤ b ∧ b < w'.heap.size ∧ Below w.heap.size w w' := by
  refine (spec_l01New a n c bs w ha hs).mono ?_
  rintro e w' ⟨b, rfl, hC, hb⟩
  have hC' := hC
  obtain ⟨_, _, _, _, hB, hwb⟩ := hC'
  exact ⟨b, rfl, hC, by omega, hb, hB⟩
theorem cur_below {w w0 w1 : World} {a : Option Addr} {n c b : Nat} (hC : Cur w0 a n c b w1) (hB : Below w.heap.size w w0) (hs : w.heap.size ≤ w0.heap.size) : Below w.heap.size w w1 := by
  obtain ⟨_, _, _, _, hB', _⟩ := hC
  exact bthen hB hB' hs
theorem cur_ints {w w0 w1 : World} {a : Option Addr} {n c b : Nat} {bs : List Int} (h : IsInts .u8 w a n c bs) (hC : Cur w0 a n c b w1) (hB : Below w.heap.size w w0) : IsInts .u8 w0 a n c bs := h.below hB (Nat.le_refl _)


/-- What the draw of a drain and of its counts leaves: at most nineteen counts, each from 0 to 8. -/
def DrewSw (w : World) (e : Ending) (w' : World) : Prop :=
  ∃ (on : Bool) (lo hi : Int) (m : Nat) (a : Option Addr) (c : Nat) (zs : List Int), e = .returned (.tuple #[.agg #[.bool on, .int .i64 lo, .int .i64 hi], .slice a m c]) ∧ w'.ownsRow w.heap.size 3 1 (.slice a m c) m (zs.map (.int .i64)) ∧ zs.length = m ∧ m ≤ 19 ∧ (∀ z ∈ zs, 0 ≤ z ∧ z ≤ 8) ∧ Below w.heap.size w w'

end Go.Proofs.Ytahfbhfmhccgoaa
