/- Shares of tenants: the laws' copy of a list, its comparison and its marks. -/
import Derived.Test.YtahfbhfmhccgoaaSts
import Derived.Test.YtahfbhfmhccgoaaBetween
import Derived.Deep.RegionHeld3
set_option linter.unusedSimpArgs false
set_option linter.unusedVariables false
namespace Go.Proofs.Ytahfbhfmhccgoaa
open Go.RowKit Go.ChangeShapes Go.WideShapes Go.ChangeAt Go.Joins Go.Deep
open Go.ChangeMaps (open_string shut_string)
structure Sh where
  weight : Int
  credit : Int
def shF (e : Sh) : List Value := [.int .i64 e.weight, .int .i64 e.credit]
theorem shF_len (e : Sh) : (shF e).length = 2 := rfl
theorem info_Sh : (Try.prog.info? 112).map (fun i => (i.zero, i.size, i.bytes)) = some (some (.agg #[.int .i64 0, .int .i64 0]), 2, 16) := by kernel_rfl
def markSh (k0 : Int) (i : Nat) : Sh := ⟨k0 + (i : Int) * 2, k0 + (i : Int) * 2 + 1⟩
def marksSh (k0 : Int) (n : Nat) : List Sh := (List.range n).map (markSh k0)
theorem marksSh_len (k0 : Int) (n : Nat) : (marksSh k0 n).length = n := by simp [marksSh]
theorem marksSh_at (k0 : Int) (n k : Nat) (h : k < n) : (marksSh k0 n)[k]? = some (markSh k0 k) := by simp [marksSh, List.getElem?_range h]
def MarkedSh (lo hi : Nat) (w : World) (a : Option Addr) (n c : Nat) (k0 : Int) (e : Ending) (w' : World) : Prop :=
  e = .returned (.int .i64 (k0 + (n : Int) * 2)) ∧ Owned lo hi w' 112 2 a n c ((marksSh k0 n).flatMap shF) ∧ Save lo hi w w'
end Go.Proofs.Ytahfbhfmhccgoaa
