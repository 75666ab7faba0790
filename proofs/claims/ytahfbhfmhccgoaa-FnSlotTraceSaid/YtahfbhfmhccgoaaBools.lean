/- Slices of bools: the laws' copy of an argument, their comparison, and the marks that show that memory is not shared. -/
import Derived.Test.YtahfbhfmhccgoaaCommon
set_option linter.unusedSimpArgs false
set_option linter.unusedVariables false
namespace Go.Proofs.Ytahfbhfmhccgoaa
open Go.RowKit Go.ChangeShapes Go.WideShapes Go.ChangeAt Go.Joins Go.Deep
open Go.ChangeMaps (open_string shut_string)

theorem getB_lt {zs : List Bool} {i : Nat} (h : i < zs.length) : (zs.map Value.bool)[i]? = some (.bool (zs[i])) := by simp [h]
theorem IsBools.below {w w' : World} {a : Option Addr} {n c : Nat} {zs : List Bool} {B : Nat} (h : IsBools w a n c zs) (hb : Below B w w') (hB : w.heap.size ≤ B) : IsBools w' a n c zs :=
  ⟨h.1, h.2.1, h.2.2.1, h.2.2.2.below hb hB⟩
theorem isBools_own {w : World} {B : Nat} {E : TypeId} {a : Option Addr} {n c : Nat} {zs : List Bool} (h : w.ownsRow B E 1 (.slice a n c) n (zs.map Value.bool)) : IsBools w a n c zs := by
  obtain ⟨a', c', e, hl, hn, hc, hr⟩ := rowIn_own h
  injection e with e1 e2 e3
  subst e1 e3
  exact ⟨by simpa using hl, hn, hc, hr⟩

theorem info_bool : (Try.prog.info? 4).map (fun i => (i.zero, i.size, i.bytes)) = some (some (.bool false), 1, 1) := by kernel_rfl

def markB (k0 : Int) (n : Nat) : List Bool := (List.range n).map fun (i : Nat) => ((k0 + (i : Int)) % 3 == 0)
theorem markB_len (k0 : Int) (n : Nat) : (markB k0 n).length = n := by simp [markB]
theorem markB_at (k0 : Int) (n k : Nat) (h : k < n) : (markB k0 n)[k]? = some ((k0 + (k : Int)) % 3 == 0) := by simp [markB, List.getElem?_range h]

def MarkedB (lo hi : Nat) (w : World) (a : Option Addr) (n c : Nat) (k0 : Int) (e : Ending) (w' : World) : Prop :=
  e = .returned (.int .i64 (k0 + n)) ∧ Owned lo hi w' 4 1 a n c ((markB k0 n).map Value.bool) ∧ Save lo hi w w'

end Go.Proofs.Ytahfbhfmhccgoaa
