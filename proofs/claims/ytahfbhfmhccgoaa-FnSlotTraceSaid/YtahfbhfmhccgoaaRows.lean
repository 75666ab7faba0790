/-
  No cell of these rows narrows 'for every input' (looked for: loops, veiled, ifaces, maps, wideKeys, modest, calm, conditions, laid).
  DERIVED. THE GIVEN ROWS OF THIS SEAT. 10 by the template 'for every input the law returns true; each argument reads behind the call as it read before'; 0 by the template 'total and deterministic' (their statements: YtahfbhfmhccgoaaTotals.lean).
  GIVEN WITH THE SEED: the statements are not yours to turn. If you find one false, say at which input.
  Laid BY PROGRAM, IN A SANDBOX (cutbox-rows.mjs): the forced cells as the released guide's own fill.sh prints them over the translation bec315ae601c9471… (all of the seat's roots in one cut). By AI agents, Wed Nov 11 2026. No macro, syntax, notation, axiom, sorry.
-/
import Derived.Test.YtahfbhfmhccgoaaChecked
import GoSem.Claim
import GoSem.ClaimJoined
import GoSem.ClaimMapViews
import Derived.JoinedTies
import Derived.KernelRfl
namespace Go.Proofs.Ytahfbhfmhccgoaa
/- THE CELL 'sum', in the pinned program and in every row, IS THE sha256 OF THE DUMP (.gsa) THAT YtahfbhfmhccgoaaProg.lean LOADS. Nothing in Lean hashes anything: it is a label: what it is worth is what the hold of that sum in a sandbox is worth. -/
noncomputable def Try.pinned : Pinned := { name := "ytahfbhfmhccgoaa", sum := "bec315ae601c94712e3d5d5b06f8b3e0c3d43cb0e3a34cc2d734b88e50870540", checked := Try.checked }
namespace Rows
def none {H : Type} : Left H := { results := [], args := [] }

/-- 'laws.FnLanes': WHATEVER THE INPUT: true; the input reads as it did. -/
def fnLanesSpec : ChangeSpec := { name := "fnLanes", fn := fun _ => fun
  | [d] => { results := [.lit (.bool true)], args := [d] }
  | _ => none }
def fnLanesRow : OpenClaim := { program := "ytahfbhfmhccgoaa", sum := "bec315ae601c94712e3d5d5b06f8b3e0c3d43cb0e3a34cc2d734b88e50870540", func := "loop.example/g00977/laws.FnLanes", spec := "fnLanes", apart := false }
def FnLanesSaid : Prop := fnLanesRow.holds Try.pinned (OpenSpec.ofChange fnLanesSpec)

/-- ITS FALSE NEIGHBOUR: 'it returns false'. Refute it at one input. -/
def fnLanesWrong : ChangeSpec := { name := "fnLanes", fn := fun _ => fun
  | [d] => { results := [.lit (.bool false)], args := [d] }
  | _ => none }
def FnLanesWrongFalsely : Prop := fnLanesRow.holds Try.pinned (OpenSpec.ofChange fnLanesWrong)

/-- 'laws.FnOnlyWaiting': WHATEVER THE INPUT: true; the input reads as it did. -/
def fnOnlyWaitingSpec : ChangeSpec := { name := "fnOnlyWaiting", fn := fun _ => fun
  | [d] => { results := [.lit (.bool true)], args := [d] }
  | _ => none }
def fnOnlyWaitingRow : OpenClaim := { program := "ytahfbhfmhccgoaa", sum := "bec315ae601c94712e3d5d5b06f8b3e0c3d43cb0e3a34cc2d734b88e50870540", func := "loop.example/g00977/laws.FnOnlyWaiting", spec := "fnOnlyWaiting", apart := false }
def FnOnlyWaitingSaid : Prop := fnOnlyWaitingRow.holds Try.pinned (OpenSpec.ofChange fnOnlyWaitingSpec)

/-- ITS FALSE NEIGHBOUR: 'it returns false'. Refute it at one input. -/
def fnOnlyWaitingWrong : ChangeSpec := { name := "fnOnlyWaiting", fn := fun _ => fun
  | [d] => { results := [.lit (.bool false)], args := [d] }
  | _ => none }
def FnOnlyWaitingWrongFalsely : Prop := fnOnlyWaitingRow.holds Try.pinned (OpenSpec.ofChange fnOnlyWaitingWrong)

/-- 'laws.FnChosen': WHATEVER THE INPUT: true; the input reads as it did. -/
def fnChosenSpec : ChangeSpec := { name := "fnChosen", fn := fun _ => fun
  | [d] => { results := [.lit (.bool true)], args := [d] }
  | _ => none }
def fnChosenRow : OpenClaim := { program := "ytahfbhfmhccgoaa", sum := "bec315ae601c94712e3d5d5b06f8b3e0c3d43cb0e3a34cc2d734b88e50870540", func := "loop.example/g00977/laws.FnChosen", spec := "fnChosen", apart := false }
def FnChosenSaid : Prop := fnChosenRow.holds Try.pinned (OpenSpec.ofChange fnChosenSpec)

/-- ITS FALSE NEIGHBOUR: 'it returns false'. Refute it at one input. -/
def fnChosenWrong : ChangeSpec := { name := "fnChosen", fn := fun _ => fun
  | [d] => { results := [.lit (.bool false)], args := [d] }
  | _ => none }
def FnChosenWrongFalsely : Prop := fnChosenRow.holds Try.pinned (OpenSpec.ofChange fnChosenWrong)

/-- 'laws.FnNextSlot': WHATEVER THE INPUT: true; the input reads as it did. -/
def fnNextSlotSpec : ChangeSpec := { name := "fnNextSlot", fn := fun _ => fun
  | [d] => { results := [.lit (.bool true)], args := [d] }
  | _ => none }
def fnNextSlotRow : OpenClaim := { program := "ytahfbhfmhccgoaa", sum := "bec315ae601c94712e3d5d5b06f8b3e0c3d43cb0e3a34cc2d734b88e50870540", func := "loop.example/g00977/laws.FnNextSlot", spec := "fnNextSlot", apart := false }
def FnNextSlotSaid : Prop := fnNextSlotRow.holds Try.pinned (OpenSpec.ofChange fnNextSlotSpec)

/-- ITS FALSE NEIGHBOUR: 'it returns false'. Refute it at one input. -/
def fnNextSlotWrong : ChangeSpec := { name := "fnNextSlot", fn := fun _ => fun
  | [d] => { results := [.lit (.bool false)], args := [d] }
  | _ => none }
def FnNextSlotWrongFalsely : Prop := fnNextSlotRow.holds Try.pinned (OpenSpec.ofChange fnNextSlotWrong)

/-- 'laws.FnServed': WHATEVER THE INPUT: true; the input reads as it did. -/
def fnServedSpec : ChangeSpec := { name := "fnServed", fn := fun _ => fun
  | [d] => { results := [.lit (.bool true)], args := [d] }
  | _ => none }
def fnServedRow : OpenClaim := { program := "ytahfbhfmhccgoaa", sum := "bec315ae601c94712e3d5d5b06f8b3e0c3d43cb0e3a34cc2d734b88e50870540", func := "loop.example/g00977/laws.FnServed", spec := "fnServed", apart := false }
def FnServedSaid : Prop := fnServedRow.holds Try.pinned (OpenSpec.ofChange fnServedSpec)

/-- ITS FALSE NEIGHBOUR: 'it returns false'. Refute it at one input. -/
def fnServedWrong : ChangeSpec := { name := "fnServed", fn := fun _ => fun
  | [d] => { results := [.lit (.bool false)], args := [d] }
  | _ => none }
def FnServedWrongFalsely : Prop := fnServedRow.holds Try.pinned (OpenSpec.ofChange fnServedWrong)

/-- 'laws.FnAlone': WHATEVER THE INPUT: true; the input reads as it did. -/
def fnAloneSpec : ChangeSpec := { name := "fnAlone", fn := fun _ => fun
  | [d] => { results := [.lit (.bool true)], args := [d] }
  | _ => none }
def fnAloneRow : OpenClaim := { program := "ytahfbhfmhccgoaa", sum := "bec315ae601c94712e3d5d5b06f8b3e0c3d43cb0e3a34cc2d734b88e50870540", func := "loop.example/g00977/laws.FnAlone", spec := "fnAlone", apart := false }
def FnAloneSaid : Prop := fnAloneRow.holds Try.pinned (OpenSpec.ofChange fnAloneSpec)

/-- ITS FALSE NEIGHBOUR: 'it returns false'. Refute it at one input. -/
def fnAloneWrong : ChangeSpec := { name := "fnAlone", fn := fun _ => fun
  | [d] => { results := [.lit (.bool false)], args := [d] }
  | _ => none }
def FnAloneWrongFalsely : Prop := fnAloneRow.holds Try.pinned (OpenSpec.ofChange fnAloneWrong)

/-- 'laws.FnExactServeSlots': WHATEVER THE INPUT: true; the input reads as it did. -/
def fnExactServeSlotsSpec : ChangeSpec := { name := "fnExactServeSlots", fn := fun _ => fun
  | [d1, d2, d3] => { results := [.lit (.bool true)], args := [d1, d2, d3] }
  | _ => none }
def fnExactServeSlotsRow : OpenClaim := { program := "ytahfbhfmhccgoaa", sum := "bec315ae601c94712e3d5d5b06f8b3e0c3d43cb0e3a34cc2d734b88e50870540", func := "loop.example/g00977/laws.FnExactServeSlots", spec := "fnExactServeSlots", apart := false }
def FnExactServeSlotsSaid : Prop := fnExactServeSlotsRow.holds Try.pinned (OpenSpec.ofChange fnExactServeSlotsSpec)

/-- ITS FALSE NEIGHBOUR: 'it returns false'. Refute it at one input. -/
def fnExactServeSlotsWrong : ChangeSpec := { name := "fnExactServeSlots", fn := fun _ => fun
  | [d1, d2, d3] => { results := [.lit (.bool false)], args := [d1, d2, d3] }
  | _ => none }
def FnExactServeSlotsWrongFalsely : Prop := fnExactServeSlotsRow.holds Try.pinned (OpenSpec.ofChange fnExactServeSlotsWrong)

/-- 'laws.FnSlotTrace': WHATEVER THE INPUT: true; the input reads as it did. -/
def fnSlotTraceSpec : ChangeSpec := { name := "fnSlotTrace", fn := fun _ => fun
  | [d] => { results := [.lit (.bool true)], args := [d] }
  | _ => none }
def fnSlotTraceRow : OpenClaim := { program := "ytahfbhfmhccgoaa", sum := "bec315ae601c94712e3d5d5b06f8b3e0c3d43cb0e3a34cc2d734b88e50870540", func := "loop.example/g00977/laws.FnSlotTrace", spec := "fnSlotTrace", unfollowed := true, recurses := true, apart := false }
def FnSlotTraceSaid : Prop := fnSlotTraceRow.holds Try.pinned (OpenSpec.ofChange fnSlotTraceSpec)

/-- ITS FALSE NEIGHBOUR: 'it returns false'. Refute it at one input. -/
def fnSlotTraceWrong : ChangeSpec := { name := "fnSlotTrace", fn := fun _ => fun
  | [d] => { results := [.lit (.bool false)], args := [d] }
  | _ => none }
def FnSlotTraceWrongFalsely : Prop := fnSlotTraceRow.holds Try.pinned (OpenSpec.ofChange fnSlotTraceWrong)

/-- 'laws.FnExactSlotTrace': WHATEVER THE INPUT: true; the input reads as it did. -/
def fnExactSlotTraceSpec : ChangeSpec := { name := "fnExactSlotTrace", fn := fun _ => fun
  | [d1, d2, d3, d4, d5, d6] => { results := [.lit (.bool true)], args := [d1, d2, d3, d4, d5, d6] }
  | _ => none }
def fnExactSlotTraceRow : OpenClaim := { program := "ytahfbhfmhccgoaa", sum := "bec315ae601c94712e3d5d5b06f8b3e0c3d43cb0e3a34cc2d734b88e50870540", func := "loop.example/g00977/laws.FnExactSlotTrace", spec := "fnExactSlotTrace", apart := false }
def FnExactSlotTraceSaid : Prop := fnExactSlotTraceRow.holds Try.pinned (OpenSpec.ofChange fnExactSlotTraceSpec)

/-- ITS FALSE NEIGHBOUR: 'it returns false'. Refute it at one input. -/
def fnExactSlotTraceWrong : ChangeSpec := { name := "fnExactSlotTrace", fn := fun _ => fun
  | [d1, d2, d3, d4, d5, d6] => { results := [.lit (.bool false)], args := [d1, d2, d3, d4, d5, d6] }
  | _ => none }
def FnExactSlotTraceWrongFalsely : Prop := fnExactSlotTraceRow.holds Try.pinned (OpenSpec.ofChange fnExactSlotTraceWrong)

/-- 'laws.FnWake': WHATEVER THE INPUT: true; the input reads as it did. -/
def fnWakeSpec : ChangeSpec := { name := "fnWake", fn := fun _ => fun
  | [d] => { results := [.lit (.bool true)], args := [d] }
  | _ => none }
def fnWakeRow : OpenClaim := { program := "ytahfbhfmhccgoaa", sum := "bec315ae601c94712e3d5d5b06f8b3e0c3d43cb0e3a34cc2d734b88e50870540", func := "loop.example/g00977/laws.FnWake", spec := "fnWake", apart := false }
def FnWakeSaid : Prop := fnWakeRow.holds Try.pinned (OpenSpec.ofChange fnWakeSpec)

/-- ITS FALSE NEIGHBOUR: 'it returns false'. Refute it at one input. -/
def fnWakeWrong : ChangeSpec := { name := "fnWake", fn := fun _ => fun
  | [d] => { results := [.lit (.bool false)], args := [d] }
  | _ => none }
def FnWakeWrongFalsely : Prop := fnWakeRow.holds Try.pinned (OpenSpec.ofChange fnWakeWrong)

/- THE SECOND FORM. 'bulk': how many values and letters a reading holds, each counted each time it is reached (what is shared counts as often as it is met; a slice's spare places count too). A statement '..UptoSaid' is the law's where the arguments, and the package variables that the reading takes, are together of bulk at most 1048576: NARROWER than '..Said'. Prove '..Said' where nothing that the law and all that it calls make is longer than what came in: it says more and counts as full. Else prove '..UptoSaid'. A law counts once. -/
mutual
def uptoBulk {H : Type} : DataW H → Nat
  | .lit (.string bytes) => bytes.length + 1
  | .lit _ => 1
  | .nil => 1
  | .ptr d => uptoBulk d + 1
  | .slice elems spare => uptoBulkAll elems + uptoBulkAll spare + 1
  | .agg parts => uptoBulkAll parts + 1
  | .iface _ d => uptoBulk d + 1
  | .map entries => uptoBulkEntries entries + 1
  | .held _ => 1
def uptoBulkAll {H : Type} : List (DataW H) → Nat
  | [] => 0
  | d :: r => uptoBulk d + uptoBulkAll r
def uptoBulkEntries {H : Type} : List (Lit × DataW H) → Nat
  | [] => 0
  | x :: r => uptoBulkEntry x + uptoBulkEntries r
def uptoBulkEntry {H : Type} : Lit × DataW H → Nat
  | (.string bytes, d) => bytes.length + uptoBulk d + 1
  | (_, d) => uptoBulk d + 1
 end
def uptoSmall : (H : Type) → List (DataW H) → Bool := fun _ ds => decide (uptoBulkAll ds ≤ 1048576)
def OpenSpec.upto (s : _root_.Go.ChangeSpec) : _root_.Go.OpenSpec := { _root_.Go.OpenSpec.ofChange s with cond := some uptoSmall }

/-- 'laws.FnLanes', WHERE WHAT IT READS IS OF BULK AT MOST 1048576: true; the input reads as it did. -/
def fnLanesUptoRow : OpenClaim := { program := "ytahfbhfmhccgoaa", sum := "bec315ae601c94712e3d5d5b06f8b3e0c3d43cb0e3a34cc2d734b88e50870540", func := "loop.example/g00977/laws.FnLanes", spec := "fnLanes", apart := false, narrowed := true }
def FnLanesUptoSaid : Prop := fnLanesUptoRow.holds Try.pinned (OpenSpec.upto fnLanesSpec)

/-- 'laws.FnOnlyWaiting', WHERE WHAT IT READS IS OF BULK AT MOST 1048576: true; the input reads as it did. -/
def fnOnlyWaitingUptoRow : OpenClaim := { program := "ytahfbhfmhccgoaa", sum := "bec315ae601c94712e3d5d5b06f8b3e0c3d43cb0e3a34cc2d734b88e50870540", func := "loop.example/g00977/laws.FnOnlyWaiting", spec := "fnOnlyWaiting", apart := false, narrowed := true }
def FnOnlyWaitingUptoSaid : Prop := fnOnlyWaitingUptoRow.holds Try.pinned (OpenSpec.upto fnOnlyWaitingSpec)

/-- 'laws.FnChosen', WHERE WHAT IT READS IS OF BULK AT MOST 1048576: true; the input reads as it did. -/
def fnChosenUptoRow : OpenClaim := { program := "ytahfbhfmhccgoaa", sum := "bec315ae601c94712e3d5d5b06f8b3e0c3d43cb0e3a34cc2d734b88e50870540", func := "loop.example/g00977/laws.FnChosen", spec := "fnChosen", apart := false, narrowed := true }
def FnChosenUptoSaid : Prop := fnChosenUptoRow.holds Try.pinned (OpenSpec.upto fnChosenSpec)

/-- 'laws.FnNextSlot', WHERE WHAT IT READS IS OF BULK AT MOST 1048576: true; the input reads as it did. -/
def fnNextSlotUptoRow : OpenClaim := { program := "ytahfbhfmhccgoaa", sum := "bec315ae601c94712e3d5d5b06f8b3e0c3d43cb0e3a34cc2d734b88e50870540", func := "loop.example/g00977/laws.FnNextSlot", spec := "fnNextSlot", apart := false, narrowed := true }
def FnNextSlotUptoSaid : Prop := fnNextSlotUptoRow.holds Try.pinned (OpenSpec.upto fnNextSlotSpec)

/-- 'laws.FnServed', WHERE WHAT IT READS IS OF BULK AT MOST 1048576: true; the input reads as it did. -/
def fnServedUptoRow : OpenClaim := { program := "ytahfbhfmhccgoaa", sum := "bec315ae601c94712e3d5d5b06f8b3e0c3d43cb0e3a34cc2d734b88e50870540", func := "loop.example/g00977/laws.FnServed", spec := "fnServed", apart := false, narrowed := true }
def FnServedUptoSaid : Prop := fnServedUptoRow.holds Try.pinned (OpenSpec.upto fnServedSpec)

/-- 'laws.FnAlone', WHERE WHAT IT READS IS OF BULK AT MOST 1048576: true; the input reads as it did. -/
def fnAloneUptoRow : OpenClaim := { program := "ytahfbhfmhccgoaa", sum := "bec315ae601c94712e3d5d5b06f8b3e0c3d43cb0e3a34cc2d734b88e50870540", func := "loop.example/g00977/laws.FnAlone", spec := "fnAlone", apart := false, narrowed := true }
def FnAloneUptoSaid : Prop := fnAloneUptoRow.holds Try.pinned (OpenSpec.upto fnAloneSpec)

/-- 'laws.FnExactServeSlots', WHERE WHAT IT READS IS OF BULK AT MOST 1048576: true; the input reads as it did. -/
def fnExactServeSlotsUptoRow : OpenClaim := { program := "ytahfbhfmhccgoaa", sum := "bec315ae601c94712e3d5d5b06f8b3e0c3d43cb0e3a34cc2d734b88e50870540", func := "loop.example/g00977/laws.FnExactServeSlots", spec := "fnExactServeSlots", apart := false, narrowed := true }
def FnExactServeSlotsUptoSaid : Prop := fnExactServeSlotsUptoRow.holds Try.pinned (OpenSpec.upto fnExactServeSlotsSpec)

/-- 'laws.FnSlotTrace', WHERE WHAT IT READS IS OF BULK AT MOST 1048576: true; the input reads as it did. -/
def fnSlotTraceUptoRow : OpenClaim := { program := "ytahfbhfmhccgoaa", sum := "bec315ae601c94712e3d5d5b06f8b3e0c3d43cb0e3a34cc2d734b88e50870540", func := "loop.example/g00977/laws.FnSlotTrace", spec := "fnSlotTrace", unfollowed := true, recurses := true, apart := false, narrowed := true }
def FnSlotTraceUptoSaid : Prop := fnSlotTraceUptoRow.holds Try.pinned (OpenSpec.upto fnSlotTraceSpec)

/-- 'laws.FnExactSlotTrace', WHERE WHAT IT READS IS OF BULK AT MOST 1048576: true; the input reads as it did. -/
def fnExactSlotTraceUptoRow : OpenClaim := { program := "ytahfbhfmhccgoaa", sum := "bec315ae601c94712e3d5d5b06f8b3e0c3d43cb0e3a34cc2d734b88e50870540", func := "loop.example/g00977/laws.FnExactSlotTrace", spec := "fnExactSlotTrace", apart := false, narrowed := true }
def FnExactSlotTraceUptoSaid : Prop := fnExactSlotTraceUptoRow.holds Try.pinned (OpenSpec.upto fnExactSlotTraceSpec)

/-- 'laws.FnWake', WHERE WHAT IT READS IS OF BULK AT MOST 1048576: true; the input reads as it did. -/
def fnWakeUptoRow : OpenClaim := { program := "ytahfbhfmhccgoaa", sum := "bec315ae601c94712e3d5d5b06f8b3e0c3d43cb0e3a34cc2d734b88e50870540", func := "loop.example/g00977/laws.FnWake", spec := "fnWake", apart := false, narrowed := true }
def FnWakeUptoSaid : Prop := fnWakeUptoRow.holds Try.pinned (OpenSpec.upto fnWakeSpec)

end Rows
end Go.Proofs.Ytahfbhfmhccgoaa
