/-
  No cell of these rows narrows 'for every input' (looked for: loops, veiled, ifaces, maps, wideKeys, modest, calm, conditions, laid).
  DERIVED. THE GIVEN ROWS OF THIS SEAT. 12 by the template 'for every input the law returns true; each argument reads behind the call as it read before'; 0 by the template 'total and deterministic' (their statements: YtlkameobhmccmaaTotals.lean).
  GIVEN WITH THE SEED: the statements are not yours to turn. If you find one false, say at which input.
  Laid BY PROGRAM, IN A SANDBOX (cutbox-rows.mjs): the forced cells as the released guide's own fill.sh prints them over the translation c706ea09079d5e56… (all of the seat's roots in one cut). By AI agents, Wed Nov 11 2026. No macro, syntax, notation, axiom, sorry.
-/
import Derived.Test.YtlkameobhmccmaaChecked
import GoSem.Claim
import GoSem.ClaimJoined
import GoSem.ClaimMapViews
import Derived.JoinedTies
import Derived.KernelRfl
namespace Go.Proofs.Ytlkameobhmccmaa
/- THE CELL 'sum', in the pinned program and in every row, IS THE sha256 OF THE DUMP (.gsa) THAT YtlkameobhmccmaaProg.lean LOADS. Nothing in Lean hashes anything: it is a label: what it is worth is what the hold of that sum in a sandbox is worth. -/
noncomputable def Try.pinned : Pinned := { name := "ytlkameobhmccmaa", sum := "c706ea09079d5e563fca3e892e79f6534a939360cc7c6c23b22a49266975dfac", checked := Try.checked }
namespace Rows
def none {H : Type} : Left H := { results := [], args := [] }

/-- 'laws.FnExactSlotsOk': WHATEVER THE INPUT: true; the input reads as it did. -/
def fnExactSlotsOkSpec : ChangeSpec := { name := "fnExactSlotsOk", fn := fun _ => fun
  | [d] => { results := [.lit (.bool true)], args := [d] }
  | _ => none }
def fnExactSlotsOkRow : OpenClaim := { program := "ytlkameobhmccmaa", sum := "c706ea09079d5e563fca3e892e79f6534a939360cc7c6c23b22a49266975dfac", func := "loop.example/g00977/laws.FnExactSlotsOk", spec := "fnExactSlotsOk", apart := false }
def FnExactSlotsOkSaid : Prop := fnExactSlotsOkRow.holds Try.pinned (OpenSpec.ofChange fnExactSlotsOkSpec)

/-- ITS FALSE NEIGHBOUR: 'it returns false'. Refute it at one input. -/
def fnExactSlotsOkWrong : ChangeSpec := { name := "fnExactSlotsOk", fn := fun _ => fun
  | [d] => { results := [.lit (.bool false)], args := [d] }
  | _ => none }
def FnExactSlotsOkWrongFalsely : Prop := fnExactSlotsOkRow.holds Try.pinned (OpenSpec.ofChange fnExactSlotsOkWrong)

/-- 'laws.FnExactOwnerAt': WHATEVER THE INPUT: true; the input reads as it did. -/
def fnExactOwnerAtSpec : ChangeSpec := { name := "fnExactOwnerAt", fn := fun _ => fun
  | [d1, d2] => { results := [.lit (.bool true)], args := [d1, d2] }
  | _ => none }
def fnExactOwnerAtRow : OpenClaim := { program := "ytlkameobhmccmaa", sum := "c706ea09079d5e563fca3e892e79f6534a939360cc7c6c23b22a49266975dfac", func := "loop.example/g00977/laws.FnExactOwnerAt", spec := "fnExactOwnerAt", apart := false }
def FnExactOwnerAtSaid : Prop := fnExactOwnerAtRow.holds Try.pinned (OpenSpec.ofChange fnExactOwnerAtSpec)

/-- ITS FALSE NEIGHBOUR: 'it returns false'. Refute it at one input. -/
def fnExactOwnerAtWrong : ChangeSpec := { name := "fnExactOwnerAt", fn := fun _ => fun
  | [d1, d2] => { results := [.lit (.bool false)], args := [d1, d2] }
  | _ => none }
def FnExactOwnerAtWrongFalsely : Prop := fnExactOwnerAtRow.holds Try.pinned (OpenSpec.ofChange fnExactOwnerAtWrong)

/-- 'laws.FnExactWakeTime': WHATEVER THE INPUT: true; the input reads as it did. -/
def fnExactWakeTimeSpec : ChangeSpec := { name := "fnExactWakeTime", fn := fun _ => fun
  | [d1, d2, d3] => { results := [.lit (.bool true)], args := [d1, d2, d3] }
  | _ => none }
def fnExactWakeTimeRow : OpenClaim := { program := "ytlkameobhmccmaa", sum := "c706ea09079d5e563fca3e892e79f6534a939360cc7c6c23b22a49266975dfac", func := "loop.example/g00977/laws.FnExactWakeTime", spec := "fnExactWakeTime", apart := false }
def FnExactWakeTimeSaid : Prop := fnExactWakeTimeRow.holds Try.pinned (OpenSpec.ofChange fnExactWakeTimeSpec)

/-- ITS FALSE NEIGHBOUR: 'it returns false'. Refute it at one input. -/
def fnExactWakeTimeWrong : ChangeSpec := { name := "fnExactWakeTime", fn := fun _ => fun
  | [d1, d2, d3] => { results := [.lit (.bool false)], args := [d1, d2, d3] }
  | _ => none }
def FnExactWakeTimeWrongFalsely : Prop := fnExactWakeTimeRow.holds Try.pinned (OpenSpec.ofChange fnExactWakeTimeWrong)

/-- 'laws.FnExactErrorsOk': WHATEVER THE INPUT: true; the input reads as it did. -/
def fnExactErrorsOkSpec : ChangeSpec := { name := "fnExactErrorsOk", fn := fun _ => fun
  | [d] => { results := [.lit (.bool true)], args := [d] }
  | _ => none }
def fnExactErrorsOkRow : OpenClaim := { program := "ytlkameobhmccmaa", sum := "c706ea09079d5e563fca3e892e79f6534a939360cc7c6c23b22a49266975dfac", func := "loop.example/g00977/laws.FnExactErrorsOk", spec := "fnExactErrorsOk", apart := false }
def FnExactErrorsOkSaid : Prop := fnExactErrorsOkRow.holds Try.pinned (OpenSpec.ofChange fnExactErrorsOkSpec)

/-- ITS FALSE NEIGHBOUR: 'it returns false'. Refute it at one input. -/
def fnExactErrorsOkWrong : ChangeSpec := { name := "fnExactErrorsOk", fn := fun _ => fun
  | [d] => { results := [.lit (.bool false)], args := [d] }
  | _ => none }
def FnExactErrorsOkWrongFalsely : Prop := fnExactErrorsOkRow.holds Try.pinned (OpenSpec.ofChange fnExactErrorsOkWrong)

/-- 'laws.FnExactNextSlot': WHATEVER THE INPUT: true; the input reads as it did. -/
def fnExactNextSlotSpec : ChangeSpec := { name := "fnExactNextSlot", fn := fun _ => fun
  | [d1, d2, d3] => { results := [.lit (.bool true)], args := [d1, d2, d3] }
  | _ => none }
def fnExactNextSlotRow : OpenClaim := { program := "ytlkameobhmccmaa", sum := "c706ea09079d5e563fca3e892e79f6534a939360cc7c6c23b22a49266975dfac", func := "loop.example/g00977/laws.FnExactNextSlot", spec := "fnExactNextSlot", apart := false }
def FnExactNextSlotSaid : Prop := fnExactNextSlotRow.holds Try.pinned (OpenSpec.ofChange fnExactNextSlotSpec)

/-- ITS FALSE NEIGHBOUR: 'it returns false'. Refute it at one input. -/
def fnExactNextSlotWrong : ChangeSpec := { name := "fnExactNextSlot", fn := fun _ => fun
  | [d1, d2, d3] => { results := [.lit (.bool false)], args := [d1, d2, d3] }
  | _ => none }
def FnExactNextSlotWrongFalsely : Prop := fnExactNextSlotRow.holds Try.pinned (OpenSpec.ofChange fnExactNextSlotWrong)

/-- 'laws.FnExactKeepTenant': WHATEVER THE INPUT: true; the input reads as it did. -/
def fnExactKeepTenantSpec : ChangeSpec := { name := "fnExactKeepTenant", fn := fun _ => fun
  | [d1, d2] => { results := [.lit (.bool true)], args := [d1, d2] }
  | _ => none }
def fnExactKeepTenantRow : OpenClaim := { program := "ytlkameobhmccmaa", sum := "c706ea09079d5e563fca3e892e79f6534a939360cc7c6c23b22a49266975dfac", func := "loop.example/g00977/laws.FnExactKeepTenant", spec := "fnExactKeepTenant", apart := false }
def FnExactKeepTenantSaid : Prop := fnExactKeepTenantRow.holds Try.pinned (OpenSpec.ofChange fnExactKeepTenantSpec)

/-- ITS FALSE NEIGHBOUR: 'it returns false'. Refute it at one input. -/
def fnExactKeepTenantWrong : ChangeSpec := { name := "fnExactKeepTenant", fn := fun _ => fun
  | [d1, d2] => { results := [.lit (.bool false)], args := [d1, d2] }
  | _ => none }
def FnExactKeepTenantWrongFalsely : Prop := fnExactKeepTenantRow.holds Try.pinned (OpenSpec.ofChange fnExactKeepTenantWrong)

/-- 'laws.FnExactChooseRequest': WHATEVER THE INPUT: true; the input reads as it did. -/
def fnExactChooseRequestSpec : ChangeSpec := { name := "fnExactChooseRequest", fn := fun _ => fun
  | [d1, d2, d3, d4, d5] => { results := [.lit (.bool true)], args := [d1, d2, d3, d4, d5] }
  | _ => none }
def fnExactChooseRequestRow : OpenClaim := { program := "ytlkameobhmccmaa", sum := "c706ea09079d5e563fca3e892e79f6534a939360cc7c6c23b22a49266975dfac", func := "loop.example/g00977/laws.FnExactChooseRequest", spec := "fnExactChooseRequest", apart := false }
def FnExactChooseRequestSaid : Prop := fnExactChooseRequestRow.holds Try.pinned (OpenSpec.ofChange fnExactChooseRequestSpec)

/-- ITS FALSE NEIGHBOUR: 'it returns false'. Refute it at one input. -/
def fnExactChooseRequestWrong : ChangeSpec := { name := "fnExactChooseRequest", fn := fun _ => fun
  | [d1, d2, d3, d4, d5] => { results := [.lit (.bool false)], args := [d1, d2, d3, d4, d5] }
  | _ => none }
def FnExactChooseRequestWrongFalsely : Prop := fnExactChooseRequestRow.holds Try.pinned (OpenSpec.ofChange fnExactChooseRequestWrong)

/-- 'laws.FnNextSlot': WHATEVER THE INPUT: true; the input reads as it did. -/
def fnNextSlotSpec : ChangeSpec := { name := "fnNextSlot", fn := fun _ => fun
  | [d] => { results := [.lit (.bool true)], args := [d] }
  | _ => none }
def fnNextSlotRow : OpenClaim := { program := "ytlkameobhmccmaa", sum := "c706ea09079d5e563fca3e892e79f6534a939360cc7c6c23b22a49266975dfac", func := "loop.example/g00977/laws.FnNextSlot", spec := "fnNextSlot", apart := false }
def FnNextSlotSaid : Prop := fnNextSlotRow.holds Try.pinned (OpenSpec.ofChange fnNextSlotSpec)

/-- ITS FALSE NEIGHBOUR: 'it returns false'. Refute it at one input. -/
def fnNextSlotWrong : ChangeSpec := { name := "fnNextSlot", fn := fun _ => fun
  | [d] => { results := [.lit (.bool false)], args := [d] }
  | _ => none }
def FnNextSlotWrongFalsely : Prop := fnNextSlotRow.holds Try.pinned (OpenSpec.ofChange fnNextSlotWrong)

/-- 'laws.FnServed': WHATEVER THE INPUT: true; the input reads as it did. -/
def fnServedSpec : ChangeSpec := { name := "fnServed", fn := fun _ => fun
  | [d] => { results := [.lit (.bool true)], args := [d] }
  | _ => none }
def fnServedRow : OpenClaim := { program := "ytlkameobhmccmaa", sum := "c706ea09079d5e563fca3e892e79f6534a939360cc7c6c23b22a49266975dfac", func := "loop.example/g00977/laws.FnServed", spec := "fnServed", apart := false }
def FnServedSaid : Prop := fnServedRow.holds Try.pinned (OpenSpec.ofChange fnServedSpec)

/-- ITS FALSE NEIGHBOUR: 'it returns false'. Refute it at one input. -/
def fnServedWrong : ChangeSpec := { name := "fnServed", fn := fun _ => fun
  | [d] => { results := [.lit (.bool false)], args := [d] }
  | _ => none }
def FnServedWrongFalsely : Prop := fnServedRow.holds Try.pinned (OpenSpec.ofChange fnServedWrong)

/-- 'laws.FnChosen': WHATEVER THE INPUT: true; the input reads as it did. -/
def fnChosenSpec : ChangeSpec := { name := "fnChosen", fn := fun _ => fun
  | [d] => { results := [.lit (.bool true)], args := [d] }
  | _ => none }
def fnChosenRow : OpenClaim := { program := "ytlkameobhmccmaa", sum := "c706ea09079d5e563fca3e892e79f6534a939360cc7c6c23b22a49266975dfac", func := "loop.example/g00977/laws.FnChosen", spec := "fnChosen", apart := false }
def FnChosenSaid : Prop := fnChosenRow.holds Try.pinned (OpenSpec.ofChange fnChosenSpec)

/-- ITS FALSE NEIGHBOUR: 'it returns false'. Refute it at one input. -/
def fnChosenWrong : ChangeSpec := { name := "fnChosen", fn := fun _ => fun
  | [d] => { results := [.lit (.bool false)], args := [d] }
  | _ => none }
def FnChosenWrongFalsely : Prop := fnChosenRow.holds Try.pinned (OpenSpec.ofChange fnChosenWrong)

/-- 'laws.FnAlone': WHATEVER THE INPUT: true; the input reads as it did. -/
def fnAloneSpec : ChangeSpec := { name := "fnAlone", fn := fun _ => fun
  | [d] => { results := [.lit (.bool true)], args := [d] }
  | _ => none }
def fnAloneRow : OpenClaim := { program := "ytlkameobhmccmaa", sum := "c706ea09079d5e563fca3e892e79f6534a939360cc7c6c23b22a49266975dfac", func := "loop.example/g00977/laws.FnAlone", spec := "fnAlone", apart := false }
def FnAloneSaid : Prop := fnAloneRow.holds Try.pinned (OpenSpec.ofChange fnAloneSpec)

/-- ITS FALSE NEIGHBOUR: 'it returns false'. Refute it at one input. -/
def fnAloneWrong : ChangeSpec := { name := "fnAlone", fn := fun _ => fun
  | [d] => { results := [.lit (.bool false)], args := [d] }
  | _ => none }
def FnAloneWrongFalsely : Prop := fnAloneRow.holds Try.pinned (OpenSpec.ofChange fnAloneWrong)

/-- 'laws.FnExactServeSlots': WHATEVER THE INPUT: true; the input reads as it did. -/
def fnExactServeSlotsSpec : ChangeSpec := { name := "fnExactServeSlots", fn := fun _ => fun
  | [d1, d2, d3] => { results := [.lit (.bool true)], args := [d1, d2, d3] }
  | _ => none }
def fnExactServeSlotsRow : OpenClaim := { program := "ytlkameobhmccmaa", sum := "c706ea09079d5e563fca3e892e79f6534a939360cc7c6c23b22a49266975dfac", func := "loop.example/g00977/laws.FnExactServeSlots", spec := "fnExactServeSlots", apart := false }
def FnExactServeSlotsSaid : Prop := fnExactServeSlotsRow.holds Try.pinned (OpenSpec.ofChange fnExactServeSlotsSpec)

/-- ITS FALSE NEIGHBOUR: 'it returns false'. Refute it at one input. -/
def fnExactServeSlotsWrong : ChangeSpec := { name := "fnExactServeSlots", fn := fun _ => fun
  | [d1, d2, d3] => { results := [.lit (.bool false)], args := [d1, d2, d3] }
  | _ => none }
def FnExactServeSlotsWrongFalsely : Prop := fnExactServeSlotsRow.holds Try.pinned (OpenSpec.ofChange fnExactServeSlotsWrong)

/- THE SECOND FORM. 'bulk': how many values and letters a reading holds, each counted each time it is reached (what is shared counts as often as it is met; a slice's spare places count too). A statement '..UptoSaid' is the law's where the arguments, and the package variables that the reading takes, are together of bulk at most 1048576: NARROWER than '..Said'. Prove '..Said' where nothing that the law and all that it calls make is longer than what came in: it says more and counts as full. Else prove '..UptoSaid'. A law counts once. -/
mutual
def uptoBulk {H : Type} : DataW H → Nat
  | .lit (.string bytes) => bytes.length + 1
  | .lit _ => 1
  | .nil => 1
  | .ptr d => uptoBulk d + 1
  | .slice elems spare => uptoBulkAll elems + uptoBulkAll spare + 1
  | .agg parts => uptoBulkAll parts + 1
  | .iface _ d => uptoBulk d + 1
  | .map entries => uptoBulkEntries entries + 1
  | .held _ => 1
def uptoBulkAll {H : Type} : List (DataW H) → Nat
  | [] => 0
  | d :: r => uptoBulk d + uptoBulkAll r
def uptoBulkEntries {H : Type} : List (Lit × DataW H) → Nat
  | [] => 0
  | x :: r => uptoBulkEntry x + uptoBulkEntries r
def uptoBulkEntry {H : Type} : Lit × DataW H → Nat
  | (.string bytes, d) => bytes.length + uptoBulk d + 1
  | (_, d) => uptoBulk d + 1
 end
def uptoSmall : (H : Type) → List (DataW H) → Bool := fun _ ds => decide (uptoBulkAll ds ≤ 1048576)
def OpenSpec.upto (s : _root_.Go.ChangeSpec) : _root_.Go.OpenSpec := { _root_.Go.OpenSpec.ofChange s with cond := some uptoSmall }

/-- 'laws.FnExactSlotsOk', WHERE WHAT IT READS IS OF BULK AT MOST 1048576: true; the input reads as it did. -/
def fnExactSlotsOkUptoRow : OpenClaim := { program := "ytlkameobhmccmaa", sum := "c706ea09079d5e563fca3e892e79f6534a939360cc7c6c23b22a49266975dfac", func := "loop.example/g00977/laws.FnExactSlotsOk", spec := "fnExactSlotsOk", apart := false, narrowed := true }
def FnExactSlotsOkUptoSaid : Prop := fnExactSlotsOkUptoRow.holds Try.pinned (OpenSpec.upto fnExactSlotsOkSpec)

/-- 'laws.FnExactOwnerAt', WHERE WHAT IT READS IS OF BULK AT MOST 1048576: true; the input reads as it did. -/
def fnExactOwnerAtUptoRow : OpenClaim := { program := "ytlkameobhmccmaa", sum := "c706ea09079d5e563fca3e892e79f6534a939360cc7c6c23b22a49266975dfac", func := "loop.example/g00977/laws.FnExactOwnerAt", spec := "fnExactOwnerAt", apart := false, narrowed := true }
def FnExactOwnerAtUptoSaid : Prop := fnExactOwnerAtUptoRow.holds Try.pinned (OpenSpec.upto fnExactOwnerAtSpec)

/-- 'laws.FnExactWakeTime', WHERE WHAT IT READS IS OF BULK AT MOST 1048576: true; the input reads as it did. -/
def fnExactWakeTimeUptoRow : OpenClaim := { program := "ytlkameobhmccmaa", sum := "c706ea09079d5e563fca3e892e79f6534a939360cc7c6c23b22a49266975dfac", func := "loop.example/g00977/laws.FnExactWakeTime", spec := "fnExactWakeTime", apart := false, narrowed := true }
def FnExactWakeTimeUptoSaid : Prop := fnExactWakeTimeUptoRow.holds Try.pinned (OpenSpec.upto fnExactWakeTimeSpec)

/-- 'laws.FnExactErrorsOk', WHERE WHAT IT READS IS OF BULK AT MOST 1048576: true; the input reads as it did. -/
def fnExactErrorsOkUptoRow : OpenClaim := { program := "ytlkameobhmccmaa", sum := "c706ea09079d5e563fca3e892e79f6534a939360cc7c6c23b22a49266975dfac", func := "loop.example/g00977/laws.FnExactErrorsOk", spec := "fnExactErrorsOk", apart := false, narrowed := true }
def FnExactErrorsOkUptoSaid : Prop := fnExactErrorsOkUptoRow.holds Try.pinned (OpenSpec.upto fnExactErrorsOkSpec)

/-- 'laws.FnExactNextSlot', WHERE WHAT IT READS IS OF BULK AT MOST 1048576: true; the input reads as it did. -/
def fnExactNextSlotUptoRow : OpenClaim := { program := "ytlkameobhmccmaa", sum := "c706ea09079d5e563fca3e892e79f6534a939360cc7c6c23b22a49266975dfac", func := "loop.example/g00977/laws.FnExactNextSlot", spec := "fnExactNextSlot", apart := false, narrowed := true }
def FnExactNextSlotUptoSaid : Prop := fnExactNextSlotUptoRow.holds Try.pinned (OpenSpec.upto fnExactNextSlotSpec)

/-- 'laws.FnExactKeepTenant', WHERE WHAT IT READS IS OF BULK AT MOST 1048576: true; the input reads as it did. -/
def fnExactKeepTenantUptoRow : OpenClaim := { program := "ytlkameobhmccmaa", sum := "c706ea09079d5e563fca3e892e79f6534a939360cc7c6c23b22a49266975dfac", func := "loop.example/g00977/laws.FnExactKeepTenant", spec := "fnExactKeepTenant", apart := false, narrowed := true }
def FnExactKeepTenantUptoSaid : Prop := fnExactKeepTenantUptoRow.holds Try.pinned (OpenSpec.upto fnExactKeepTenantSpec)

/-- 'laws.FnExactChooseRequest', WHERE WHAT IT READS IS OF BULK AT MOST 1048576: true; the input reads as it did. -/
def fnExactChooseRequestUptoRow : OpenClaim := { program := "ytlkameobhmccmaa", sum := "c706ea09079d5e563fca3e892e79f6534a939360cc7c6c23b22a49266975dfac", func := "loop.example/g00977/laws.FnExactChooseRequest", spec := "fnExactChooseRequest", apart := false, narrowed := true }
def FnExactChooseRequestUptoSaid : Prop := fnExactChooseRequestUptoRow.holds Try.pinned (OpenSpec.upto fnExactChooseRequestSpec)

/-- 'laws.FnNextSlot', WHERE WHAT IT READS IS OF BULK AT MOST 1048576: true; the input reads as it did. -/
def fnNextSlotUptoRow : OpenClaim := { program := "ytlkameobhmccmaa", sum := "c706ea09079d5e563fca3e892e79f6534a939360cc7c6c23b22a49266975dfac", func := "loop.example/g00977/laws.FnNextSlot", spec := "fnNextSlot", apart := false, narrowed := true }
def FnNextSlotUptoSaid : Prop := fnNextSlotUptoRow.holds Try.pinned (OpenSpec.upto fnNextSlotSpec)

/-- 'laws.FnServed', WHERE WHAT IT READS IS OF BULK AT MOST 1048576: true; the input reads as it did. -/
def fnServedUptoRow : OpenClaim := { program := "ytlkameobhmccmaa", sum := "c706ea09079d5e563fca3e892e79f6534a939360cc7c6c23b22a49266975dfac", func := "loop.example/g00977/laws.FnServed", spec := "fnServed", apart := false, narrowed := true }
def FnServedUptoSaid : Prop := fnServedUptoRow.holds Try.pinned (OpenSpec.upto fnServedSpec)

/-- 'laws.FnChosen', WHERE WHAT IT READS IS OF BULK AT MOST 1048576: true; the input reads as it did. -/
def fnChosenUptoRow : OpenClaim := { program := "ytlkameobhmccmaa", sum := "c706ea09079d5e563fca3e892e79f6534a939360cc7c6c23b22a49266975dfac", func := "loop.example/g00977/laws.FnChosen", spec := "fnChosen", apart := false, narrowed := true }
def FnChosenUptoSaid : Prop := fnChosenUptoRow.holds Try.pinned (OpenSpec.upto fnChosenSpec)

/-- 'laws.FnAlone', WHERE WHAT IT READS IS OF BULK AT MOST 1048576: true; the input reads as it did. -/
def fnAloneUptoRow : OpenClaim := { program := "ytlkameobhmccmaa", sum := "c706ea09079d5e563fca3e892e79f6534a939360cc7c6c23b22a49266975dfac", func := "loop.example/g00977/laws.FnAlone", spec := "fnAlone", apart := false, narrowed := true }
def FnAloneUptoSaid : Prop := fnAloneUptoRow.holds Try.pinned (OpenSpec.upto fnAloneSpec)

/-- 'laws.FnExactServeSlots', WHERE WHAT IT READS IS OF BULK AT MOST 1048576: true; the input reads as it did. -/
def fnExactServeSlotsUptoRow : OpenClaim := { program := "ytlkameobhmccmaa", sum := "c706ea09079d5e563fca3e892e79f6534a939360cc7c6c23b22a49266975dfac", func := "loop.example/g00977/laws.FnExactServeSlots", spec := "fnExactServeSlots", apart := false, narrowed := true }
def FnExactServeSlotsUptoSaid : Prop := fnExactServeSlotsUptoRow.holds Try.pinned (OpenSpec.upto fnExactServeSlotsSpec)

end Rows
end Go.Proofs.Ytlkameobhmccmaa
