/-
  No cell of these rows narrows 'for every input' (looked for: loops, veiled, ifaces, maps, wideKeys, modest, calm, conditions, laid).
  DERIVED. THE GIVEN ROWS OF THIS SEAT. 12 by the template 'for every input the law returns true; each argument reads behind the call as it read before'; 0 by the template 'total and deterministic' (their statements: YtlaoeaecbdmebaaTotals.lean).
  GIVEN WITH THE SEED: the statements are not yours to turn. If you find one false, say at which input.
  Laid BY PROGRAM, IN A SANDBOX (cutbox-rows.mjs): the forced cells as the released guide's own fill.sh prints them over the translation fc53cf6d035e0e41… (all of the seat's roots in one cut). By AI agents, Wed Nov 11 2026. No macro, syntax, notation, axiom, sorry.
-/
import Derived.Test.YtlaoeaecbdmebaaChecked
import GoSem.Claim
import GoSem.ClaimJoined
import GoSem.ClaimMapViews
import Derived.JoinedTies
import Derived.KernelRfl
namespace Go.Proofs.Ytlaoeaecbdmebaa
/- THE CELL 'sum', in the pinned program and in every row, IS THE sha256 OF THE DUMP (.gsa) THAT YtlaoeaecbdmebaaProg.lean LOADS. Nothing in Lean hashes anything: it is a label: what it is worth is what the hold of that sum in a sandbox is worth. -/
noncomputable def Try.pinned : Pinned := { name := "ytlaoeaecbdmebaa", sum := "fc53cf6d035e0e41ac56277476e4ed679fe8f3a0f5b43a50c4a70151a6b44bd8", checked := Try.checked }
namespace Rows
def none {H : Type} : Left H := { results := [], args := [] }

/-- 'laws.FnDrains': WHATEVER THE INPUT: true; the input reads as it did. -/
def fnDrainsSpec : ChangeSpec := { name := "fnDrains", fn := fun _ => fun
  | [d] => { results := [.lit (.bool true)], args := [d] }
  | _ => none }
def fnDrainsRow : OpenClaim := { program := "ytlaoeaecbdmebaa", sum := "fc53cf6d035e0e41ac56277476e4ed679fe8f3a0f5b43a50c4a70151a6b44bd8", func := "loop.example/g00977/laws.FnDrains", spec := "fnDrains", apart := false }
def FnDrainsSaid : Prop := fnDrainsRow.holds Try.pinned (OpenSpec.ofChange fnDrainsSpec)

/-- ITS FALSE NEIGHBOUR: 'it returns false'. Refute it at one input. -/
def fnDrainsWrong : ChangeSpec := { name := "fnDrains", fn := fun _ => fun
  | [d] => { results := [.lit (.bool false)], args := [d] }
  | _ => none }
def FnDrainsWrongFalsely : Prop := fnDrainsRow.holds Try.pinned (OpenSpec.ofChange fnDrainsWrong)

/-- 'laws.FnPower': WHATEVER THE INPUT: true; the input reads as it did. -/
def fnPowerSpec : ChangeSpec := { name := "fnPower", fn := fun _ => fun
  | [d] => { results := [.lit (.bool true)], args := [d] }
  | _ => none }
def fnPowerRow : OpenClaim := { program := "ytlaoeaecbdmebaa", sum := "fc53cf6d035e0e41ac56277476e4ed679fe8f3a0f5b43a50c4a70151a6b44bd8", func := "loop.example/g00977/laws.FnPower", spec := "fnPower", apart := false }
def FnPowerSaid : Prop := fnPowerRow.holds Try.pinned (OpenSpec.ofChange fnPowerSpec)

/-- ITS FALSE NEIGHBOUR: 'it returns false'. Refute it at one input. -/
def fnPowerWrong : ChangeSpec := { name := "fnPower", fn := fun _ => fun
  | [d] => { results := [.lit (.bool false)], args := [d] }
  | _ => none }
def FnPowerWrongFalsely : Prop := fnPowerRow.holds Try.pinned (OpenSpec.ofChange fnPowerWrong)

/-- 'laws.FnExactSharesNew': WHATEVER THE INPUT: true; the input reads as it did. -/
def fnExactSharesNewSpec : ChangeSpec := { name := "fnExactSharesNew", fn := fun _ => fun
  | [d] => { results := [.lit (.bool true)], args := [d] }
  | _ => none }
def fnExactSharesNewRow : OpenClaim := { program := "ytlaoeaecbdmebaa", sum := "fc53cf6d035e0e41ac56277476e4ed679fe8f3a0f5b43a50c4a70151a6b44bd8", func := "loop.example/g00977/laws.FnExactSharesNew", spec := "fnExactSharesNew", apart := false }
def FnExactSharesNewSaid : Prop := fnExactSharesNewRow.holds Try.pinned (OpenSpec.ofChange fnExactSharesNewSpec)

/-- ITS FALSE NEIGHBOUR: 'it returns false'. Refute it at one input. -/
def fnExactSharesNewWrong : ChangeSpec := { name := "fnExactSharesNew", fn := fun _ => fun
  | [d] => { results := [.lit (.bool false)], args := [d] }
  | _ => none }
def FnExactSharesNewWrongFalsely : Prop := fnExactSharesNewRow.holds Try.pinned (OpenSpec.ofChange fnExactSharesNewWrong)

/-- 'laws.FnExactCommonPass': WHATEVER THE INPUT: true; the input reads as it did. -/
def fnExactCommonPassSpec : ChangeSpec := { name := "fnExactCommonPass", fn := fun _ => fun
  | [d] => { results := [.lit (.bool true)], args := [d] }
  | _ => none }
def fnExactCommonPassRow : OpenClaim := { program := "ytlaoeaecbdmebaa", sum := "fc53cf6d035e0e41ac56277476e4ed679fe8f3a0f5b43a50c4a70151a6b44bd8", func := "loop.example/g00977/laws.FnExactCommonPass", spec := "fnExactCommonPass", apart := false }
def FnExactCommonPassSaid : Prop := fnExactCommonPassRow.holds Try.pinned (OpenSpec.ofChange fnExactCommonPassSpec)

/-- ITS FALSE NEIGHBOUR: 'it returns false'. Refute it at one input. -/
def fnExactCommonPassWrong : ChangeSpec := { name := "fnExactCommonPass", fn := fun _ => fun
  | [d] => { results := [.lit (.bool false)], args := [d] }
  | _ => none }
def FnExactCommonPassWrongFalsely : Prop := fnExactCommonPassRow.holds Try.pinned (OpenSpec.ofChange fnExactCommonPassWrong)

/-- 'laws.FnLanes': WHATEVER THE INPUT: true; the input reads as it did. -/
def fnLanesSpec : ChangeSpec := { name := "fnLanes", fn := fun _ => fun
  | [d] => { results := [.lit (.bool true)], args := [d] }
  | _ => none }
def fnLanesRow : OpenClaim := { program := "ytlaoeaecbdmebaa", sum := "fc53cf6d035e0e41ac56277476e4ed679fe8f3a0f5b43a50c4a70151a6b44bd8", func := "loop.example/g00977/laws.FnLanes", spec := "fnLanes", apart := false }
def FnLanesSaid : Prop := fnLanesRow.holds Try.pinned (OpenSpec.ofChange fnLanesSpec)

/-- ITS FALSE NEIGHBOUR: 'it returns false'. Refute it at one input. -/
def fnLanesWrong : ChangeSpec := { name := "fnLanes", fn := fun _ => fun
  | [d] => { results := [.lit (.bool false)], args := [d] }
  | _ => none }
def FnLanesWrongFalsely : Prop := fnLanesRow.holds Try.pinned (OpenSpec.ofChange fnLanesWrong)

/-- 'laws.FnOnlyWaiting': WHATEVER THE INPUT: true; the input reads as it did. -/
def fnOnlyWaitingSpec : ChangeSpec := { name := "fnOnlyWaiting", fn := fun _ => fun
  | [d] => { results := [.lit (.bool true)], args := [d] }
  | _ => none }
def fnOnlyWaitingRow : OpenClaim := { program := "ytlaoeaecbdmebaa", sum := "fc53cf6d035e0e41ac56277476e4ed679fe8f3a0f5b43a50c4a70151a6b44bd8", func := "loop.example/g00977/laws.FnOnlyWaiting", spec := "fnOnlyWaiting", apart := false }
def FnOnlyWaitingSaid : Prop := fnOnlyWaitingRow.holds Try.pinned (OpenSpec.ofChange fnOnlyWaitingSpec)

/-- ITS FALSE NEIGHBOUR: 'it returns false'. Refute it at one input. -/
def fnOnlyWaitingWrong : ChangeSpec := { name := "fnOnlyWaiting", fn := fun _ => fun
  | [d] => { results := [.lit (.bool false)], args := [d] }
  | _ => none }
def FnOnlyWaitingWrongFalsely : Prop := fnOnlyWaitingRow.holds Try.pinned (OpenSpec.ofChange fnOnlyWaitingWrong)

/-- 'laws.FnExactPickTenant': WHATEVER THE INPUT: true; the input reads as it did. -/
def fnExactPickTenantSpec : ChangeSpec := { name := "fnExactPickTenant", fn := fun _ => fun
  | [d1, d2] => { results := [.lit (.bool true)], args := [d1, d2] }
  | _ => none }
def fnExactPickTenantRow : OpenClaim := { program := "ytlaoeaecbdmebaa", sum := "fc53cf6d035e0e41ac56277476e4ed679fe8f3a0f5b43a50c4a70151a6b44bd8", func := "loop.example/g00977/laws.FnExactPickTenant", spec := "fnExactPickTenant", apart := false }
def FnExactPickTenantSaid : Prop := fnExactPickTenantRow.holds Try.pinned (OpenSpec.ofChange fnExactPickTenantSpec)

/-- ITS FALSE NEIGHBOUR: 'it returns false'. Refute it at one input. -/
def fnExactPickTenantWrong : ChangeSpec := { name := "fnExactPickTenant", fn := fun _ => fun
  | [d1, d2] => { results := [.lit (.bool false)], args := [d1, d2] }
  | _ => none }
def FnExactPickTenantWrongFalsely : Prop := fnExactPickTenantRow.holds Try.pinned (OpenSpec.ofChange fnExactPickTenantWrong)

/-- 'laws.FnExactKeepTenant': WHATEVER THE INPUT: true; the input reads as it did. -/
def fnExactKeepTenantSpec : ChangeSpec := { name := "fnExactKeepTenant", fn := fun _ => fun
  | [d1, d2] => { results := [.lit (.bool true)], args := [d1, d2] }
  | _ => none }
def fnExactKeepTenantRow : OpenClaim := { program := "ytlaoeaecbdmebaa", sum := "fc53cf6d035e0e41ac56277476e4ed679fe8f3a0f5b43a50c4a70151a6b44bd8", func := "loop.example/g00977/laws.FnExactKeepTenant", spec := "fnExactKeepTenant", apart := false }
def FnExactKeepTenantSaid : Prop := fnExactKeepTenantRow.holds Try.pinned (OpenSpec.ofChange fnExactKeepTenantSpec)

/-- ITS FALSE NEIGHBOUR: 'it returns false'. Refute it at one input. -/
def fnExactKeepTenantWrong : ChangeSpec := { name := "fnExactKeepTenant", fn := fun _ => fun
  | [d1, d2] => { results := [.lit (.bool false)], args := [d1, d2] }
  | _ => none }
def FnExactKeepTenantWrongFalsely : Prop := fnExactKeepTenantRow.holds Try.pinned (OpenSpec.ofChange fnExactKeepTenantWrong)

/-- 'laws.FnExactChooseRequest': WHATEVER THE INPUT: true; the input reads as it did. -/
def fnExactChooseRequestSpec : ChangeSpec := { name := "fnExactChooseRequest", fn := fun _ => fun
  | [d1, d2, d3, d4, d5] => { results := [.lit (.bool true)], args := [d1, d2, d3, d4, d5] }
  | _ => none }
def fnExactChooseRequestRow : OpenClaim := { program := "ytlaoeaecbdmebaa", sum := "fc53cf6d035e0e41ac56277476e4ed679fe8f3a0f5b43a50c4a70151a6b44bd8", func := "loop.example/g00977/laws.FnExactChooseRequest", spec := "fnExactChooseRequest", apart := false }
def FnExactChooseRequestSaid : Prop := fnExactChooseRequestRow.holds Try.pinned (OpenSpec.ofChange fnExactChooseRequestSpec)

/-- ITS FALSE NEIGHBOUR: 'it returns false'. Refute it at one input. -/
def fnExactChooseRequestWrong : ChangeSpec := { name := "fnExactChooseRequest", fn := fun _ => fun
  | [d1, d2, d3, d4, d5] => { results := [.lit (.bool false)], args := [d1, d2, d3, d4, d5] }
  | _ => none }
def FnExactChooseRequestWrongFalsely : Prop := fnExactChooseRequestRow.holds Try.pinned (OpenSpec.ofChange fnExactChooseRequestWrong)

/-- 'laws.FnChosen': WHATEVER THE INPUT: true; the input reads as it did. -/
def fnChosenSpec : ChangeSpec := { name := "fnChosen", fn := fun _ => fun
  | [d] => { results := [.lit (.bool true)], args := [d] }
  | _ => none }
def fnChosenRow : OpenClaim := { program := "ytlaoeaecbdmebaa", sum := "fc53cf6d035e0e41ac56277476e4ed679fe8f3a0f5b43a50c4a70151a6b44bd8", func := "loop.example/g00977/laws.FnChosen", spec := "fnChosen", apart := false }
def FnChosenSaid : Prop := fnChosenRow.holds Try.pinned (OpenSpec.ofChange fnChosenSpec)

/-- ITS FALSE NEIGHBOUR: 'it returns false'. Refute it at one input. -/
def fnChosenWrong : ChangeSpec := { name := "fnChosen", fn := fun _ => fun
  | [d] => { results := [.lit (.bool false)], args := [d] }
  | _ => none }
def FnChosenWrongFalsely : Prop := fnChosenRow.holds Try.pinned (OpenSpec.ofChange fnChosenWrong)

/-- 'laws.FnExactSlotNeed': WHATEVER THE INPUT: true; the input reads as it did. -/
def fnExactSlotNeedSpec : ChangeSpec := { name := "fnExactSlotNeed", fn := fun _ => fun
  | [d] => { results := [.lit (.bool true)], args := [d] }
  | _ => none }
def fnExactSlotNeedRow : OpenClaim := { program := "ytlaoeaecbdmebaa", sum := "fc53cf6d035e0e41ac56277476e4ed679fe8f3a0f5b43a50c4a70151a6b44bd8", func := "loop.example/g00977/laws.FnExactSlotNeed", spec := "fnExactSlotNeed", apart := false }
def FnExactSlotNeedSaid : Prop := fnExactSlotNeedRow.holds Try.pinned (OpenSpec.ofChange fnExactSlotNeedSpec)

/-- ITS FALSE NEIGHBOUR: 'it returns false'. Refute it at one input. -/
def fnExactSlotNeedWrong : ChangeSpec := { name := "fnExactSlotNeed", fn := fun _ => fun
  | [d] => { results := [.lit (.bool false)], args := [d] }
  | _ => none }
def FnExactSlotNeedWrongFalsely : Prop := fnExactSlotNeedRow.holds Try.pinned (OpenSpec.ofChange fnExactSlotNeedWrong)

/-- 'laws.FnExactWakeTime': WHATEVER THE INPUT: true; the input reads as it did. -/
def fnExactWakeTimeSpec : ChangeSpec := { name := "fnExactWakeTime", fn := fun _ => fun
  | [d1, d2, d3] => { results := [.lit (.bool true)], args := [d1, d2, d3] }
  | _ => none }
def fnExactWakeTimeRow : OpenClaim := { program := "ytlaoeaecbdmebaa", sum := "fc53cf6d035e0e41ac56277476e4ed679fe8f3a0f5b43a50c4a70151a6b44bd8", func := "loop.example/g00977/laws.FnExactWakeTime", spec := "fnExactWakeTime", apart := false }
def FnExactWakeTimeSaid : Prop := fnExactWakeTimeRow.holds Try.pinned (OpenSpec.ofChange fnExactWakeTimeSpec)

/-- ITS FALSE NEIGHBOUR: 'it returns false'. Refute it at one input. -/
def fnExactWakeTimeWrong : ChangeSpec := { name := "fnExactWakeTime", fn := fun _ => fun
  | [d1, d2, d3] => { results := [.lit (.bool false)], args := [d1, d2, d3] }
  | _ => none }
def FnExactWakeTimeWrongFalsely : Prop := fnExactWakeTimeRow.holds Try.pinned (OpenSpec.ofChange fnExactWakeTimeWrong)

/- THE SECOND FORM. 'bulk': how many values and letters a reading holds, each counted each time it is reached (what is shared counts as often as it is met; a slice's spare places count too). A statement '..UptoSaid' is the law's where the arguments, and the package variables that the reading takes, are together of bulk at most 1048576: NARROWER than '..Said'. Prove '..Said' where nothing that the law and all that it calls make is longer than what came in: it says more and counts as full. Else prove '..UptoSaid'. A law counts once. -/
mutual
def uptoBulk {H : Type} : DataW H → Nat
  | .lit (.string bytes) => bytes.length + 1
  | .lit _ => 1
  | .nil => 1
  | .ptr d => uptoBulk d + 1
  | .slice elems spare => uptoBulkAll elems + uptoBulkAll spare + 1
  | .agg parts => uptoBulkAll parts + 1
  | .iface _ d => uptoBulk d + 1
  | .map entries => uptoBulkEntries entries + 1
  | .held _ => 1
def uptoBulkAll {H : Type} : List (DataW H) → Nat
  | [] => 0
  | d :: r => uptoBulk d + uptoBulkAll r
def uptoBulkEntries {H : Type} : List (Lit × DataW H) → Nat
  | [] => 0
  | x :: r => uptoBulkEntry x + uptoBulkEntries r
def uptoBulkEntry {H : Type} : Lit × DataW H → Nat
  | (.string bytes, d) => bytes.length + uptoBulk d + 1
  | (_, d) => uptoBulk d + 1
 end
def uptoSmall : (H : Type) → List (DataW H) → Bool := fun _ ds => decide (uptoBulkAll ds ≤ 1048576)
def OpenSpec.upto (s : _root_.Go.ChangeSpec) : _root_.Go.OpenSpec := { _root_.Go.OpenSpec.ofChange s with cond := some uptoSmall }

/-- 'laws.FnDrains', WHERE WHAT IT READS IS OF BULK AT MOST 1048576: true; the input reads as it did. -/
def fnDrainsUptoRow : OpenClaim := { program := "ytlaoeaecbdmebaa", sum := "fc53cf6d035e0e41ac56277476e4ed679fe8f3a0f5b43a50c4a70151a6b44bd8", func := "loop.example/g00977/laws.FnDrains", spec := "fnDrains", apart := false, narrowed := true }
def FnDrainsUptoSaid : Prop := fnDrainsUptoRow.holds Try.pinned (OpenSpec.upto fnDrainsSpec)

/-- 'laws.FnPower', WHERE WHAT IT READS IS OF BULK AT MOST 1048576: true; the input reads as it did. -/
def fnPowerUptoRow : OpenClaim := { program := "ytlaoeaecbdmebaa", sum := "fc53cf6d035e0e41ac56277476e4ed679fe8f3a0f5b43a50c4a70151a6b44bd8", func := "loop.example/g00977/laws.FnPower", spec := "fnPower", apart := false, narrowed := true }
def FnPowerUptoSaid : Prop := fnPowerUptoRow.holds Try.pinned (OpenSpec.upto fnPowerSpec)

/-- 'laws.FnExactSharesNew', WHERE WHAT IT READS IS OF BULK AT MOST 1048576: true; the input reads as it did. -/
def fnExactSharesNewUptoRow : OpenClaim := { program := "ytlaoeaecbdmebaa", sum := "fc53cf6d035e0e41ac56277476e4ed679fe8f3a0f5b43a50c4a70151a6b44bd8", func := "loop.example/g00977/laws.FnExactSharesNew", spec := "fnExactSharesNew", apart := false, narrowed := true }
def FnExactSharesNewUptoSaid : Prop := fnExactSharesNewUptoRow.holds Try.pinned (OpenSpec.upto fnExactSharesNewSpec)

/-- 'laws.FnExactCommonPass', WHERE WHAT IT READS IS OF BULK AT MOST 1048576: true; the input reads as it did. -/
def fnExactCommonPassUptoRow : OpenClaim := { program := "ytlaoeaecbdmebaa", sum := "fc53cf6d035e0e41ac56277476e4ed679fe8f3a0f5b43a50c4a70151a6b44bd8", func := "loop.example/g00977/laws.FnExactCommonPass", spec := "fnExactCommonPass", apart := false, narrowed := true }
def FnExactCommonPassUptoSaid : Prop := fnExactCommonPassUptoRow.holds Try.pinned (OpenSpec.upto fnExactCommonPassSpec)

/-- 'laws.FnLanes', WHERE WHAT IT READS IS OF BULK AT MOST 1048576: true; the input reads as it did. -/
def fnLanesUptoRow : OpenClaim := { program := "ytlaoeaecbdmebaa", sum := "fc53cf6d035e0e41ac56277476e4ed679fe8f3a0f5b43a50c4a70151a6b44bd8", func := "loop.example/g00977/laws.FnLanes", spec := "fnLanes", apart := false, narrowed := true }
def FnLanesUptoSaid : Prop := fnLanesUptoRow.holds Try.pinned (OpenSpec.upto fnLanesSpec)

/-- 'laws.FnOnlyWaiting', WHERE WHAT IT READS IS OF BULK AT MOST 1048576: true; the input reads as it did. -/
def fnOnlyWaitingUptoRow : OpenClaim := { program := "ytlaoeaecbdmebaa", sum := "fc53cf6d035e0e41ac56277476e4ed679fe8f3a0f5b43a50c4a70151a6b44bd8", func := "loop.example/g00977/laws.FnOnlyWaiting", spec := "fnOnlyWaiting", apart := false, narrowed := true }
def FnOnlyWaitingUptoSaid : Prop := fnOnlyWaitingUptoRow.holds Try.pinned (OpenSpec.upto fnOnlyWaitingSpec)

/-- 'laws.FnExactPickTenant', WHERE WHAT IT READS IS OF BULK AT MOST 1048576: true; the input reads as it did. -/
def fnExactPickTenantUptoRow : OpenClaim := { program := "ytlaoeaecbdmebaa", sum := "fc53cf6d035e0e41ac56277476e4ed679fe8f3a0f5b43a50c4a70151a6b44bd8", func := "loop.example/g00977/laws.FnExactPickTenant", spec := "fnExactPickTenant", apart := false, narrowed := true }
def FnExactPickTenantUptoSaid : Prop := fnExactPickTenantUptoRow.holds Try.pinned (OpenSpec.upto fnExactPickTenantSpec)

/-- 'laws.FnExactKeepTenant', WHERE WHAT IT READS IS OF BULK AT MOST 1048576: true; the input reads as it did. -/
def fnExactKeepTenantUptoRow : OpenClaim := { program := "ytlaoeaecbdmebaa", sum := "fc53cf6d035e0e41ac56277476e4ed679fe8f3a0f5b43a50c4a70151a6b44bd8", func := "loop.example/g00977/laws.FnExactKeepTenant", spec := "fnExactKeepTenant", apart := false, narrowed := true }
def FnExactKeepTenantUptoSaid : Prop := fnExactKeepTenantUptoRow.holds Try.pinned (OpenSpec.upto fnExactKeepTenantSpec)

/-- 'laws.FnExactChooseRequest', WHERE WHAT IT READS IS OF BULK AT MOST 1048576: true; the input reads as it did. -/
def fnExactChooseRequestUptoRow : OpenClaim := { program := "ytlaoeaecbdmebaa", sum := "fc53cf6d035e0e41ac56277476e4ed679fe8f3a0f5b43a50c4a70151a6b44bd8", func := "loop.example/g00977/laws.FnExactChooseRequest", spec := "fnExactChooseRequest", apart := false, narrowed := true }
def FnExactChooseRequestUptoSaid : Prop := fnExactChooseRequestUptoRow.holds Try.pinned (OpenSpec.upto fnExactChooseRequestSpec)

/-- 'laws.FnChosen', WHERE WHAT IT READS IS OF BULK AT MOST 1048576: true; the input reads as it did. -/
def fnChosenUptoRow : OpenClaim := { program := "ytlaoeaecbdmebaa", sum := "fc53cf6d035e0e41ac56277476e4ed679fe8f3a0f5b43a50c4a70151a6b44bd8", func := "loop.example/g00977/laws.FnChosen", spec := "fnChosen", apart := false, narrowed := true }
def FnChosenUptoSaid : Prop := fnChosenUptoRow.holds Try.pinned (OpenSpec.upto fnChosenSpec)

/-- 'laws.FnExactSlotNeed', WHERE WHAT IT READS IS OF BULK AT MOST 1048576: true; the input reads as it did. -/
def fnExactSlotNeedUptoRow : OpenClaim := { program := "ytlaoeaecbdmebaa", sum := "fc53cf6d035e0e41ac56277476e4ed679fe8f3a0f5b43a50c4a70151a6b44bd8", func := "loop.example/g00977/laws.FnExactSlotNeed", spec := "fnExactSlotNeed", apart := false, narrowed := true }
def FnExactSlotNeedUptoSaid : Prop := fnExactSlotNeedUptoRow.holds Try.pinned (OpenSpec.upto fnExactSlotNeedSpec)

/-- 'laws.FnExactWakeTime', WHERE WHAT IT READS IS OF BULK AT MOST 1048576: true; the input reads as it did. -/
def fnExactWakeTimeUptoRow : OpenClaim := { program := "ytlaoeaecbdmebaa", sum := "fc53cf6d035e0e41ac56277476e4ed679fe8f3a0f5b43a50c4a70151a6b44bd8", func := "loop.example/g00977/laws.FnExactWakeTime", spec := "fnExactWakeTime", apart := false, narrowed := true }
def FnExactWakeTimeUptoSaid : Prop := fnExactWakeTimeUptoRow.holds Try.pinned (OpenSpec.upto fnExactWakeTimeSpec)

end Rows
end Go.Proofs.Ytlaoeaecbdmebaa
