/-
  No cell of these rows narrows 'for every input' (looked for: loops, veiled, ifaces, maps, wideKeys, modest, calm, conditions, laid).
  DERIVED. THE GIVEN ROWS OF THIS SEAT. 12 by the template 'for every input the law returns true; each argument reads behind the call as it read before'; 0 by the template 'total and deterministic' (their statements: YtboejjplclaifaaTotals.lean).
  GIVEN WITH THE SEED: the statements are not yours to turn. If you find one false, say at which input.
  Laid BY PROGRAM, IN A SANDBOX (cutbox-rows.mjs): the forced cells as the released guide's own fill.sh prints them over the translation 6e7a44bfd803c01a… (all of the seat's roots in one cut). By AI agents, Wed Nov 11 2026. No macro, syntax, notation, axiom, sorry.
-/
import Derived.Test.YtboejjplclaifaaChecked
import GoSem.Claim
import GoSem.ClaimJoined
import GoSem.ClaimMapViews
import Derived.JoinedTies
import Derived.KernelRfl
namespace Go.Proofs.Ytboejjplclaifaa
/- THE CELL 'sum', in the pinned program and in every row, IS THE sha256 OF THE DUMP (.gsa) THAT YtboejjplclaifaaProg.lean LOADS. Nothing in Lean hashes anything: it is a label: what it is worth is what the hold of that sum in a sandbox is worth. -/
noncomputable def Try.pinned : Pinned := { name := "ytboejjplclaifaa", sum := "6e7a44bfd803c01a06fce9d4e637d23e34696e4261e869fdb86ebad5d87c0ae7", checked := Try.checked }
namespace Rows
def none {H : Type} : Left H := { results := [], args := [] }

/-- 'laws.FnExactMarginOf': WHATEVER THE INPUT: true; the input reads as it did. -/
def fnExactMarginOfSpec : ChangeSpec := { name := "fnExactMarginOf", fn := fun _ => fun
  | [d1, d2] => { results := [.lit (.bool true)], args := [d1, d2] }
  | _ => none }
def fnExactMarginOfRow : OpenClaim := { program := "ytboejjplclaifaa", sum := "6e7a44bfd803c01a06fce9d4e637d23e34696e4261e869fdb86ebad5d87c0ae7", func := "loop.example/g00977/laws.FnExactMarginOf", spec := "fnExactMarginOf", apart := false }
def FnExactMarginOfSaid : Prop := fnExactMarginOfRow.holds Try.pinned (OpenSpec.ofChange fnExactMarginOfSpec)

/-- ITS FALSE NEIGHBOUR: 'it returns false'. Refute it at one input. -/
def fnExactMarginOfWrong : ChangeSpec := { name := "fnExactMarginOf", fn := fun _ => fun
  | [d1, d2] => { results := [.lit (.bool false)], args := [d1, d2] }
  | _ => none }
def FnExactMarginOfWrongFalsely : Prop := fnExactMarginOfRow.holds Try.pinned (OpenSpec.ofChange fnExactMarginOfWrong)

/-- 'laws.FnExactWidestWindow': WHATEVER THE INPUT: true; the input reads as it did. -/
def fnExactWidestWindowSpec : ChangeSpec := { name := "fnExactWidestWindow", fn := fun _ => fun
  | [d] => { results := [.lit (.bool true)], args := [d] }
  | _ => none }
def fnExactWidestWindowRow : OpenClaim := { program := "ytboejjplclaifaa", sum := "6e7a44bfd803c01a06fce9d4e637d23e34696e4261e869fdb86ebad5d87c0ae7", func := "loop.example/g00977/laws.FnExactWidestWindow", spec := "fnExactWidestWindow", apart := false }
def FnExactWidestWindowSaid : Prop := fnExactWidestWindowRow.holds Try.pinned (OpenSpec.ofChange fnExactWidestWindowSpec)

/-- ITS FALSE NEIGHBOUR: 'it returns false'. Refute it at one input. -/
def fnExactWidestWindowWrong : ChangeSpec := { name := "fnExactWidestWindow", fn := fun _ => fun
  | [d] => { results := [.lit (.bool false)], args := [d] }
  | _ => none }
def FnExactWidestWindowWrongFalsely : Prop := fnExactWidestWindowRow.holds Try.pinned (OpenSpec.ofChange fnExactWidestWindowWrong)

/-- 'laws.FnExactSlotNeed': WHATEVER THE INPUT: true; the input reads as it did. -/
def fnExactSlotNeedSpec : ChangeSpec := { name := "fnExactSlotNeed", fn := fun _ => fun
  | [d] => { results := [.lit (.bool true)], args := [d] }
  | _ => none }
def fnExactSlotNeedRow : OpenClaim := { program := "ytboejjplclaifaa", sum := "6e7a44bfd803c01a06fce9d4e637d23e34696e4261e869fdb86ebad5d87c0ae7", func := "loop.example/g00977/laws.FnExactSlotNeed", spec := "fnExactSlotNeed", apart := false }
def FnExactSlotNeedSaid : Prop := fnExactSlotNeedRow.holds Try.pinned (OpenSpec.ofChange fnExactSlotNeedSpec)

/-- ITS FALSE NEIGHBOUR: 'it returns false'. Refute it at one input. -/
def fnExactSlotNeedWrong : ChangeSpec := { name := "fnExactSlotNeed", fn := fun _ => fun
  | [d] => { results := [.lit (.bool false)], args := [d] }
  | _ => none }
def FnExactSlotNeedWrongFalsely : Prop := fnExactSlotNeedRow.holds Try.pinned (OpenSpec.ofChange fnExactSlotNeedWrong)

/-- 'laws.FnExactDriftPass': WHATEVER THE INPUT: true; the input reads as it did. -/
def fnExactDriftPassSpec : ChangeSpec := { name := "fnExactDriftPass", fn := fun _ => fun
  | [d1, d2] => { results := [.lit (.bool true)], args := [d1, d2] }
  | _ => none }
def fnExactDriftPassRow : OpenClaim := { program := "ytboejjplclaifaa", sum := "6e7a44bfd803c01a06fce9d4e637d23e34696e4261e869fdb86ebad5d87c0ae7", func := "loop.example/g00977/laws.FnExactDriftPass", spec := "fnExactDriftPass", apart := false }
def FnExactDriftPassSaid : Prop := fnExactDriftPassRow.holds Try.pinned (OpenSpec.ofChange fnExactDriftPassSpec)

/-- ITS FALSE NEIGHBOUR: 'it returns false'. Refute it at one input. -/
def fnExactDriftPassWrong : ChangeSpec := { name := "fnExactDriftPass", fn := fun _ => fun
  | [d1, d2] => { results := [.lit (.bool false)], args := [d1, d2] }
  | _ => none }
def FnExactDriftPassWrongFalsely : Prop := fnExactDriftPassRow.holds Try.pinned (OpenSpec.ofChange fnExactDriftPassWrong)

/-- 'laws.FnExactBestDelay': WHATEVER THE INPUT: true; the input reads as it did. -/
def fnExactBestDelaySpec : ChangeSpec := { name := "fnExactBestDelay", fn := fun _ => fun
  | [d] => { results := [.lit (.bool true)], args := [d] }
  | _ => none }
def fnExactBestDelayRow : OpenClaim := { program := "ytboejjplclaifaa", sum := "6e7a44bfd803c01a06fce9d4e637d23e34696e4261e869fdb86ebad5d87c0ae7", func := "loop.example/g00977/laws.FnExactBestDelay", spec := "fnExactBestDelay", apart := false }
def FnExactBestDelaySaid : Prop := fnExactBestDelayRow.holds Try.pinned (OpenSpec.ofChange fnExactBestDelaySpec)

/-- ITS FALSE NEIGHBOUR: 'it returns false'. Refute it at one input. -/
def fnExactBestDelayWrong : ChangeSpec := { name := "fnExactBestDelay", fn := fun _ => fun
  | [d] => { results := [.lit (.bool false)], args := [d] }
  | _ => none }
def FnExactBestDelayWrongFalsely : Prop := fnExactBestDelayRow.holds Try.pinned (OpenSpec.ofChange fnExactBestDelayWrong)

/-- 'laws.FnDrifted': WHATEVER THE INPUT: true; the input reads as it did. -/
def fnDriftedSpec : ChangeSpec := { name := "fnDrifted", fn := fun _ => fun
  | [d] => { results := [.lit (.bool true)], args := [d] }
  | _ => none }
def fnDriftedRow : OpenClaim := { program := "ytboejjplclaifaa", sum := "6e7a44bfd803c01a06fce9d4e637d23e34696e4261e869fdb86ebad5d87c0ae7", func := "loop.example/g00977/laws.FnDrifted", spec := "fnDrifted", apart := false }
def FnDriftedSaid : Prop := fnDriftedRow.holds Try.pinned (OpenSpec.ofChange fnDriftedSpec)

/-- ITS FALSE NEIGHBOUR: 'it returns false'. Refute it at one input. -/
def fnDriftedWrong : ChangeSpec := { name := "fnDrifted", fn := fun _ => fun
  | [d] => { results := [.lit (.bool false)], args := [d] }
  | _ => none }
def FnDriftedWrongFalsely : Prop := fnDriftedRow.holds Try.pinned (OpenSpec.ofChange fnDriftedWrong)

/-- 'laws.FnWindow': WHATEVER THE INPUT: true; the input reads as it did. -/
def fnWindowSpec : ChangeSpec := { name := "fnWindow", fn := fun _ => fun
  | [d] => { results := [.lit (.bool true)], args := [d] }
  | _ => none }
def fnWindowRow : OpenClaim := { program := "ytboejjplclaifaa", sum := "6e7a44bfd803c01a06fce9d4e637d23e34696e4261e869fdb86ebad5d87c0ae7", func := "loop.example/g00977/laws.FnWindow", spec := "fnWindow", apart := false }
def FnWindowSaid : Prop := fnWindowRow.holds Try.pinned (OpenSpec.ofChange fnWindowSpec)

/-- ITS FALSE NEIGHBOUR: 'it returns false'. Refute it at one input. -/
def fnWindowWrong : ChangeSpec := { name := "fnWindow", fn := fun _ => fun
  | [d] => { results := [.lit (.bool false)], args := [d] }
  | _ => none }
def FnWindowWrongFalsely : Prop := fnWindowRow.holds Try.pinned (OpenSpec.ofChange fnWindowWrong)

/-- 'laws.FnExactSharesNew': WHATEVER THE INPUT: true; the input reads as it did. -/
def fnExactSharesNewSpec : ChangeSpec := { name := "fnExactSharesNew", fn := fun _ => fun
  | [d] => { results := [.lit (.bool true)], args := [d] }
  | _ => none }
def fnExactSharesNewRow : OpenClaim := { program := "ytboejjplclaifaa", sum := "6e7a44bfd803c01a06fce9d4e637d23e34696e4261e869fdb86ebad5d87c0ae7", func := "loop.example/g00977/laws.FnExactSharesNew", spec := "fnExactSharesNew", apart := false }
def FnExactSharesNewSaid : Prop := fnExactSharesNewRow.holds Try.pinned (OpenSpec.ofChange fnExactSharesNewSpec)

/-- ITS FALSE NEIGHBOUR: 'it returns false'. Refute it at one input. -/
def fnExactSharesNewWrong : ChangeSpec := { name := "fnExactSharesNew", fn := fun _ => fun
  | [d] => { results := [.lit (.bool false)], args := [d] }
  | _ => none }
def FnExactSharesNewWrongFalsely : Prop := fnExactSharesNewRow.holds Try.pinned (OpenSpec.ofChange fnExactSharesNewWrong)

/-- 'laws.FnExactCommonPass': WHATEVER THE INPUT: true; the input reads as it did. -/
def fnExactCommonPassSpec : ChangeSpec := { name := "fnExactCommonPass", fn := fun _ => fun
  | [d] => { results := [.lit (.bool true)], args := [d] }
  | _ => none }
def fnExactCommonPassRow : OpenClaim := { program := "ytboejjplclaifaa", sum := "6e7a44bfd803c01a06fce9d4e637d23e34696e4261e869fdb86ebad5d87c0ae7", func := "loop.example/g00977/laws.FnExactCommonPass", spec := "fnExactCommonPass", apart := false }
def FnExactCommonPassSaid : Prop := fnExactCommonPassRow.holds Try.pinned (OpenSpec.ofChange fnExactCommonPassSpec)

/-- ITS FALSE NEIGHBOUR: 'it returns false'. Refute it at one input. -/
def fnExactCommonPassWrong : ChangeSpec := { name := "fnExactCommonPass", fn := fun _ => fun
  | [d] => { results := [.lit (.bool false)], args := [d] }
  | _ => none }
def FnExactCommonPassWrongFalsely : Prop := fnExactCommonPassRow.holds Try.pinned (OpenSpec.ofChange fnExactCommonPassWrong)

/-- 'laws.FnLanes': WHATEVER THE INPUT: true; the input reads as it did. -/
def fnLanesSpec : ChangeSpec := { name := "fnLanes", fn := fun _ => fun
  | [d] => { results := [.lit (.bool true)], args := [d] }
  | _ => none }
def fnLanesRow : OpenClaim := { program := "ytboejjplclaifaa", sum := "6e7a44bfd803c01a06fce9d4e637d23e34696e4261e869fdb86ebad5d87c0ae7", func := "loop.example/g00977/laws.FnLanes", spec := "fnLanes", apart := false }
def FnLanesSaid : Prop := fnLanesRow.holds Try.pinned (OpenSpec.ofChange fnLanesSpec)

/-- ITS FALSE NEIGHBOUR: 'it returns false'. Refute it at one input. -/
def fnLanesWrong : ChangeSpec := { name := "fnLanes", fn := fun _ => fun
  | [d] => { results := [.lit (.bool false)], args := [d] }
  | _ => none }
def FnLanesWrongFalsely : Prop := fnLanesRow.holds Try.pinned (OpenSpec.ofChange fnLanesWrong)

/-- 'laws.FnOnlyWaiting': WHATEVER THE INPUT: true; the input reads as it did. -/
def fnOnlyWaitingSpec : ChangeSpec := { name := "fnOnlyWaiting", fn := fun _ => fun
  | [d] => { results := [.lit (.bool true)], args := [d] }
  | _ => none }
def fnOnlyWaitingRow : OpenClaim := { program := "ytboejjplclaifaa", sum := "6e7a44bfd803c01a06fce9d4e637d23e34696e4261e869fdb86ebad5d87c0ae7", func := "loop.example/g00977/laws.FnOnlyWaiting", spec := "fnOnlyWaiting", apart := false }
def FnOnlyWaitingSaid : Prop := fnOnlyWaitingRow.holds Try.pinned (OpenSpec.ofChange fnOnlyWaitingSpec)

/-- ITS FALSE NEIGHBOUR: 'it returns false'. Refute it at one input. -/
def fnOnlyWaitingWrong : ChangeSpec := { name := "fnOnlyWaiting", fn := fun _ => fun
  | [d] => { results := [.lit (.bool false)], args := [d] }
  | _ => none }
def FnOnlyWaitingWrongFalsely : Prop := fnOnlyWaitingRow.holds Try.pinned (OpenSpec.ofChange fnOnlyWaitingWrong)

/-- 'laws.FnExactPickTenant': WHATEVER THE INPUT: true; the input reads as it did. -/
def fnExactPickTenantSpec : ChangeSpec := { name := "fnExactPickTenant", fn := fun _ => fun
  | [d1, d2] => { results := [.lit (.bool true)], args := [d1, d2] }
  | _ => none }
def fnExactPickTenantRow : OpenClaim := { program := "ytboejjplclaifaa", sum := "6e7a44bfd803c01a06fce9d4e637d23e34696e4261e869fdb86ebad5d87c0ae7", func := "loop.example/g00977/laws.FnExactPickTenant", spec := "fnExactPickTenant", apart := false }
def FnExactPickTenantSaid : Prop := fnExactPickTenantRow.holds Try.pinned (OpenSpec.ofChange fnExactPickTenantSpec)

/-- ITS FALSE NEIGHBOUR: 'it returns false'. Refute it at one input. -/
def fnExactPickTenantWrong : ChangeSpec := { name := "fnExactPickTenant", fn := fun _ => fun
  | [d1, d2] => { results := [.lit (.bool false)], args := [d1, d2] }
  | _ => none }
def FnExactPickTenantWrongFalsely : Prop := fnExactPickTenantRow.holds Try.pinned (OpenSpec.ofChange fnExactPickTenantWrong)

/- THE SECOND FORM. 'bulk': how many values and letters a reading holds, each counted each time it is reached (what is shared counts as often as it is met; a slice's spare places count too). A statement '..UptoSaid' is the law's where the arguments, and the package variables that the reading takes, are together of bulk at most 1048576: NARROWER than '..Said'. Prove '..Said' where nothing that the law and all that it calls make is longer than what came in: it says more and counts as full. Else prove '..UptoSaid'. A law counts once. -/
mutual
def uptoBulk {H : Type} : DataW H → Nat
  | .lit (.string bytes) => bytes.length + 1
  | .lit _ => 1
  | .nil => 1
  | .ptr d => uptoBulk d + 1
  | .slice elems spare => uptoBulkAll elems + uptoBulkAll spare + 1
  | .agg parts => uptoBulkAll parts + 1
  | .iface _ d => uptoBulk d + 1
  | .map entries => uptoBulkEntries entries + 1
  | .held _ => 1
def uptoBulkAll {H : Type} : List (DataW H) → Nat
  | [] => 0
  | d :: r => uptoBulk d + uptoBulkAll r
def uptoBulkEntries {H : Type} : List (Lit × DataW H) → Nat
  | [] => 0
  | x :: r => uptoBulkEntry x + uptoBulkEntries r
def uptoBulkEntry {H : Type} : Lit × DataW H → Nat
  | (.string bytes, d) => bytes.length + uptoBulk d + 1
  | (_, d) => uptoBulk d + 1
 end
def uptoSmall : (H : Type) → List (DataW H) → Bool := fun _ ds => decide (uptoBulkAll ds ≤ 1048576)
def OpenSpec.upto (s : _root_.Go.ChangeSpec) : _root_.Go.OpenSpec := { _root_.Go.OpenSpec.ofChange s with cond := some uptoSmall }

/-- 'laws.FnExactMarginOf', WHERE WHAT IT READS IS OF BULK AT MOST 1048576: true; the input reads as it did. -/
def fnExactMarginOfUptoRow : OpenClaim := { program := "ytboejjplclaifaa", sum := "6e7a44bfd803c01a06fce9d4e637d23e34696e4261e869fdb86ebad5d87c0ae7", func := "loop.example/g00977/laws.FnExactMarginOf", spec := "fnExactMarginOf", apart := false, narrowed := true }
def FnExactMarginOfUptoSaid : Prop := fnExactMarginOfUptoRow.holds Try.pinned (OpenSpec.upto fnExactMarginOfSpec)

/-- 'laws.FnExactWidestWindow', WHERE WHAT IT READS IS OF BULK AT MOST 1048576: true; the input reads as it did. -/
def fnExactWidestWindowUptoRow : OpenClaim := { program := "ytboejjplclaifaa", sum := "6e7a44bfd803c01a06fce9d4e637d23e34696e4261e869fdb86ebad5d87c0ae7", func := "loop.example/g00977/laws.FnExactWidestWindow", spec := "fnExactWidestWindow", apart := false, narrowed := true }
def FnExactWidestWindowUptoSaid : Prop := fnExactWidestWindowUptoRow.holds Try.pinned (OpenSpec.upto fnExactWidestWindowSpec)

/-- 'laws.FnExactSlotNeed', WHERE WHAT IT READS IS OF BULK AT MOST 1048576: true; the input reads as it did. -/
def fnExactSlotNeedUptoRow : OpenClaim := { program := "ytboejjplclaifaa", sum := "6e7a44bfd803c01a06fce9d4e637d23e34696e4261e869fdb86ebad5d87c0ae7", func := "loop.example/g00977/laws.FnExactSlotNeed", spec := "fnExactSlotNeed", apart := false, narrowed := true }
def FnExactSlotNeedUptoSaid : Prop := fnExactSlotNeedUptoRow.holds Try.pinned (OpenSpec.upto fnExactSlotNeedSpec)

/-- 'laws.FnExactDriftPass', WHERE WHAT IT READS IS OF BULK AT MOST 1048576: true; the input reads as it did. -/
def fnExactDriftPassUptoRow : OpenClaim := { program := "ytboejjplclaifaa", sum := "6e7a44bfd803c01a06fce9d4e637d23e34696e4261e869fdb86ebad5d87c0ae7", func := "loop.example/g00977/laws.FnExactDriftPass", spec := "fnExactDriftPass", apart := false, narrowed := true }
def FnExactDriftPassUptoSaid : Prop := fnExactDriftPassUptoRow.holds Try.pinned (OpenSpec.upto fnExactDriftPassSpec)

/-- 'laws.FnExactBestDelay', WHERE WHAT IT READS IS OF BULK AT MOST 1048576: true; the input reads as it did. -/
def fnExactBestDelayUptoRow : OpenClaim := { program := "ytboejjplclaifaa", sum := "6e7a44bfd803c01a06fce9d4e637d23e34696e4261e869fdb86ebad5d87c0ae7", func := "loop.example/g00977/laws.FnExactBestDelay", spec := "fnExactBestDelay", apart := false, narrowed := true }
def FnExactBestDelayUptoSaid : Prop := fnExactBestDelayUptoRow.holds Try.pinned (OpenSpec.upto fnExactBestDelaySpec)

/-- 'laws.FnDrifted', WHERE WHAT IT READS IS OF BULK AT MOST 1048576: true; the input reads as it did. -/
def fnDriftedUptoRow : OpenClaim := { program := "ytboejjplclaifaa", sum := "6e7a44bfd803c01a06fce9d4e637d23e34696e4261e869fdb86ebad5d87c0ae7", func := "loop.example/g00977/laws.FnDrifted", spec := "fnDrifted", apart := false, narrowed := true }
def FnDriftedUptoSaid : Prop := fnDriftedUptoRow.holds Try.pinned (OpenSpec.upto fnDriftedSpec)

/-- 'laws.FnWindow', WHERE WHAT IT READS IS OF BULK AT MOST 1048576: true; the input reads as it did. -/
def fnWindowUptoRow : OpenClaim := { program := "ytboejjplclaifaa", sum := "6e7a44bfd803c01a06fce9d4e637d23e34696e4261e869fdb86ebad5d87c0ae7", func := "loop.example/g00977/laws.FnWindow", spec := "fnWindow", apart := false, narrowed := true }
def FnWindowUptoSaid : Prop := fnWindowUptoRow.holds Try.pinned (OpenSpec.upto fnWindowSpec)

/-- 'laws.FnExactSharesNew', WHERE WHAT IT READS IS OF BULK AT MOST 1048576: true; the input reads as it did. -/
def fnExactSharesNewUptoRow : OpenClaim := { program := "ytboejjplclaifaa", sum := "6e7a44bfd803c01a06fce9d4e637d23e34696e4261e869fdb86ebad5d87c0ae7", func := "loop.example/g00977/laws.FnExactSharesNew", spec := "fnExactSharesNew", apart := false, narrowed := true }
def FnExactSharesNewUptoSaid : Prop := fnExactSharesNewUptoRow.holds Try.pinned (OpenSpec.upto fnExactSharesNewSpec)

/-- 'laws.FnExactCommonPass', WHERE WHAT IT READS IS OF BULK AT MOST 1048576: true; the input reads as it did. -/
def fnExactCommonPassUptoRow : OpenClaim := { program := "ytboejjplclaifaa", sum := "6e7a44bfd803c01a06fce9d4e637d23e34696e4261e869fdb86ebad5d87c0ae7", func := "loop.example/g00977/laws.FnExactCommonPass", spec := "fnExactCommonPass", apart := false, narrowed := true }
def FnExactCommonPassUptoSaid : Prop := fnExactCommonPassUptoRow.holds Try.pinned (OpenSpec.upto fnExactCommonPassSpec)

/-- 'laws.FnLanes', WHERE WHAT IT READS IS OF BULK AT MOST 1048576: true; the input reads as it did. -/
def fnLanesUptoRow : OpenClaim := { program := "ytboejjplclaifaa", sum := "6e7a44bfd803c01a06fce9d4e637d23e34696e4261e869fdb86ebad5d87c0ae7", func := "loop.example/g00977/laws.FnLanes", spec := "fnLanes", apart := false, narrowed := true }
def FnLanesUptoSaid : Prop := fnLanesUptoRow.holds Try.pinned (OpenSpec.upto fnLanesSpec)

/-- 'laws.FnOnlyWaiting', WHERE WHAT IT READS IS OF BULK AT MOST 1048576: true; the input reads as it did. -/
def fnOnlyWaitingUptoRow : OpenClaim := { program := "ytboejjplclaifaa", sum := "6e7a44bfd803c01a06fce9d4e637d23e34696e4261e869fdb86ebad5d87c0ae7", func := "loop.example/g00977/laws.FnOnlyWaiting", spec := "fnOnlyWaiting", apart := false, narrowed := true }
def FnOnlyWaitingUptoSaid : Prop := fnOnlyWaitingUptoRow.holds Try.pinned (OpenSpec.upto fnOnlyWaitingSpec)

/-- 'laws.FnExactPickTenant', WHERE WHAT IT READS IS OF BULK AT MOST 1048576: true; the input reads as it did. -/
def fnExactPickTenantUptoRow : OpenClaim := { program := "ytboejjplclaifaa", sum := "6e7a44bfd803c01a06fce9d4e637d23e34696e4261e869fdb86ebad5d87c0ae7", func := "loop.example/g00977/laws.FnExactPickTenant", spec := "fnExactPickTenant", apart := false, narrowed := true }
def FnExactPickTenantUptoSaid : Prop := fnExactPickTenantUptoRow.holds Try.pinned (OpenSpec.upto fnExactPickTenantSpec)

end Rows
end Go.Proofs.Ytboejjplclaifaa
