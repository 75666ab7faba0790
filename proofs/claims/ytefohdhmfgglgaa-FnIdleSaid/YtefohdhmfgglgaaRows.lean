/-
  No cell of these rows narrows 'for every input' (looked for: loops, veiled, ifaces, maps, wideKeys, modest, calm, conditions, laid).
  DERIVED. THE GIVEN ROWS OF THIS SEAT. 12 by the template 'for every input the law returns true; each argument reads behind the call as it read before'; 0 by the template 'total and deterministic' (their statements: YtefohdhmfgglgaaTotals.lean).
  GIVEN WITH THE SEED: the statements are not yours to turn. If you find one false, say at which input.
  Laid BY PROGRAM, IN A SANDBOX (cutbox-rows.mjs): the forced cells as the released guide's own fill.sh prints them over the translation 66aca901ddc3fb4a… (all of the seat's roots in one cut). By AI agents, Wed Nov 11 2026. No macro, syntax, notation, axiom, sorry.
-/
import Derived.Test.YtefohdhmfgglgaaChecked
import GoSem.Claim
import GoSem.ClaimJoined
import GoSem.ClaimMapViews
import Derived.JoinedTies
import Derived.KernelRfl
namespace Go.Proofs.Ytefohdhmfgglgaa
/- THE CELL 'sum', in the pinned program and in every row, IS THE sha256 OF THE DUMP (.gsa) THAT YtefohdhmfgglgaaProg.lean LOADS. Nothing in Lean hashes anything: it is a label: what it is worth is what the hold of that sum in a sandbox is worth. -/
noncomputable def Try.pinned : Pinned := { name := "ytefohdhmfgglgaa", sum := "66aca901ddc3fb4a2426fd9921cd6911645a927f998089c37f1c2f7a5b82df67", checked := Try.checked }
namespace Rows
def none {H : Type} : Left H := { results := [], args := [] }

/-- 'laws.FnExactDrainOk': WHATEVER THE INPUT: true; the input reads as it did. -/
def fnExactDrainOkSpec : ChangeSpec := { name := "fnExactDrainOk", fn := fun _ => fun
  | [d] => { results := [.lit (.bool true)], args := [d] }
  | _ => none }
def fnExactDrainOkRow : OpenClaim := { program := "ytefohdhmfgglgaa", sum := "66aca901ddc3fb4a2426fd9921cd6911645a927f998089c37f1c2f7a5b82df67", func := "loop.example/g00977/laws.FnExactDrainOk", spec := "fnExactDrainOk", apart := false }
def FnExactDrainOkSaid : Prop := fnExactDrainOkRow.holds Try.pinned (OpenSpec.ofChange fnExactDrainOkSpec)

/-- ITS FALSE NEIGHBOUR: 'it returns false'. Refute it at one input. -/
def fnExactDrainOkWrong : ChangeSpec := { name := "fnExactDrainOk", fn := fun _ => fun
  | [d] => { results := [.lit (.bool false)], args := [d] }
  | _ => none }
def FnExactDrainOkWrongFalsely : Prop := fnExactDrainOkRow.holds Try.pinned (OpenSpec.ofChange fnExactDrainOkWrong)

/-- 'laws.FnExactPowerRuleOk': WHATEVER THE INPUT: true; the input reads as it did. -/
def fnExactPowerRuleOkSpec : ChangeSpec := { name := "fnExactPowerRuleOk", fn := fun _ => fun
  | [d] => { results := [.lit (.bool true)], args := [d] }
  | _ => none }
def fnExactPowerRuleOkRow : OpenClaim := { program := "ytefohdhmfgglgaa", sum := "66aca901ddc3fb4a2426fd9921cd6911645a927f998089c37f1c2f7a5b82df67", func := "loop.example/g00977/laws.FnExactPowerRuleOk", spec := "fnExactPowerRuleOk", apart := false }
def FnExactPowerRuleOkSaid : Prop := fnExactPowerRuleOkRow.holds Try.pinned (OpenSpec.ofChange fnExactPowerRuleOkSpec)

/-- ITS FALSE NEIGHBOUR: 'it returns false'. Refute it at one input. -/
def fnExactPowerRuleOkWrong : ChangeSpec := { name := "fnExactPowerRuleOk", fn := fun _ => fun
  | [d] => { results := [.lit (.bool false)], args := [d] }
  | _ => none }
def FnExactPowerRuleOkWrongFalsely : Prop := fnExactPowerRuleOkRow.holds Try.pinned (OpenSpec.ofChange fnExactPowerRuleOkWrong)

/-- 'laws.FnExactPowerOk': WHATEVER THE INPUT: true; the input reads as it did. -/
def fnExactPowerOkSpec : ChangeSpec := { name := "fnExactPowerOk", fn := fun _ => fun
  | [d] => { results := [.lit (.bool true)], args := [d] }
  | _ => none }
def fnExactPowerOkRow : OpenClaim := { program := "ytefohdhmfgglgaa", sum := "66aca901ddc3fb4a2426fd9921cd6911645a927f998089c37f1c2f7a5b82df67", func := "loop.example/g00977/laws.FnExactPowerOk", spec := "fnExactPowerOk", apart := false }
def FnExactPowerOkSaid : Prop := fnExactPowerOkRow.holds Try.pinned (OpenSpec.ofChange fnExactPowerOkSpec)

/-- ITS FALSE NEIGHBOUR: 'it returns false'. Refute it at one input. -/
def fnExactPowerOkWrong : ChangeSpec := { name := "fnExactPowerOk", fn := fun _ => fun
  | [d] => { results := [.lit (.bool false)], args := [d] }
  | _ => none }
def FnExactPowerOkWrongFalsely : Prop := fnExactPowerOkRow.holds Try.pinned (OpenSpec.ofChange fnExactPowerOkWrong)

/-- 'laws.FnExactDrainAllows': WHATEVER THE INPUT: true; the input reads as it did. -/
def fnExactDrainAllowsSpec : ChangeSpec := { name := "fnExactDrainAllows", fn := fun _ => fun
  | [d1, d2, d3] => { results := [.lit (.bool true)], args := [d1, d2, d3] }
  | _ => none }
def fnExactDrainAllowsRow : OpenClaim := { program := "ytefohdhmfgglgaa", sum := "66aca901ddc3fb4a2426fd9921cd6911645a927f998089c37f1c2f7a5b82df67", func := "loop.example/g00977/laws.FnExactDrainAllows", spec := "fnExactDrainAllows", apart := false }
def FnExactDrainAllowsSaid : Prop := fnExactDrainAllowsRow.holds Try.pinned (OpenSpec.ofChange fnExactDrainAllowsSpec)

/-- ITS FALSE NEIGHBOUR: 'it returns false'. Refute it at one input. -/
def fnExactDrainAllowsWrong : ChangeSpec := { name := "fnExactDrainAllows", fn := fun _ => fun
  | [d1, d2, d3] => { results := [.lit (.bool false)], args := [d1, d2, d3] }
  | _ => none }
def FnExactDrainAllowsWrongFalsely : Prop := fnExactDrainAllowsRow.holds Try.pinned (OpenSpec.ofChange fnExactDrainAllowsWrong)

/-- 'laws.FnExactDrainAfter': WHATEVER THE INPUT: true; the input reads as it did. -/
def fnExactDrainAfterSpec : ChangeSpec := { name := "fnExactDrainAfter", fn := fun _ => fun
  | [d1, d2] => { results := [.lit (.bool true)], args := [d1, d2] }
  | _ => none }
def fnExactDrainAfterRow : OpenClaim := { program := "ytefohdhmfgglgaa", sum := "66aca901ddc3fb4a2426fd9921cd6911645a927f998089c37f1c2f7a5b82df67", func := "loop.example/g00977/laws.FnExactDrainAfter", spec := "fnExactDrainAfter", apart := false }
def FnExactDrainAfterSaid : Prop := fnExactDrainAfterRow.holds Try.pinned (OpenSpec.ofChange fnExactDrainAfterSpec)

/-- ITS FALSE NEIGHBOUR: 'it returns false'. Refute it at one input. -/
def fnExactDrainAfterWrong : ChangeSpec := { name := "fnExactDrainAfter", fn := fun _ => fun
  | [d1, d2] => { results := [.lit (.bool false)], args := [d1, d2] }
  | _ => none }
def FnExactDrainAfterWrongFalsely : Prop := fnExactDrainAfterRow.holds Try.pinned (OpenSpec.ofChange fnExactDrainAfterWrong)

/-- 'laws.FnExactPowerIdle': WHATEVER THE INPUT: true; the input reads as it did. -/
def fnExactPowerIdleSpec : ChangeSpec := { name := "fnExactPowerIdle", fn := fun _ => fun
  | [d1, d2] => { results := [.lit (.bool true)], args := [d1, d2] }
  | _ => none }
def fnExactPowerIdleRow : OpenClaim := { program := "ytefohdhmfgglgaa", sum := "66aca901ddc3fb4a2426fd9921cd6911645a927f998089c37f1c2f7a5b82df67", func := "loop.example/g00977/laws.FnExactPowerIdle", spec := "fnExactPowerIdle", apart := false }
def FnExactPowerIdleSaid : Prop := fnExactPowerIdleRow.holds Try.pinned (OpenSpec.ofChange fnExactPowerIdleSpec)

/-- ITS FALSE NEIGHBOUR: 'it returns false'. Refute it at one input. -/
def fnExactPowerIdleWrong : ChangeSpec := { name := "fnExactPowerIdle", fn := fun _ => fun
  | [d1, d2] => { results := [.lit (.bool false)], args := [d1, d2] }
  | _ => none }
def FnExactPowerIdleWrongFalsely : Prop := fnExactPowerIdleRow.holds Try.pinned (OpenSpec.ofChange fnExactPowerIdleWrong)

/-- 'laws.FnExactPowerWant': WHATEVER THE INPUT: true; the input reads as it did. -/
def fnExactPowerWantSpec : ChangeSpec := { name := "fnExactPowerWant", fn := fun _ => fun
  | [d1, d2, d3] => { results := [.lit (.bool true)], args := [d1, d2, d3] }
  | _ => none }
def fnExactPowerWantRow : OpenClaim := { program := "ytefohdhmfgglgaa", sum := "66aca901ddc3fb4a2426fd9921cd6911645a927f998089c37f1c2f7a5b82df67", func := "loop.example/g00977/laws.FnExactPowerWant", spec := "fnExactPowerWant", apart := false }
def FnExactPowerWantSaid : Prop := fnExactPowerWantRow.holds Try.pinned (OpenSpec.ofChange fnExactPowerWantSpec)

/-- ITS FALSE NEIGHBOUR: 'it returns false'. Refute it at one input. -/
def fnExactPowerWantWrong : ChangeSpec := { name := "fnExactPowerWant", fn := fun _ => fun
  | [d1, d2, d3] => { results := [.lit (.bool false)], args := [d1, d2, d3] }
  | _ => none }
def FnExactPowerWantWrongFalsely : Prop := fnExactPowerWantRow.holds Try.pinned (OpenSpec.ofChange fnExactPowerWantWrong)

/-- 'laws.FnExactPowerChange': WHATEVER THE INPUT: true; the input reads as it did. -/
def fnExactPowerChangeSpec : ChangeSpec := { name := "fnExactPowerChange", fn := fun _ => fun
  | [d1, d2, d3] => { results := [.lit (.bool true)], args := [d1, d2, d3] }
  | _ => none }
def fnExactPowerChangeRow : OpenClaim := { program := "ytefohdhmfgglgaa", sum := "66aca901ddc3fb4a2426fd9921cd6911645a927f998089c37f1c2f7a5b82df67", func := "loop.example/g00977/laws.FnExactPowerChange", spec := "fnExactPowerChange", apart := false }
def FnExactPowerChangeSaid : Prop := fnExactPowerChangeRow.holds Try.pinned (OpenSpec.ofChange fnExactPowerChangeSpec)

/-- ITS FALSE NEIGHBOUR: 'it returns false'. Refute it at one input. -/
def fnExactPowerChangeWrong : ChangeSpec := { name := "fnExactPowerChange", fn := fun _ => fun
  | [d1, d2, d3] => { results := [.lit (.bool false)], args := [d1, d2, d3] }
  | _ => none }
def FnExactPowerChangeWrongFalsely : Prop := fnExactPowerChangeRow.holds Try.pinned (OpenSpec.ofChange fnExactPowerChangeWrong)

/-- 'laws.FnExactDrainSwitches': WHATEVER THE INPUT: true; the input reads as it did. -/
def fnExactDrainSwitchesSpec : ChangeSpec := { name := "fnExactDrainSwitches", fn := fun _ => fun
  | [d1, d2] => { results := [.lit (.bool true)], args := [d1, d2] }
  | _ => none }
def fnExactDrainSwitchesRow : OpenClaim := { program := "ytefohdhmfgglgaa", sum := "66aca901ddc3fb4a2426fd9921cd6911645a927f998089c37f1c2f7a5b82df67", func := "loop.example/g00977/laws.FnExactDrainSwitches", spec := "fnExactDrainSwitches", apart := false }
def FnExactDrainSwitchesSaid : Prop := fnExactDrainSwitchesRow.holds Try.pinned (OpenSpec.ofChange fnExactDrainSwitchesSpec)

/-- ITS FALSE NEIGHBOUR: 'it returns false'. Refute it at one input. -/
def fnExactDrainSwitchesWrong : ChangeSpec := { name := "fnExactDrainSwitches", fn := fun _ => fun
  | [d1, d2] => { results := [.lit (.bool false)], args := [d1, d2] }
  | _ => none }
def FnExactDrainSwitchesWrongFalsely : Prop := fnExactDrainSwitchesRow.holds Try.pinned (OpenSpec.ofChange fnExactDrainSwitchesWrong)

/-- 'laws.FnIdle': WHATEVER THE INPUT: true; the input reads as it did. -/
def fnIdleSpec : ChangeSpec := { name := "fnIdle", fn := fun _ => fun
  | [d] => { results := [.lit (.bool true)], args := [d] }
  | _ => none }
def fnIdleRow : OpenClaim := { program := "ytefohdhmfgglgaa", sum := "66aca901ddc3fb4a2426fd9921cd6911645a927f998089c37f1c2f7a5b82df67", func := "loop.example/g00977/laws.FnIdle", spec := "fnIdle", apart := false }
def FnIdleSaid : Prop := fnIdleRow.holds Try.pinned (OpenSpec.ofChange fnIdleSpec)

/-- ITS FALSE NEIGHBOUR: 'it returns false'. Refute it at one input. -/
def fnIdleWrong : ChangeSpec := { name := "fnIdle", fn := fun _ => fun
  | [d] => { results := [.lit (.bool false)], args := [d] }
  | _ => none }
def FnIdleWrongFalsely : Prop := fnIdleRow.holds Try.pinned (OpenSpec.ofChange fnIdleWrong)

/-- 'laws.FnDrains': WHATEVER THE INPUT: true; the input reads as it did. -/
def fnDrainsSpec : ChangeSpec := { name := "fnDrains", fn := fun _ => fun
  | [d] => { results := [.lit (.bool true)], args := [d] }
  | _ => none }
def fnDrainsRow : OpenClaim := { program := "ytefohdhmfgglgaa", sum := "66aca901ddc3fb4a2426fd9921cd6911645a927f998089c37f1c2f7a5b82df67", func := "loop.example/g00977/laws.FnDrains", spec := "fnDrains", apart := false }
def FnDrainsSaid : Prop := fnDrainsRow.holds Try.pinned (OpenSpec.ofChange fnDrainsSpec)

/-- ITS FALSE NEIGHBOUR: 'it returns false'. Refute it at one input. -/
def fnDrainsWrong : ChangeSpec := { name := "fnDrains", fn := fun _ => fun
  | [d] => { results := [.lit (.bool false)], args := [d] }
  | _ => none }
def FnDrainsWrongFalsely : Prop := fnDrainsRow.holds Try.pinned (OpenSpec.ofChange fnDrainsWrong)

/-- 'laws.FnPower': WHATEVER THE INPUT: true; the input reads as it did. -/
def fnPowerSpec : ChangeSpec := { name := "fnPower", fn := fun _ => fun
  | [d] => { results := [.lit (.bool true)], args := [d] }
  | _ => none }
def fnPowerRow : OpenClaim := { program := "ytefohdhmfgglgaa", sum := "66aca901ddc3fb4a2426fd9921cd6911645a927f998089c37f1c2f7a5b82df67", func := "loop.example/g00977/laws.FnPower", spec := "fnPower", apart := false }
def FnPowerSaid : Prop := fnPowerRow.holds Try.pinned (OpenSpec.ofChange fnPowerSpec)

/-- ITS FALSE NEIGHBOUR: 'it returns false'. Refute it at one input. -/
def fnPowerWrong : ChangeSpec := { name := "fnPower", fn := fun _ => fun
  | [d] => { results := [.lit (.bool false)], args := [d] }
  | _ => none }
def FnPowerWrongFalsely : Prop := fnPowerRow.holds Try.pinned (OpenSpec.ofChange fnPowerWrong)

/- THE SECOND FORM. 'bulk': how many values and letters a reading holds, each counted each time it is reached (what is shared counts as often as it is met; a slice's spare places count too). A statement '..UptoSaid' is the law's where the arguments, and the package variables that the reading takes, are together of bulk at most 1048576: NARROWER than '..Said'. Prove '..Said' where nothing that the law and all that it calls make is longer than what came in: it says more and counts as full. Else prove '..UptoSaid'. A law counts once. -/
mutual
def uptoBulk {H : Type} : DataW H → Nat
  | .lit (.string bytes) => bytes.length + 1
  | .lit _ => 1
  | .nil => 1
  | .ptr d => uptoBulk d + 1
  | .slice elems spare => uptoBulkAll elems + uptoBulkAll spare + 1
  | .agg parts => uptoBulkAll parts + 1
  | .iface _ d => uptoBulk d + 1
  | .map entries => uptoBulkEntries entries + 1
  | .held _ => 1
def uptoBulkAll {H : Type} : List (DataW H) → Nat
  | [] => 0
  | d :: r => uptoBulk d + uptoBulkAll r
def uptoBulkEntries {H : Type} : List (Lit × DataW H) → Nat
  | [] => 0
  | x :: r => uptoBulkEntry x + uptoBulkEntries r
def uptoBulkEntry {H : Type} : Lit × DataW H → Nat
  | (.string bytes, d) => bytes.length + uptoBulk d + 1
  | (_, d) => uptoBulk d + 1
 end
def uptoSmall : (H : Type) → List (DataW H) → Bool := fun _ ds => decide (uptoBulkAll ds ≤ 1048576)
def OpenSpec.upto (s : _root_.Go.ChangeSpec) : _root_.Go.OpenSpec := { _root_.Go.OpenSpec.ofChange s with cond := some uptoSmall }

/-- 'laws.FnExactDrainOk', WHERE WHAT IT READS IS OF BULK AT MOST 1048576: true; the input reads as it did. -/
def fnExactDrainOkUptoRow : OpenClaim := { program := "ytefohdhmfgglgaa", sum := "66aca901ddc3fb4a2426fd9921cd6911645a927f998089c37f1c2f7a5b82df67", func := "loop.example/g00977/laws.FnExactDrainOk", spec := "fnExactDrainOk", apart := false, narrowed := true }
def FnExactDrainOkUptoSaid : Prop := fnExactDrainOkUptoRow.holds Try.pinned (OpenSpec.upto fnExactDrainOkSpec)

/-- 'laws.FnExactPowerRuleOk', WHERE WHAT IT READS IS OF BULK AT MOST 1048576: true; the input reads as it did. -/
def fnExactPowerRuleOkUptoRow : OpenClaim := { program := "ytefohdhmfgglgaa", sum := "66aca901ddc3fb4a2426fd9921cd6911645a927f998089c37f1c2f7a5b82df67", func := "loop.example/g00977/laws.FnExactPowerRuleOk", spec := "fnExactPowerRuleOk", apart := false, narrowed := true }
def FnExactPowerRuleOkUptoSaid : Prop := fnExactPowerRuleOkUptoRow.holds Try.pinned (OpenSpec.upto fnExactPowerRuleOkSpec)

/-- 'laws.FnExactPowerOk', WHERE WHAT IT READS IS OF BULK AT MOST 1048576: true; the input reads as it did. -/
def fnExactPowerOkUptoRow : OpenClaim := { program := "ytefohdhmfgglgaa", sum := "66aca901ddc3fb4a2426fd9921cd6911645a927f998089c37f1c2f7a5b82df67", func := "loop.example/g00977/laws.FnExactPowerOk", spec := "fnExactPowerOk", apart := false, narrowed := true }
def FnExactPowerOkUptoSaid : Prop := fnExactPowerOkUptoRow.holds Try.pinned (OpenSpec.upto fnExactPowerOkSpec)

/-- 'laws.FnExactDrainAllows', WHERE WHAT IT READS IS OF BULK AT MOST 1048576: true; the input reads as it did. -/
def fnExactDrainAllowsUptoRow : OpenClaim := { program := "ytefohdhmfgglgaa", sum := "66aca901ddc3fb4a2426fd9921cd6911645a927f998089c37f1c2f7a5b82df67", func := "loop.example/g00977/laws.FnExactDrainAllows", spec := "fnExactDrainAllows", apart := false, narrowed := true }
def FnExactDrainAllowsUptoSaid : Prop := fnExactDrainAllowsUptoRow.holds Try.pinned (OpenSpec.upto fnExactDrainAllowsSpec)

/-- 'laws.FnExactDrainAfter', WHERE WHAT IT READS IS OF BULK AT MOST 1048576: true; the input reads as it did. -/
def fnExactDrainAfterUptoRow : OpenClaim := { program := "ytefohdhmfgglgaa", sum := "66aca901ddc3fb4a2426fd9921cd6911645a927f998089c37f1c2f7a5b82df67", func := "loop.example/g00977/laws.FnExactDrainAfter", spec := "fnExactDrainAfter", apart := false, narrowed := true }
def FnExactDrainAfterUptoSaid : Prop := fnExactDrainAfterUptoRow.holds Try.pinned (OpenSpec.upto fnExactDrainAfterSpec)

/-- 'laws.FnExactPowerIdle', WHERE WHAT IT READS IS OF BULK AT MOST 1048576: true; the input reads as it did. -/
def fnExactPowerIdleUptoRow : OpenClaim := { program := "ytefohdhmfgglgaa", sum := "66aca901ddc3fb4a2426fd9921cd6911645a927f998089c37f1c2f7a5b82df67", func := "loop.example/g00977/laws.FnExactPowerIdle", spec := "fnExactPowerIdle", apart := false, narrowed := true }
def FnExactPowerIdleUptoSaid : Prop := fnExactPowerIdleUptoRow.holds Try.pinned (OpenSpec.upto fnExactPowerIdleSpec)

/-- 'laws.FnExactPowerWant', WHERE WHAT IT READS IS OF BULK AT MOST 1048576: true; the input reads as it did. -/
def fnExactPowerWantUptoRow : OpenClaim := { program := "ytefohdhmfgglgaa", sum := "66aca901ddc3fb4a2426fd9921cd6911645a927f998089c37f1c2f7a5b82df67", func := "loop.example/g00977/laws.FnExactPowerWant", spec := "fnExactPowerWant", apart := false, narrowed := true }
def FnExactPowerWantUptoSaid : Prop := fnExactPowerWantUptoRow.holds Try.pinned (OpenSpec.upto fnExactPowerWantSpec)

/-- 'laws.FnExactPowerChange', WHERE WHAT IT READS IS OF BULK AT MOST 1048576: true; the input reads as it did. -/
def fnExactPowerChangeUptoRow : OpenClaim := { program := "ytefohdhmfgglgaa", sum := "66aca901ddc3fb4a2426fd9921cd6911645a927f998089c37f1c2f7a5b82df67", func := "loop.example/g00977/laws.FnExactPowerChange", spec := "fnExactPowerChange", apart := false, narrowed := true }
def FnExactPowerChangeUptoSaid : Prop := fnExactPowerChangeUptoRow.holds Try.pinned (OpenSpec.upto fnExactPowerChangeSpec)

/-- 'laws.FnExactDrainSwitches', WHERE WHAT IT READS IS OF BULK AT MOST 1048576: true; the input reads as it did. -/
def fnExactDrainSwitchesUptoRow : OpenClaim := { program := "ytefohdhmfgglgaa", sum := "66aca901ddc3fb4a2426fd9921cd6911645a927f998089c37f1c2f7a5b82df67", func := "loop.example/g00977/laws.FnExactDrainSwitches", spec := "fnExactDrainSwitches", apart := false, narrowed := true }
def FnExactDrainSwitchesUptoSaid : Prop := fnExactDrainSwitchesUptoRow.holds Try.pinned (OpenSpec.upto fnExactDrainSwitchesSpec)

/-- 'laws.FnIdle', WHERE WHAT IT READS IS OF BULK AT MOST 1048576: true; the input reads as it did. -/
def fnIdleUptoRow : OpenClaim := { program := "ytefohdhmfgglgaa", sum := "66aca901ddc3fb4a2426fd9921cd6911645a927f998089c37f1c2f7a5b82df67", func := "loop.example/g00977/laws.FnIdle", spec := "fnIdle", apart := false, narrowed := true }
def FnIdleUptoSaid : Prop := fnIdleUptoRow.holds Try.pinned (OpenSpec.upto fnIdleSpec)

/-- 'laws.FnDrains', WHERE WHAT IT READS IS OF BULK AT MOST 1048576: true; the input reads as it did. -/
def fnDrainsUptoRow : OpenClaim := { program := "ytefohdhmfgglgaa", sum := "66aca901ddc3fb4a2426fd9921cd6911645a927f998089c37f1c2f7a5b82df67", func := "loop.example/g00977/laws.FnDrains", spec := "fnDrains", apart := false, narrowed := true }
def FnDrainsUptoSaid : Prop := fnDrainsUptoRow.holds Try.pinned (OpenSpec.upto fnDrainsSpec)

/-- 'laws.FnPower', WHERE WHAT IT READS IS OF BULK AT MOST 1048576: true; the input reads as it did. -/
def fnPowerUptoRow : OpenClaim := { program := "ytefohdhmfgglgaa", sum := "66aca901ddc3fb4a2426fd9921cd6911645a927f998089c37f1c2f7a5b82df67", func := "loop.example/g00977/laws.FnPower", spec := "fnPower", apart := false, narrowed := true }
def FnPowerUptoSaid : Prop := fnPowerUptoRow.holds Try.pinned (OpenSpec.upto fnPowerSpec)

end Rows
end Go.Proofs.Ytefohdhmfgglgaa
