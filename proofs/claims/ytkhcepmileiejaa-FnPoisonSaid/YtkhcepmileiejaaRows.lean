/-
  No cell of these rows narrows 'for every input' (looked for: loops, veiled, ifaces, maps, wideKeys, modest, calm, conditions, laid).
  DERIVED. THE GIVEN ROWS OF THIS SEAT. 7 by the template 'for every input the law returns true; each argument reads behind the call as it read before'; 0 by the template 'total and deterministic' (their statements: YtkhcepmileiejaaTotals.lean).
  GIVEN WITH THE SEED: the statements are not yours to turn. If you find one false, say at which input.
  Laid BY PROGRAM, IN A SANDBOX (cutbox-rows.mjs): the forced cells as the released guide's own fill.sh prints them over the translation dee318a275c61482… (all of the seat's roots in one cut). By AI agents, Wed Nov 11 2026. No macro, syntax, notation, axiom, sorry.
-/
import Derived.Test.YtkhcepmileiejaaChecked
import GoSem.Claim
import GoSem.ClaimJoined
import GoSem.ClaimMapViews
import Derived.JoinedTies
import Derived.KernelRfl
namespace Go.Proofs.Ytkhcepmileiejaa
/- THE CELL 'sum', in the pinned program and in every row, IS THE sha256 OF THE DUMP (.gsa) THAT YtkhcepmileiejaaProg.lean LOADS. Nothing in Lean hashes anything: it is a label: what it is worth is what the hold of that sum in a sandbox is worth. -/
noncomputable def Try.pinned : Pinned := { name := "ytkhcepmileiejaa", sum := "dee318a275c61482369f066a6e8c662929f987e11730f2bea68c739bea6af382", checked := Try.checked }
namespace Rows
def none {H : Type} : Left H := { results := [], args := [] }

/-- 'laws.FnExactPoisoned': WHATEVER THE INPUT: true; the input reads as it did. -/
def fnExactPoisonedSpec : ChangeSpec := { name := "fnExactPoisoned", fn := fun _ => fun
  | [d1, d2] => { results := [.lit (.bool true)], args := [d1, d2] }
  | _ => none }
def fnExactPoisonedRow : OpenClaim := { program := "ytkhcepmileiejaa", sum := "dee318a275c61482369f066a6e8c662929f987e11730f2bea68c739bea6af382", func := "loop.example/g00977/laws.FnExactPoisoned", spec := "fnExactPoisoned", apart := false }
def FnExactPoisonedSaid : Prop := fnExactPoisonedRow.holds Try.pinned (OpenSpec.ofChange fnExactPoisonedSpec)

/-- ITS FALSE NEIGHBOUR: 'it returns false'. Refute it at one input. -/
def fnExactPoisonedWrong : ChangeSpec := { name := "fnExactPoisoned", fn := fun _ => fun
  | [d1, d2] => { results := [.lit (.bool false)], args := [d1, d2] }
  | _ => none }
def FnExactPoisonedWrongFalsely : Prop := fnExactPoisonedRow.holds Try.pinned (OpenSpec.ofChange fnExactPoisonedWrong)

/-- 'laws.FnExactPutWord': WHATEVER THE INPUT: true; the input reads as it did. -/
def fnExactPutWordSpec : ChangeSpec := { name := "fnExactPutWord", fn := fun _ => fun
  | [d1, d2, d3, d4] => { results := [.lit (.bool true)], args := [d1, d2, d3, d4] }
  | _ => none }
def fnExactPutWordRow : OpenClaim := { program := "ytkhcepmileiejaa", sum := "dee318a275c61482369f066a6e8c662929f987e11730f2bea68c739bea6af382", func := "loop.example/g00977/laws.FnExactPutWord", spec := "fnExactPutWord", apart := false }
def FnExactPutWordSaid : Prop := fnExactPutWordRow.holds Try.pinned (OpenSpec.ofChange fnExactPutWordSpec)

/-- ITS FALSE NEIGHBOUR: 'it returns false'. Refute it at one input. -/
def fnExactPutWordWrong : ChangeSpec := { name := "fnExactPutWord", fn := fun _ => fun
  | [d1, d2, d3, d4] => { results := [.lit (.bool false)], args := [d1, d2, d3, d4] }
  | _ => none }
def FnExactPutWordWrongFalsely : Prop := fnExactPutWordRow.holds Try.pinned (OpenSpec.ofChange fnExactPutWordWrong)

/-- 'laws.FnExactGetWord': WHATEVER THE INPUT: true; the input reads as it did. -/
def fnExactGetWordSpec : ChangeSpec := { name := "fnExactGetWord", fn := fun _ => fun
  | [d1, d2, d3] => { results := [.lit (.bool true)], args := [d1, d2, d3] }
  | _ => none }
def fnExactGetWordRow : OpenClaim := { program := "ytkhcepmileiejaa", sum := "dee318a275c61482369f066a6e8c662929f987e11730f2bea68c739bea6af382", func := "loop.example/g00977/laws.FnExactGetWord", spec := "fnExactGetWord", apart := false }
def FnExactGetWordSaid : Prop := fnExactGetWordRow.holds Try.pinned (OpenSpec.ofChange fnExactGetWordSpec)

/-- ITS FALSE NEIGHBOUR: 'it returns false'. Refute it at one input. -/
def fnExactGetWordWrong : ChangeSpec := { name := "fnExactGetWord", fn := fun _ => fun
  | [d1, d2, d3] => { results := [.lit (.bool false)], args := [d1, d2, d3] }
  | _ => none }
def FnExactGetWordWrongFalsely : Prop := fnExactGetWordRow.holds Try.pinned (OpenSpec.ofChange fnExactGetWordWrong)

/-- 'laws.FnExactScrubLine': WHATEVER THE INPUT: true; the input reads as it did. -/
def fnExactScrubLineSpec : ChangeSpec := { name := "fnExactScrubLine", fn := fun _ => fun
  | [d1, d2, d3] => { results := [.lit (.bool true)], args := [d1, d2, d3] }
  | _ => none }
def fnExactScrubLineRow : OpenClaim := { program := "ytkhcepmileiejaa", sum := "dee318a275c61482369f066a6e8c662929f987e11730f2bea68c739bea6af382", func := "loop.example/g00977/laws.FnExactScrubLine", spec := "fnExactScrubLine", apart := false }
def FnExactScrubLineSaid : Prop := fnExactScrubLineRow.holds Try.pinned (OpenSpec.ofChange fnExactScrubLineSpec)

/-- ITS FALSE NEIGHBOUR: 'it returns false'. Refute it at one input. -/
def fnExactScrubLineWrong : ChangeSpec := { name := "fnExactScrubLine", fn := fun _ => fun
  | [d1, d2, d3] => { results := [.lit (.bool false)], args := [d1, d2, d3] }
  | _ => none }
def FnExactScrubLineWrongFalsely : Prop := fnExactScrubLineRow.holds Try.pinned (OpenSpec.ofChange fnExactScrubLineWrong)

/-- 'laws.FnExactScrubAll': WHATEVER THE INPUT: true; the input reads as it did. -/
def fnExactScrubAllSpec : ChangeSpec := { name := "fnExactScrubAll", fn := fun _ => fun
  | [d1, d2] => { results := [.lit (.bool true)], args := [d1, d2] }
  | _ => none }
def fnExactScrubAllRow : OpenClaim := { program := "ytkhcepmileiejaa", sum := "dee318a275c61482369f066a6e8c662929f987e11730f2bea68c739bea6af382", func := "loop.example/g00977/laws.FnExactScrubAll", spec := "fnExactScrubAll", apart := false }
def FnExactScrubAllSaid : Prop := fnExactScrubAllRow.holds Try.pinned (OpenSpec.ofChange fnExactScrubAllSpec)

/-- ITS FALSE NEIGHBOUR: 'it returns false'. Refute it at one input. -/
def fnExactScrubAllWrong : ChangeSpec := { name := "fnExactScrubAll", fn := fun _ => fun
  | [d1, d2] => { results := [.lit (.bool false)], args := [d1, d2] }
  | _ => none }
def FnExactScrubAllWrongFalsely : Prop := fnExactScrubAllRow.holds Try.pinned (OpenSpec.ofChange fnExactScrubAllWrong)

/-- 'laws.FnWords': WHATEVER THE INPUT: true; the input reads as it did. -/
def fnWordsSpec : ChangeSpec := { name := "fnWords", fn := fun _ => fun
  | [d] => { results := [.lit (.bool true)], args := [d] }
  | _ => none }
def fnWordsRow : OpenClaim := { program := "ytkhcepmileiejaa", sum := "dee318a275c61482369f066a6e8c662929f987e11730f2bea68c739bea6af382", func := "loop.example/g00977/laws.FnWords", spec := "fnWords", apart := false }
def FnWordsSaid : Prop := fnWordsRow.holds Try.pinned (OpenSpec.ofChange fnWordsSpec)

/-- ITS FALSE NEIGHBOUR: 'it returns false'. Refute it at one input. -/
def fnWordsWrong : ChangeSpec := { name := "fnWords", fn := fun _ => fun
  | [d] => { results := [.lit (.bool false)], args := [d] }
  | _ => none }
def FnWordsWrongFalsely : Prop := fnWordsRow.holds Try.pinned (OpenSpec.ofChange fnWordsWrong)

/-- 'laws.FnPoison': WHATEVER THE INPUT: true; the input reads as it did. -/
def fnPoisonSpec : ChangeSpec := { name := "fnPoison", fn := fun _ => fun
  | [d] => { results := [.lit (.bool true)], args := [d] }
  | _ => none }
def fnPoisonRow : OpenClaim := { program := "ytkhcepmileiejaa", sum := "dee318a275c61482369f066a6e8c662929f987e11730f2bea68c739bea6af382", func := "loop.example/g00977/laws.FnPoison", spec := "fnPoison", apart := false }
def FnPoisonSaid : Prop := fnPoisonRow.holds Try.pinned (OpenSpec.ofChange fnPoisonSpec)

/-- ITS FALSE NEIGHBOUR: 'it returns false'. Refute it at one input. -/
def fnPoisonWrong : ChangeSpec := { name := "fnPoison", fn := fun _ => fun
  | [d] => { results := [.lit (.bool false)], args := [d] }
  | _ => none }
def FnPoisonWrongFalsely : Prop := fnPoisonRow.holds Try.pinned (OpenSpec.ofChange fnPoisonWrong)

/- THE SECOND FORM. 'bulk': how many values and letters a reading holds, each counted each time it is reached (what is shared counts as often as it is met; a slice's spare places count too). A statement '..UptoSaid' is the law's where the arguments, and the package variables that the reading takes, are together of bulk at most 1048576: NARROWER than '..Said'. Prove '..Said' where nothing that the law and all that it calls make is longer than what came in: it says more and counts as full. Else prove '..UptoSaid'. A law counts once. -/
mutual
def uptoBulk {H : Type} : DataW H → Nat
  | .lit (.string bytes) => bytes.length + 1
  | .lit _ => 1
  | .nil => 1
  | .ptr d => uptoBulk d + 1
  | .slice elems spare => uptoBulkAll elems + uptoBulkAll spare + 1
  | .agg parts => uptoBulkAll parts + 1
  | .iface _ d => uptoBulk d + 1
  | .map entries => uptoBulkEntries entries + 1
  | .held _ => 1
def uptoBulkAll {H : Type} : List (DataW H) → Nat
  | [] => 0
  | d :: r => uptoBulk d + uptoBulkAll r
def uptoBulkEntries {H : Type} : List (Lit × DataW H) → Nat
  | [] => 0
  | x :: r => uptoBulkEntry x + uptoBulkEntries r
def uptoBulkEntry {H : Type} : Lit × DataW H → Nat
  | (.string bytes, d) => bytes.length + uptoBulk d + 1
  | (_, d) => uptoBulk d + 1
 end
def uptoSmall : (H : Type) → List (DataW H) → Bool := fun _ ds => decide (uptoBulkAll ds ≤ 1048576)
def OpenSpec.upto (s : _root_.Go.ChangeSpec) : _root_.Go.OpenSpec := { _root_.Go.OpenSpec.ofChange s with cond := some uptoSmall }

/-- 'laws.FnExactPoisoned', WHERE WHAT IT READS IS OF BULK AT MOST 1048576: true; the input reads as it did. -/
def fnExactPoisonedUptoRow : OpenClaim := { program := "ytkhcepmileiejaa", sum := "dee318a275c61482369f066a6e8c662929f987e11730f2bea68c739bea6af382", func := "loop.example/g00977/laws.FnExactPoisoned", spec := "fnExactPoisoned", apart := false, narrowed := true }
def FnExactPoisonedUptoSaid : Prop := fnExactPoisonedUptoRow.holds Try.pinned (OpenSpec.upto fnExactPoisonedSpec)

/-- 'laws.FnExactPutWord', WHERE WHAT IT READS IS OF BULK AT MOST 1048576: true; the input reads as it did. -/
def fnExactPutWordUptoRow : OpenClaim := { program := "ytkhcepmileiejaa", sum := "dee318a275c61482369f066a6e8c662929f987e11730f2bea68c739bea6af382", func := "loop.example/g00977/laws.FnExactPutWord", spec := "fnExactPutWord", apart := false, narrowed := true }
def FnExactPutWordUptoSaid : Prop := fnExactPutWordUptoRow.holds Try.pinned (OpenSpec.upto fnExactPutWordSpec)

/-- 'laws.FnExactGetWord', WHERE WHAT IT READS IS OF BULK AT MOST 1048576: true; the input reads as it did. -/
def fnExactGetWordUptoRow : OpenClaim := { program := "ytkhcepmileiejaa", sum := "dee318a275c61482369f066a6e8c662929f987e11730f2bea68c739bea6af382", func := "loop.example/g00977/laws.FnExactGetWord", spec := "fnExactGetWord", apart := false, narrowed := true }
def FnExactGetWordUptoSaid : Prop := fnExactGetWordUptoRow.holds Try.pinned (OpenSpec.upto fnExactGetWordSpec)

/-- 'laws.FnExactScrubLine', WHERE WHAT IT READS IS OF BULK AT MOST 1048576: true; the input reads as it did. -/
def fnExactScrubLineUptoRow : OpenClaim := { program := "ytkhcepmileiejaa", sum := "dee318a275c61482369f066a6e8c662929f987e11730f2bea68c739bea6af382", func := "loop.example/g00977/laws.FnExactScrubLine", spec := "fnExactScrubLine", apart := false, narrowed := true }
def FnExactScrubLineUptoSaid : Prop := fnExactScrubLineUptoRow.holds Try.pinned (OpenSpec.upto fnExactScrubLineSpec)

/-- 'laws.FnExactScrubAll', WHERE WHAT IT READS IS OF BULK AT MOST 1048576: true; the input reads as it did. -/
def fnExactScrubAllUptoRow : OpenClaim := { program := "ytkhcepmileiejaa", sum := "dee318a275c61482369f066a6e8c662929f987e11730f2bea68c739bea6af382", func := "loop.example/g00977/laws.FnExactScrubAll", spec := "fnExactScrubAll", apart := false, narrowed := true }
def FnExactScrubAllUptoSaid : Prop := fnExactScrubAllUptoRow.holds Try.pinned (OpenSpec.upto fnExactScrubAllSpec)

/-- 'laws.FnWords', WHERE WHAT IT READS IS OF BULK AT MOST 1048576: true; the input reads as it did. -/
def fnWordsUptoRow : OpenClaim := { program := "ytkhcepmileiejaa", sum := "dee318a275c61482369f066a6e8c662929f987e11730f2bea68c739bea6af382", func := "loop.example/g00977/laws.FnWords", spec := "fnWords", apart := false, narrowed := true }
def FnWordsUptoSaid : Prop := fnWordsUptoRow.holds Try.pinned (OpenSpec.upto fnWordsSpec)

/-- 'laws.FnPoison', WHERE WHAT IT READS IS OF BULK AT MOST 1048576: true; the input reads as it did. -/
def fnPoisonUptoRow : OpenClaim := { program := "ytkhcepmileiejaa", sum := "dee318a275c61482369f066a6e8c662929f987e11730f2bea68c739bea6af382", func := "loop.example/g00977/laws.FnPoison", spec := "fnPoison", apart := false, narrowed := true }
def FnPoisonUptoSaid : Prop := fnPoisonUptoRow.holds Try.pinned (OpenSpec.upto fnPoisonSpec)

end Rows
end Go.Proofs.Ytkhcepmileiejaa
