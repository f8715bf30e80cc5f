/-
  No cell of these rows narrows 'for every input' (looked for: loops, veiled, ifaces, maps, wideKeys, modest, calm, conditions, laid).
  DERIVED. THE GIVEN ROWS OF THIS SEAT. 12 by the template 'for every input the law returns true; each argument reads behind the call as it read before'; 0 by the template 'total and deterministic' (their statements: YtcndchcepajmjaaTotals.lean).
  GIVEN WITH THE SEED: the statements are not yours to turn. If you find one false, say at which input.
  Laid BY PROGRAM, IN A SANDBOX (cutbox-rows.mjs): the forced cells as the released guide's own fill.sh prints them over the translation 31477f3dc99cedaa… (all of the seat's roots in one cut). By AI agents, Wed Nov 11 2026. No macro, syntax, notation, axiom, sorry.
-/
import Derived.Test.YtcndchcepajmjaaChecked
import GoSem.Claim
import GoSem.ClaimJoined
import GoSem.ClaimMapViews
import Derived.JoinedTies
import Derived.KernelRfl
namespace Go.Proofs.Ytcndchcepajmjaa
/- THE CELL 'sum', in the pinned program and in every row, IS THE sha256 OF THE DUMP (.gsa) THAT YtcndchcepajmjaaProg.lean LOADS. Nothing in Lean hashes anything: it is a label: what it is worth is what the hold of that sum in a sandbox is worth. -/
noncomputable def Try.pinned : Pinned := { name := "ytcndchcepajmjaa", sum := "31477f3dc99cedaa427719dd2a888cf6f0f52cf2b3333cc06867b77cb1506c03", checked := Try.checked }
namespace Rows
def none {H : Type} : Left H := { results := [], args := [] }

/-- 'laws.FnExactGrown': WHATEVER THE INPUT: true; the input reads as it did. -/
def fnExactGrownSpec : ChangeSpec := { name := "fnExactGrown", fn := fun _ => fun
  | [d1, d2] => { results := [.lit (.bool true)], args := [d1, d2] }
  | _ => none }
def fnExactGrownRow : OpenClaim := { program := "ytcndchcepajmjaa", sum := "31477f3dc99cedaa427719dd2a888cf6f0f52cf2b3333cc06867b77cb1506c03", func := "loop.example/g00673/laws.FnExactGrown", spec := "fnExactGrown", apart := false }
def FnExactGrownSaid : Prop := fnExactGrownRow.holds Try.pinned (OpenSpec.ofChange fnExactGrownSpec)

/-- ITS FALSE NEIGHBOUR: 'it returns false'. Refute it at one input. -/
def fnExactGrownWrong : ChangeSpec := { name := "fnExactGrown", fn := fun _ => fun
  | [d1, d2] => { results := [.lit (.bool false)], args := [d1, d2] }
  | _ => none }
def FnExactGrownWrongFalsely : Prop := fnExactGrownRow.holds Try.pinned (OpenSpec.ofChange fnExactGrownWrong)

/-- 'laws.FnExactChainOf': WHATEVER THE INPUT: true; the input reads as it did. -/
def fnExactChainOfSpec : ChangeSpec := { name := "fnExactChainOf", fn := fun _ => fun
  | [d1, d2] => { results := [.lit (.bool true)], args := [d1, d2] }
  | _ => none }
def fnExactChainOfRow : OpenClaim := { program := "ytcndchcepajmjaa", sum := "31477f3dc99cedaa427719dd2a888cf6f0f52cf2b3333cc06867b77cb1506c03", func := "loop.example/g00673/laws.FnExactChainOf", spec := "fnExactChainOf", apart := false }
def FnExactChainOfSaid : Prop := fnExactChainOfRow.holds Try.pinned (OpenSpec.ofChange fnExactChainOfSpec)

/-- ITS FALSE NEIGHBOUR: 'it returns false'. Refute it at one input. -/
def fnExactChainOfWrong : ChangeSpec := { name := "fnExactChainOf", fn := fun _ => fun
  | [d1, d2] => { results := [.lit (.bool false)], args := [d1, d2] }
  | _ => none }
def FnExactChainOfWrongFalsely : Prop := fnExactChainOfRow.holds Try.pinned (OpenSpec.ofChange fnExactChainOfWrong)

/-- 'laws.FnExactChildrenOf': WHATEVER THE INPUT: true; the input reads as it did. -/
def fnExactChildrenOfSpec : ChangeSpec := { name := "fnExactChildrenOf", fn := fun _ => fun
  | [d1, d2] => { results := [.lit (.bool true)], args := [d1, d2] }
  | _ => none }
def fnExactChildrenOfRow : OpenClaim := { program := "ytcndchcepajmjaa", sum := "31477f3dc99cedaa427719dd2a888cf6f0f52cf2b3333cc06867b77cb1506c03", func := "loop.example/g00673/laws.FnExactChildrenOf", spec := "fnExactChildrenOf", apart := false }
def FnExactChildrenOfSaid : Prop := fnExactChildrenOfRow.holds Try.pinned (OpenSpec.ofChange fnExactChildrenOfSpec)

/-- ITS FALSE NEIGHBOUR: 'it returns false'. Refute it at one input. -/
def fnExactChildrenOfWrong : ChangeSpec := { name := "fnExactChildrenOf", fn := fun _ => fun
  | [d1, d2] => { results := [.lit (.bool false)], args := [d1, d2] }
  | _ => none }
def FnExactChildrenOfWrongFalsely : Prop := fnExactChildrenOfRow.holds Try.pinned (OpenSpec.ofChange fnExactChildrenOfWrong)

/-- 'laws.FnValues': WHATEVER THE INPUT: true; the input reads as it did. -/
def fnValuesSpec : ChangeSpec := { name := "fnValues", fn := fun _ => fun
  | [d] => { results := [.lit (.bool true)], args := [d] }
  | _ => none }
def fnValuesRow : OpenClaim := { program := "ytcndchcepajmjaa", sum := "31477f3dc99cedaa427719dd2a888cf6f0f52cf2b3333cc06867b77cb1506c03", func := "loop.example/g00673/laws.FnValues", spec := "fnValues", apart := false }
def FnValuesSaid : Prop := fnValuesRow.holds Try.pinned (OpenSpec.ofChange fnValuesSpec)

/-- ITS FALSE NEIGHBOUR: 'it returns false'. Refute it at one input. -/
def fnValuesWrong : ChangeSpec := { name := "fnValues", fn := fun _ => fun
  | [d] => { results := [.lit (.bool false)], args := [d] }
  | _ => none }
def FnValuesWrongFalsely : Prop := fnValuesRow.holds Try.pinned (OpenSpec.ofChange fnValuesWrong)

/-- 'laws.FnChains': WHATEVER THE INPUT: true; the input reads as it did. -/
def fnChainsSpec : ChangeSpec := { name := "fnChains", fn := fun _ => fun
  | [d] => { results := [.lit (.bool true)], args := [d] }
  | _ => none }
def fnChainsRow : OpenClaim := { program := "ytcndchcepajmjaa", sum := "31477f3dc99cedaa427719dd2a888cf6f0f52cf2b3333cc06867b77cb1506c03", func := "loop.example/g00673/laws.FnChains", spec := "fnChains", apart := false }
def FnChainsSaid : Prop := fnChainsRow.holds Try.pinned (OpenSpec.ofChange fnChainsSpec)

/-- ITS FALSE NEIGHBOUR: 'it returns false'. Refute it at one input. -/
def fnChainsWrong : ChangeSpec := { name := "fnChains", fn := fun _ => fun
  | [d] => { results := [.lit (.bool false)], args := [d] }
  | _ => none }
def FnChainsWrongFalsely : Prop := fnChainsRow.holds Try.pinned (OpenSpec.ofChange fnChainsWrong)

/-- 'laws.FnExactEventsOk': WHATEVER THE INPUT: true; the input reads as it did. -/
def fnExactEventsOkSpec : ChangeSpec := { name := "fnExactEventsOk", fn := fun _ => fun
  | [d1, d2] => { results := [.lit (.bool true)], args := [d1, d2] }
  | _ => none }
def fnExactEventsOkRow : OpenClaim := { program := "ytcndchcepajmjaa", sum := "31477f3dc99cedaa427719dd2a888cf6f0f52cf2b3333cc06867b77cb1506c03", func := "loop.example/g00673/laws.FnExactEventsOk", spec := "fnExactEventsOk", apart := false }
def FnExactEventsOkSaid : Prop := fnExactEventsOkRow.holds Try.pinned (OpenSpec.ofChange fnExactEventsOkSpec)

/-- ITS FALSE NEIGHBOUR: 'it returns false'. Refute it at one input. -/
def fnExactEventsOkWrong : ChangeSpec := { name := "fnExactEventsOk", fn := fun _ => fun
  | [d1, d2] => { results := [.lit (.bool false)], args := [d1, d2] }
  | _ => none }
def FnExactEventsOkWrongFalsely : Prop := fnExactEventsOkRow.holds Try.pinned (OpenSpec.ofChange fnExactEventsOkWrong)

/-- 'laws.FnExactFirstOf': WHATEVER THE INPUT: true; the input reads as it did. -/
def fnExactFirstOfSpec : ChangeSpec := { name := "fnExactFirstOf", fn := fun _ => fun
  | [d1, d2, d3] => { results := [.lit (.bool true)], args := [d1, d2, d3] }
  | _ => none }
def fnExactFirstOfRow : OpenClaim := { program := "ytcndchcepajmjaa", sum := "31477f3dc99cedaa427719dd2a888cf6f0f52cf2b3333cc06867b77cb1506c03", func := "loop.example/g00673/laws.FnExactFirstOf", spec := "fnExactFirstOf", apart := false }
def FnExactFirstOfSaid : Prop := fnExactFirstOfRow.holds Try.pinned (OpenSpec.ofChange fnExactFirstOfSpec)

/-- ITS FALSE NEIGHBOUR: 'it returns false'. Refute it at one input. -/
def fnExactFirstOfWrong : ChangeSpec := { name := "fnExactFirstOf", fn := fun _ => fun
  | [d1, d2, d3] => { results := [.lit (.bool false)], args := [d1, d2, d3] }
  | _ => none }
def FnExactFirstOfWrongFalsely : Prop := fnExactFirstOfRow.holds Try.pinned (OpenSpec.ofChange fnExactFirstOfWrong)

/-- 'laws.FnExactCauseOf': WHATEVER THE INPUT: true; the input reads as it did. -/
def fnExactCauseOfSpec : ChangeSpec := { name := "fnExactCauseOf", fn := fun _ => fun
  | [d1, d2, d3] => { results := [.lit (.bool true)], args := [d1, d2, d3] }
  | _ => none }
def fnExactCauseOfRow : OpenClaim := { program := "ytcndchcepajmjaa", sum := "31477f3dc99cedaa427719dd2a888cf6f0f52cf2b3333cc06867b77cb1506c03", func := "loop.example/g00673/laws.FnExactCauseOf", spec := "fnExactCauseOf", apart := false }
def FnExactCauseOfSaid : Prop := fnExactCauseOfRow.holds Try.pinned (OpenSpec.ofChange fnExactCauseOfSpec)

/-- ITS FALSE NEIGHBOUR: 'it returns false'. Refute it at one input. -/
def fnExactCauseOfWrong : ChangeSpec := { name := "fnExactCauseOf", fn := fun _ => fun
  | [d1, d2, d3] => { results := [.lit (.bool false)], args := [d1, d2, d3] }
  | _ => none }
def FnExactCauseOfWrongFalsely : Prop := fnExactCauseOfRow.holds Try.pinned (OpenSpec.ofChange fnExactCauseOfWrong)

/-- 'laws.FnExactErrOf': WHATEVER THE INPUT: true; the input reads as it did. -/
def fnExactErrOfSpec : ChangeSpec := { name := "fnExactErrOf", fn := fun _ => fun
  | [d1, d2, d3] => { results := [.lit (.bool true)], args := [d1, d2, d3] }
  | _ => none }
def fnExactErrOfRow : OpenClaim := { program := "ytcndchcepajmjaa", sum := "31477f3dc99cedaa427719dd2a888cf6f0f52cf2b3333cc06867b77cb1506c03", func := "loop.example/g00673/laws.FnExactErrOf", spec := "fnExactErrOf", apart := false }
def FnExactErrOfSaid : Prop := fnExactErrOfRow.holds Try.pinned (OpenSpec.ofChange fnExactErrOfSpec)

/-- ITS FALSE NEIGHBOUR: 'it returns false'. Refute it at one input. -/
def fnExactErrOfWrong : ChangeSpec := { name := "fnExactErrOf", fn := fun _ => fun
  | [d1, d2, d3] => { results := [.lit (.bool false)], args := [d1, d2, d3] }
  | _ => none }
def FnExactErrOfWrongFalsely : Prop := fnExactErrOfRow.holds Try.pinned (OpenSpec.ofChange fnExactErrOfWrong)

/-- 'laws.FnExactLetGo': WHATEVER THE INPUT: true; the input reads as it did. -/
def fnExactLetGoSpec : ChangeSpec := { name := "fnExactLetGo", fn := fun _ => fun
  | [d1, d2, d3] => { results := [.lit (.bool true)], args := [d1, d2, d3] }
  | _ => none }
def fnExactLetGoRow : OpenClaim := { program := "ytcndchcepajmjaa", sum := "31477f3dc99cedaa427719dd2a888cf6f0f52cf2b3333cc06867b77cb1506c03", func := "loop.example/g00673/laws.FnExactLetGo", spec := "fnExactLetGo", apart := false }
def FnExactLetGoSaid : Prop := fnExactLetGoRow.holds Try.pinned (OpenSpec.ofChange fnExactLetGoSpec)

/-- ITS FALSE NEIGHBOUR: 'it returns false'. Refute it at one input. -/
def fnExactLetGoWrong : ChangeSpec := { name := "fnExactLetGo", fn := fun _ => fun
  | [d1, d2, d3] => { results := [.lit (.bool false)], args := [d1, d2, d3] }
  | _ => none }
def FnExactLetGoWrongFalsely : Prop := fnExactLetGoRow.holds Try.pinned (OpenSpec.ofChange fnExactLetGoWrong)

/-- 'laws.FnExactDoneBy': WHATEVER THE INPUT: true; the input reads as it did. -/
def fnExactDoneBySpec : ChangeSpec := { name := "fnExactDoneBy", fn := fun _ => fun
  | [d1, d2] => { results := [.lit (.bool true)], args := [d1, d2] }
  | _ => none }
def fnExactDoneByRow : OpenClaim := { program := "ytcndchcepajmjaa", sum := "31477f3dc99cedaa427719dd2a888cf6f0f52cf2b3333cc06867b77cb1506c03", func := "loop.example/g00673/laws.FnExactDoneBy", spec := "fnExactDoneBy", apart := false }
def FnExactDoneBySaid : Prop := fnExactDoneByRow.holds Try.pinned (OpenSpec.ofChange fnExactDoneBySpec)

/-- ITS FALSE NEIGHBOUR: 'it returns false'. Refute it at one input. -/
def fnExactDoneByWrong : ChangeSpec := { name := "fnExactDoneBy", fn := fun _ => fun
  | [d1, d2] => { results := [.lit (.bool false)], args := [d1, d2] }
  | _ => none }
def FnExactDoneByWrongFalsely : Prop := fnExactDoneByRow.holds Try.pinned (OpenSpec.ofChange fnExactDoneByWrong)

/-- 'laws.FnLetGo': WHATEVER THE INPUT: true; the input reads as it did. -/
def fnLetGoSpec : ChangeSpec := { name := "fnLetGo", fn := fun _ => fun
  | [d] => { results := [.lit (.bool true)], args := [d] }
  | _ => none }
def fnLetGoRow : OpenClaim := { program := "ytcndchcepajmjaa", sum := "31477f3dc99cedaa427719dd2a888cf6f0f52cf2b3333cc06867b77cb1506c03", func := "loop.example/g00673/laws.FnLetGo", spec := "fnLetGo", apart := false }
def FnLetGoSaid : Prop := fnLetGoRow.holds Try.pinned (OpenSpec.ofChange fnLetGoSpec)

/-- ITS FALSE NEIGHBOUR: 'it returns false'. Refute it at one input. -/
def fnLetGoWrong : ChangeSpec := { name := "fnLetGo", fn := fun _ => fun
  | [d] => { results := [.lit (.bool false)], args := [d] }
  | _ => none }
def FnLetGoWrongFalsely : Prop := fnLetGoRow.holds Try.pinned (OpenSpec.ofChange fnLetGoWrong)

/- THE SECOND FORM. 'bulk': how many values and letters a reading holds, each counted each time it is reached (what is shared counts as often as it is met; a slice's spare places count too). A statement '..UptoSaid' is the law's where the arguments, and the package variables that the reading takes, are together of bulk at most 1048576: NARROWER than '..Said'. Prove '..Said' where nothing that the law and all that it calls make is longer than what came in: it says more and counts as full. Else prove '..UptoSaid'. A law counts once. -/
mutual
def uptoBulk {H : Type} : DataW H → Nat
  | .lit (.string bytes) => bytes.length + 1
  | .lit _ => 1
  | .nil => 1
  | .ptr d => uptoBulk d + 1
  | .slice elems spare => uptoBulkAll elems + uptoBulkAll spare + 1
  | .agg parts => uptoBulkAll parts + 1
  | .iface _ d => uptoBulk d + 1
  | .map entries => uptoBulkEntries entries + 1
  | .held _ => 1
def uptoBulkAll {H : Type} : List (DataW H) → Nat
  | [] => 0
  | d :: r => uptoBulk d + uptoBulkAll r
def uptoBulkEntries {H : Type} : List (Lit × DataW H) → Nat
  | [] => 0
  | x :: r => uptoBulkEntry x + uptoBulkEntries r
def uptoBulkEntry {H : Type} : Lit × DataW H → Nat
  | (.string bytes, d) => bytes.length + uptoBulk d + 1
  | (_, d) => uptoBulk d + 1
 end
def uptoSmall : (H : Type) → List (DataW H) → Bool := fun _ ds => decide (uptoBulkAll ds ≤ 1048576)
def OpenSpec.upto (s : _root_.Go.ChangeSpec) : _root_.Go.OpenSpec := { _root_.Go.OpenSpec.ofChange s with cond := some uptoSmall }

/-- 'laws.FnExactGrown', WHERE WHAT IT READS IS OF BULK AT MOST 1048576: true; the input reads as it did. -/
def fnExactGrownUptoRow : OpenClaim := { program := "ytcndchcepajmjaa", sum := "31477f3dc99cedaa427719dd2a888cf6f0f52cf2b3333cc06867b77cb1506c03", func := "loop.example/g00673/laws.FnExactGrown", spec := "fnExactGrown", apart := false, narrowed := true }
def FnExactGrownUptoSaid : Prop := fnExactGrownUptoRow.holds Try.pinned (OpenSpec.upto fnExactGrownSpec)

/-- 'laws.FnExactChainOf', WHERE WHAT IT READS IS OF BULK AT MOST 1048576: true; the input reads as it did. -/
def fnExactChainOfUptoRow : OpenClaim := { program := "ytcndchcepajmjaa", sum := "31477f3dc99cedaa427719dd2a888cf6f0f52cf2b3333cc06867b77cb1506c03", func := "loop.example/g00673/laws.FnExactChainOf", spec := "fnExactChainOf", apart := false, narrowed := true }
def FnExactChainOfUptoSaid : Prop := fnExactChainOfUptoRow.holds Try.pinned (OpenSpec.upto fnExactChainOfSpec)

/-- 'laws.FnExactChildrenOf', WHERE WHAT IT READS IS OF BULK AT MOST 1048576: true; the input reads as it did. -/
def fnExactChildrenOfUptoRow : OpenClaim := { program := "ytcndchcepajmjaa", sum := "31477f3dc99cedaa427719dd2a888cf6f0f52cf2b3333cc06867b77cb1506c03", func := "loop.example/g00673/laws.FnExactChildrenOf", spec := "fnExactChildrenOf", apart := false, narrowed := true }
def FnExactChildrenOfUptoSaid : Prop := fnExactChildrenOfUptoRow.holds Try.pinned (OpenSpec.upto fnExactChildrenOfSpec)

/-- 'laws.FnValues', WHERE WHAT IT READS IS OF BULK AT MOST 1048576: true; the input reads as it did. -/
def fnValuesUptoRow : OpenClaim := { program := "ytcndchcepajmjaa", sum := "31477f3dc99cedaa427719dd2a888cf6f0f52cf2b3333cc06867b77cb1506c03", func := "loop.example/g00673/laws.FnValues", spec := "fnValues", apart := false, narrowed := true }
def FnValuesUptoSaid : Prop := fnValuesUptoRow.holds Try.pinned (OpenSpec.upto fnValuesSpec)

/-- 'laws.FnChains', WHERE WHAT IT READS IS OF BULK AT MOST 1048576: true; the input reads as it did. -/
def fnChainsUptoRow : OpenClaim := { program := "ytcndchcepajmjaa", sum := "31477f3dc99cedaa427719dd2a888cf6f0f52cf2b3333cc06867b77cb1506c03", func := "loop.example/g00673/laws.FnChains", spec := "fnChains", apart := false, narrowed := true }
def FnChainsUptoSaid : Prop := fnChainsUptoRow.holds Try.pinned (OpenSpec.upto fnChainsSpec)

/-- 'laws.FnExactEventsOk', WHERE WHAT IT READS IS OF BULK AT MOST 1048576: true; the input reads as it did. -/
def fnExactEventsOkUptoRow : OpenClaim := { program := "ytcndchcepajmjaa", sum := "31477f3dc99cedaa427719dd2a888cf6f0f52cf2b3333cc06867b77cb1506c03", func := "loop.example/g00673/laws.FnExactEventsOk", spec := "fnExactEventsOk", apart := false, narrowed := true }
def FnExactEventsOkUptoSaid : Prop := fnExactEventsOkUptoRow.holds Try.pinned (OpenSpec.upto fnExactEventsOkSpec)

/-- 'laws.FnExactFirstOf', WHERE WHAT IT READS IS OF BULK AT MOST 1048576: true; the input reads as it did. -/
def fnExactFirstOfUptoRow : OpenClaim := { program := "ytcndchcepajmjaa", sum := "31477f3dc99cedaa427719dd2a888cf6f0f52cf2b3333cc06867b77cb1506c03", func := "loop.example/g00673/laws.FnExactFirstOf", spec := "fnExactFirstOf", apart := false, narrowed := true }
def FnExactFirstOfUptoSaid : Prop := fnExactFirstOfUptoRow.holds Try.pinned (OpenSpec.upto fnExactFirstOfSpec)

/-- 'laws.FnExactCauseOf', WHERE WHAT IT READS IS OF BULK AT MOST 1048576: true; the input reads as it did. -/
def fnExactCauseOfUptoRow : OpenClaim := { program := "ytcndchcepajmjaa", sum := "31477f3dc99cedaa427719dd2a888cf6f0f52cf2b3333cc06867b77cb1506c03", func := "loop.example/g00673/laws.FnExactCauseOf", spec := "fnExactCauseOf", apart := false, narrowed := true }
def FnExactCauseOfUptoSaid : Prop := fnExactCauseOfUptoRow.holds Try.pinned (OpenSpec.upto fnExactCauseOfSpec)

/-- 'laws.FnExactErrOf', WHERE WHAT IT READS IS OF BULK AT MOST 1048576: true; the input reads as it did. -/
def fnExactErrOfUptoRow : OpenClaim := { program := "ytcndchcepajmjaa", sum := "31477f3dc99cedaa427719dd2a888cf6f0f52cf2b3333cc06867b77cb1506c03", func := "loop.example/g00673/laws.FnExactErrOf", spec := "fnExactErrOf", apart := false, narrowed := true }
def FnExactErrOfUptoSaid : Prop := fnExactErrOfUptoRow.holds Try.pinned (OpenSpec.upto fnExactErrOfSpec)

/-- 'laws.FnExactLetGo', WHERE WHAT IT READS IS OF BULK AT MOST 1048576: true; the input reads as it did. -/
def fnExactLetGoUptoRow : OpenClaim := { program := "ytcndchcepajmjaa", sum := "31477f3dc99cedaa427719dd2a888cf6f0f52cf2b3333cc06867b77cb1506c03", func := "loop.example/g00673/laws.FnExactLetGo", spec := "fnExactLetGo", apart := false, narrowed := true }
def FnExactLetGoUptoSaid : Prop := fnExactLetGoUptoRow.holds Try.pinned (OpenSpec.upto fnExactLetGoSpec)

/-- 'laws.FnExactDoneBy', WHERE WHAT IT READS IS OF BULK AT MOST 1048576: true; the input reads as it did. -/
def fnExactDoneByUptoRow : OpenClaim := { program := "ytcndchcepajmjaa", sum := "31477f3dc99cedaa427719dd2a888cf6f0f52cf2b3333cc06867b77cb1506c03", func := "loop.example/g00673/laws.FnExactDoneBy", spec := "fnExactDoneBy", apart := false, narrowed := true }
def FnExactDoneByUptoSaid : Prop := fnExactDoneByUptoRow.holds Try.pinned (OpenSpec.upto fnExactDoneBySpec)

/-- 'laws.FnLetGo', WHERE WHAT IT READS IS OF BULK AT MOST 1048576: true; the input reads as it did. -/
def fnLetGoUptoRow : OpenClaim := { program := "ytcndchcepajmjaa", sum := "31477f3dc99cedaa427719dd2a888cf6f0f52cf2b3333cc06867b77cb1506c03", func := "loop.example/g00673/laws.FnLetGo", spec := "fnLetGo", apart := false, narrowed := true }
def FnLetGoUptoSaid : Prop := fnLetGoUptoRow.holds Try.pinned (OpenSpec.upto fnLetGoSpec)

end Rows
end Go.Proofs.Ytcndchcepajmjaa
