/-
  No cell of these rows narrows 'for every input' (looked for: loops, veiled, ifaces, maps, wideKeys, modest, calm, conditions, laid).
  DERIVED. THE GIVEN ROWS OF THIS SEAT. 8 by the template 'for every input the law returns true; each argument reads behind the call as it read before'; 0 by the template 'total and deterministic' (their statements: YtggajlaifoddeaaTotals.lean).
  GIVEN WITH THE SEED: the statements are not yours to turn. If you find one false, say at which input.
  Laid BY PROGRAM, IN A SANDBOX (cutbox-rows.mjs): the forced cells as the released guide's own fill.sh prints them over the translation 465daa9d1bb71885… (all of the seat's roots in one cut). By AI agents, Wed Nov 11 2026. No macro, syntax, notation, axiom, sorry.
-/
import Derived.Test.YtggajlaifoddeaaChecked
import GoSem.Claim
import GoSem.ClaimJoined
import GoSem.ClaimMapViews
import Derived.JoinedTies
import Derived.KernelRfl
namespace Go.Proofs.Ytggajlaifoddeaa
/- THE CELL 'sum', in the pinned program and in every row, IS THE sha256 OF THE DUMP (.gsa) THAT YtggajlaifoddeaaProg.lean LOADS. Nothing in Lean hashes anything: it is a label: what it is worth is what the hold of that sum in a sandbox is worth. -/
noncomputable def Try.pinned : Pinned := { name := "ytggajlaifoddeaa", sum := "465daa9d1bb71885f68417ee866cf1a0cd112959e9cef2f1a983a82324d69145", checked := Try.checked }
namespace Rows
def none {H : Type} : Left H := { results := [], args := [] }

/-- 'laws.FnExactSlotsOk': WHATEVER THE INPUT: true; the input reads as it did. -/
def fnExactSlotsOkSpec : ChangeSpec := { name := "fnExactSlotsOk", fn := fun _ => fun
  | [d] => { results := [.lit (.bool true)], args := [d] }
  | _ => none }
def fnExactSlotsOkRow : OpenClaim := { program := "ytggajlaifoddeaa", sum := "465daa9d1bb71885f68417ee866cf1a0cd112959e9cef2f1a983a82324d69145", func := "loop.example/g00673/laws.FnExactSlotsOk", spec := "fnExactSlotsOk", unfollowed := true, recurses := true, apart := false }
def FnExactSlotsOkSaid : Prop := fnExactSlotsOkRow.holds Try.pinned (OpenSpec.ofChange fnExactSlotsOkSpec)

/-- ITS FALSE NEIGHBOUR: 'it returns false'. Refute it at one input. -/
def fnExactSlotsOkWrong : ChangeSpec := { name := "fnExactSlotsOk", fn := fun _ => fun
  | [d] => { results := [.lit (.bool false)], args := [d] }
  | _ => none }
def FnExactSlotsOkWrongFalsely : Prop := fnExactSlotsOkRow.holds Try.pinned (OpenSpec.ofChange fnExactSlotsOkWrong)

/-- 'laws.FnExactHolds': WHATEVER THE INPUT: true; the input reads as it did. -/
def fnExactHoldsSpec : ChangeSpec := { name := "fnExactHolds", fn := fun _ => fun
  | [d1, d2] => { results := [.lit (.bool true)], args := [d1, d2] }
  | _ => none }
def fnExactHoldsRow : OpenClaim := { program := "ytggajlaifoddeaa", sum := "465daa9d1bb71885f68417ee866cf1a0cd112959e9cef2f1a983a82324d69145", func := "loop.example/g00673/laws.FnExactHolds", spec := "fnExactHolds", unfollowed := true, recurses := true, apart := false }
def FnExactHoldsSaid : Prop := fnExactHoldsRow.holds Try.pinned (OpenSpec.ofChange fnExactHoldsSpec)

/-- ITS FALSE NEIGHBOUR: 'it returns false'. Refute it at one input. -/
def fnExactHoldsWrong : ChangeSpec := { name := "fnExactHolds", fn := fun _ => fun
  | [d1, d2] => { results := [.lit (.bool false)], args := [d1, d2] }
  | _ => none }
def FnExactHoldsWrongFalsely : Prop := fnExactHoldsRow.holds Try.pinned (OpenSpec.ofChange fnExactHoldsWrong)

/-- 'laws.FnExactProgOk': WHATEVER THE INPUT: true; the input reads as it did. -/
def fnExactProgOkSpec : ChangeSpec := { name := "fnExactProgOk", fn := fun _ => fun
  | [d] => { results := [.lit (.bool true)], args := [d] }
  | _ => none }
def fnExactProgOkRow : OpenClaim := { program := "ytggajlaifoddeaa", sum := "465daa9d1bb71885f68417ee866cf1a0cd112959e9cef2f1a983a82324d69145", func := "loop.example/g00673/laws.FnExactProgOk", spec := "fnExactProgOk", unfollowed := true, recurses := true, apart := false }
def FnExactProgOkSaid : Prop := fnExactProgOkRow.holds Try.pinned (OpenSpec.ofChange fnExactProgOkSpec)

/-- ITS FALSE NEIGHBOUR: 'it returns false'. Refute it at one input. -/
def fnExactProgOkWrong : ChangeSpec := { name := "fnExactProgOk", fn := fun _ => fun
  | [d] => { results := [.lit (.bool false)], args := [d] }
  | _ => none }
def FnExactProgOkWrongFalsely : Prop := fnExactProgOkRow.holds Try.pinned (OpenSpec.ofChange fnExactProgOkWrong)

/-- 'laws.FnExactValueIn': WHATEVER THE INPUT: true; the input reads as it did. -/
def fnExactValueInSpec : ChangeSpec := { name := "fnExactValueIn", fn := fun _ => fun
  | [d1, d2, d3] => { results := [.lit (.bool true)], args := [d1, d2, d3] }
  | _ => none }
def fnExactValueInRow : OpenClaim := { program := "ytggajlaifoddeaa", sum := "465daa9d1bb71885f68417ee866cf1a0cd112959e9cef2f1a983a82324d69145", func := "loop.example/g00673/laws.FnExactValueIn", spec := "fnExactValueIn", apart := false }
def FnExactValueInSaid : Prop := fnExactValueInRow.holds Try.pinned (OpenSpec.ofChange fnExactValueInSpec)

/-- ITS FALSE NEIGHBOUR: 'it returns false'. Refute it at one input. -/
def fnExactValueInWrong : ChangeSpec := { name := "fnExactValueIn", fn := fun _ => fun
  | [d1, d2, d3] => { results := [.lit (.bool false)], args := [d1, d2, d3] }
  | _ => none }
def FnExactValueInWrongFalsely : Prop := fnExactValueInRow.holds Try.pinned (OpenSpec.ofChange fnExactValueInWrong)

/-- 'laws.FnExactUsedIn': WHATEVER THE INPUT: true; the input reads as it did. -/
def fnExactUsedInSpec : ChangeSpec := { name := "fnExactUsedIn", fn := fun _ => fun
  | [d] => { results := [.lit (.bool true)], args := [d] }
  | _ => none }
def fnExactUsedInRow : OpenClaim := { program := "ytggajlaifoddeaa", sum := "465daa9d1bb71885f68417ee866cf1a0cd112959e9cef2f1a983a82324d69145", func := "loop.example/g00673/laws.FnExactUsedIn", spec := "fnExactUsedIn", unfollowed := true, recurses := true, apart := false }
def FnExactUsedInSaid : Prop := fnExactUsedInRow.holds Try.pinned (OpenSpec.ofChange fnExactUsedInSpec)

/-- ITS FALSE NEIGHBOUR: 'it returns false'. Refute it at one input. -/
def fnExactUsedInWrong : ChangeSpec := { name := "fnExactUsedIn", fn := fun _ => fun
  | [d] => { results := [.lit (.bool false)], args := [d] }
  | _ => none }
def FnExactUsedInWrongFalsely : Prop := fnExactUsedInRow.holds Try.pinned (OpenSpec.ofChange fnExactUsedInWrong)

/-- 'laws.FnExactDueOf': WHATEVER THE INPUT: true; the input reads as it did. -/
def fnExactDueOfSpec : ChangeSpec := { name := "fnExactDueOf", fn := fun _ => fun
  | [d1, d2] => { results := [.lit (.bool true)], args := [d1, d2] }
  | _ => none }
def fnExactDueOfRow : OpenClaim := { program := "ytggajlaifoddeaa", sum := "465daa9d1bb71885f68417ee866cf1a0cd112959e9cef2f1a983a82324d69145", func := "loop.example/g00673/laws.FnExactDueOf", spec := "fnExactDueOf", apart := false }
def FnExactDueOfSaid : Prop := fnExactDueOfRow.holds Try.pinned (OpenSpec.ofChange fnExactDueOfSpec)

/-- ITS FALSE NEIGHBOUR: 'it returns false'. Refute it at one input. -/
def fnExactDueOfWrong : ChangeSpec := { name := "fnExactDueOf", fn := fun _ => fun
  | [d1, d2] => { results := [.lit (.bool false)], args := [d1, d2] }
  | _ => none }
def FnExactDueOfWrongFalsely : Prop := fnExactDueOfRow.holds Try.pinned (OpenSpec.ofChange fnExactDueOfWrong)

/-- 'laws.FnExactNewAfters': WHATEVER THE INPUT: true; the input reads as it did. -/
def fnExactNewAftersSpec : ChangeSpec := { name := "fnExactNewAfters", fn := fun _ => fun
  | [d] => { results := [.lit (.bool true)], args := [d] }
  | _ => none }
def fnExactNewAftersRow : OpenClaim := { program := "ytggajlaifoddeaa", sum := "465daa9d1bb71885f68417ee866cf1a0cd112959e9cef2f1a983a82324d69145", func := "loop.example/g00673/laws.FnExactNewAfters", spec := "fnExactNewAfters", apart := false }
def FnExactNewAftersSaid : Prop := fnExactNewAftersRow.holds Try.pinned (OpenSpec.ofChange fnExactNewAftersSpec)

/-- ITS FALSE NEIGHBOUR: 'it returns false'. Refute it at one input. -/
def fnExactNewAftersWrong : ChangeSpec := { name := "fnExactNewAfters", fn := fun _ => fun
  | [d] => { results := [.lit (.bool false)], args := [d] }
  | _ => none }
def FnExactNewAftersWrongFalsely : Prop := fnExactNewAftersRow.holds Try.pinned (OpenSpec.ofChange fnExactNewAftersWrong)

/-- 'laws.FnExactAftersOk': WHATEVER THE INPUT: true; the input reads as it did. -/
def fnExactAftersOkSpec : ChangeSpec := { name := "fnExactAftersOk", fn := fun _ => fun
  | [d] => { results := [.lit (.bool true)], args := [d] }
  | _ => none }
def fnExactAftersOkRow : OpenClaim := { program := "ytggajlaifoddeaa", sum := "465daa9d1bb71885f68417ee866cf1a0cd112959e9cef2f1a983a82324d69145", func := "loop.example/g00673/laws.FnExactAftersOk", spec := "fnExactAftersOk", unfollowed := true, recurses := true, apart := false }
def FnExactAftersOkSaid : Prop := fnExactAftersOkRow.holds Try.pinned (OpenSpec.ofChange fnExactAftersOkSpec)

/-- ITS FALSE NEIGHBOUR: 'it returns false'. Refute it at one input. -/
def fnExactAftersOkWrong : ChangeSpec := { name := "fnExactAftersOk", fn := fun _ => fun
  | [d] => { results := [.lit (.bool false)], args := [d] }
  | _ => none }
def FnExactAftersOkWrongFalsely : Prop := fnExactAftersOkRow.holds Try.pinned (OpenSpec.ofChange fnExactAftersOkWrong)

/- THE SECOND FORM. 'bulk': how many values and letters a reading holds, each counted each time it is reached (what is shared counts as often as it is met; a slice's spare places count too). A statement '..UptoSaid' is the law's where the arguments, and the package variables that the reading takes, are together of bulk at most 1048576: NARROWER than '..Said'. Prove '..Said' where nothing that the law and all that it calls make is longer than what came in: it says more and counts as full. Else prove '..UptoSaid'. A law counts once. -/
mutual
def uptoBulk {H : Type} : DataW H → Nat
  | .lit (.string bytes) => bytes.length + 1
  | .lit _ => 1
  | .nil => 1
  | .ptr d => uptoBulk d + 1
  | .slice elems spare => uptoBulkAll elems + uptoBulkAll spare + 1
  | .agg parts => uptoBulkAll parts + 1
  | .iface _ d => uptoBulk d + 1
  | .map entries => uptoBulkEntries entries + 1
  | .held _ => 1
def uptoBulkAll {H : Type} : List (DataW H) → Nat
  | [] => 0
  | d :: r => uptoBulk d + uptoBulkAll r
def uptoBulkEntries {H : Type} : List (Lit × DataW H) → Nat
  | [] => 0
  | x :: r => uptoBulkEntry x + uptoBulkEntries r
def uptoBulkEntry {H : Type} : Lit × DataW H → Nat
  | (.string bytes, d) => bytes.length + uptoBulk d + 1
  | (_, d) => uptoBulk d + 1
 end
def uptoSmall : (H : Type) → List (DataW H) → Bool := fun _ ds => decide (uptoBulkAll ds ≤ 1048576)
def OpenSpec.upto (s : _root_.Go.ChangeSpec) : _root_.Go.OpenSpec := { _root_.Go.OpenSpec.ofChange s with cond := some uptoSmall }

/-- 'laws.FnExactSlotsOk', WHERE WHAT IT READS IS OF BULK AT MOST 1048576: true; the input reads as it did. -/
def fnExactSlotsOkUptoRow : OpenClaim := { program := "ytggajlaifoddeaa", sum := "465daa9d1bb71885f68417ee866cf1a0cd112959e9cef2f1a983a82324d69145", func := "loop.example/g00673/laws.FnExactSlotsOk", spec := "fnExactSlotsOk", unfollowed := true, recurses := true, apart := false, narrowed := true }
def FnExactSlotsOkUptoSaid : Prop := fnExactSlotsOkUptoRow.holds Try.pinned (OpenSpec.upto fnExactSlotsOkSpec)

/-- 'laws.FnExactHolds', WHERE WHAT IT READS IS OF BULK AT MOST 1048576: true; the input reads as it did. -/
def fnExactHoldsUptoRow : OpenClaim := { program := "ytggajlaifoddeaa", sum := "465daa9d1bb71885f68417ee866cf1a0cd112959e9cef2f1a983a82324d69145", func := "loop.example/g00673/laws.FnExactHolds", spec := "fnExactHolds", unfollowed := true, recurses := true, apart := false, narrowed := true }
def FnExactHoldsUptoSaid : Prop := fnExactHoldsUptoRow.holds Try.pinned (OpenSpec.upto fnExactHoldsSpec)

/-- 'laws.FnExactProgOk', WHERE WHAT IT READS IS OF BULK AT MOST 1048576: true; the input reads as it did. -/
def fnExactProgOkUptoRow : OpenClaim := { program := "ytggajlaifoddeaa", sum := "465daa9d1bb71885f68417ee866cf1a0cd112959e9cef2f1a983a82324d69145", func := "loop.example/g00673/laws.FnExactProgOk", spec := "fnExactProgOk", unfollowed := true, recurses := true, apart := false, narrowed := true }
def FnExactProgOkUptoSaid : Prop := fnExactProgOkUptoRow.holds Try.pinned (OpenSpec.upto fnExactProgOkSpec)

/-- 'laws.FnExactValueIn', WHERE WHAT IT READS IS OF BULK AT MOST 1048576: true; the input reads as it did. -/
def fnExactValueInUptoRow : OpenClaim := { program := "ytggajlaifoddeaa", sum := "465daa9d1bb71885f68417ee866cf1a0cd112959e9cef2f1a983a82324d69145", func := "loop.example/g00673/laws.FnExactValueIn", spec := "fnExactValueIn", apart := false, narrowed := true }
def FnExactValueInUptoSaid : Prop := fnExactValueInUptoRow.holds Try.pinned (OpenSpec.upto fnExactValueInSpec)

/-- 'laws.FnExactUsedIn', WHERE WHAT IT READS IS OF BULK AT MOST 1048576: true; the input reads as it did. -/
def fnExactUsedInUptoRow : OpenClaim := { program := "ytggajlaifoddeaa", sum := "465daa9d1bb71885f68417ee866cf1a0cd112959e9cef2f1a983a82324d69145", func := "loop.example/g00673/laws.FnExactUsedIn", spec := "fnExactUsedIn", unfollowed := true, recurses := true, apart := false, narrowed := true }
def FnExactUsedInUptoSaid : Prop := fnExactUsedInUptoRow.holds Try.pinned (OpenSpec.upto fnExactUsedInSpec)

/-- 'laws.FnExactDueOf', WHERE WHAT IT READS IS OF BULK AT MOST 1048576: true; the input reads as it did. -/
def fnExactDueOfUptoRow : OpenClaim := { program := "ytggajlaifoddeaa", sum := "465daa9d1bb71885f68417ee866cf1a0cd112959e9cef2f1a983a82324d69145", func := "loop.example/g00673/laws.FnExactDueOf", spec := "fnExactDueOf", apart := false, narrowed := true }
def FnExactDueOfUptoSaid : Prop := fnExactDueOfUptoRow.holds Try.pinned (OpenSpec.upto fnExactDueOfSpec)

/-- 'laws.FnExactNewAfters', WHERE WHAT IT READS IS OF BULK AT MOST 1048576: true; the input reads as it did. -/
def fnExactNewAftersUptoRow : OpenClaim := { program := "ytggajlaifoddeaa", sum := "465daa9d1bb71885f68417ee866cf1a0cd112959e9cef2f1a983a82324d69145", func := "loop.example/g00673/laws.FnExactNewAfters", spec := "fnExactNewAfters", apart := false, narrowed := true }
def FnExactNewAftersUptoSaid : Prop := fnExactNewAftersUptoRow.holds Try.pinned (OpenSpec.upto fnExactNewAftersSpec)

/-- 'laws.FnExactAftersOk', WHERE WHAT IT READS IS OF BULK AT MOST 1048576: true; the input reads as it did. -/
def fnExactAftersOkUptoRow : OpenClaim := { program := "ytggajlaifoddeaa", sum := "465daa9d1bb71885f68417ee866cf1a0cd112959e9cef2f1a983a82324d69145", func := "loop.example/g00673/laws.FnExactAftersOk", spec := "fnExactAftersOk", unfollowed := true, recurses := true, apart := false, narrowed := true }
def FnExactAftersOkUptoSaid : Prop := fnExactAftersOkUptoRow.holds Try.pinned (OpenSpec.upto fnExactAftersOkSpec)

end Rows
end Go.Proofs.Ytggajlaifoddeaa
