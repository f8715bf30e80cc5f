/-
  No cell of these rows narrows 'for every input' (looked for: loops, veiled, ifaces, maps, wideKeys, modest, calm, conditions, laid).
  DERIVED. THE GIVEN ROWS OF THIS SEAT. 12 by the template 'for every input the law returns true; each argument reads behind the call as it read before'; 0 by the template 'total and deterministic' (their statements: YtbkoifghabnmeaaTotals.lean).
  GIVEN WITH THE SEED: the statements are not yours to turn. If you find one false, say at which input.
  Laid BY PROGRAM, IN A SANDBOX (cutbox-rows.mjs): the forced cells as the released guide's own fill.sh prints them over the translation 72be99dbe7cda321… (all of the seat's roots in one cut). By AI agents, Wed Nov 11 2026. No macro, syntax, notation, axiom, sorry.
-/
import Derived.Test.YtbkoifghabnmeaaChecked
import GoSem.Claim
import GoSem.ClaimJoined
import GoSem.ClaimMapViews
import Derived.JoinedTies
import Derived.KernelRfl
namespace Go.Proofs.Ytbkoifghabnmeaa
/- THE CELL 'sum', in the pinned program and in every row, IS THE sha256 OF THE DUMP (.gsa) THAT YtbkoifghabnmeaaProg.lean LOADS. Nothing in Lean hashes anything: it is a label: what it is worth is what the hold of that sum in a sandbox is worth. -/
noncomputable def Try.pinned : Pinned := { name := "ytbkoifghabnmeaa", sum := "72be99dbe7cda321bf0a06c1fc2f95df3d9ecc8c30373d918e97f004769ea6f5", checked := Try.checked }
namespace Rows
def none {H : Type} : Left H := { results := [], args := [] }

/-- 'laws.FnExactConstants': WHATEVER THE INPUT: true; the input reads as it did. -/
def fnExactConstantsSpec : ChangeSpec := { name := "fnExactConstants", fn := fun _ => fun
  | [] => { results := [.lit (.bool true)], args := [] }
  | _ => none }
def fnExactConstantsRow : OpenClaim := { program := "ytbkoifghabnmeaa", sum := "72be99dbe7cda321bf0a06c1fc2f95df3d9ecc8c30373d918e97f004769ea6f5", func := "loop.example/g00673/laws.FnExactConstants", spec := "fnExactConstants", apart := false }
def FnExactConstantsSaid : Prop := fnExactConstantsRow.holds Try.pinned (OpenSpec.ofChange fnExactConstantsSpec)

/-- ITS FALSE NEIGHBOUR: 'it returns false'. Refute it at one input. -/
def fnExactConstantsWrong : ChangeSpec := { name := "fnExactConstants", fn := fun _ => fun
  | [] => { results := [.lit (.bool false)], args := [] }
  | _ => none }
def FnExactConstantsWrongFalsely : Prop := fnExactConstantsRow.holds Try.pinned (OpenSpec.ofChange fnExactConstantsWrong)

/-- 'laws.FnExactIsDue': WHATEVER THE INPUT: true; the input reads as it did. -/
def fnExactIsDueSpec : ChangeSpec := { name := "fnExactIsDue", fn := fun _ => fun
  | [d1, d2] => { results := [.lit (.bool true)], args := [d1, d2] }
  | _ => none }
def fnExactIsDueRow : OpenClaim := { program := "ytbkoifghabnmeaa", sum := "72be99dbe7cda321bf0a06c1fc2f95df3d9ecc8c30373d918e97f004769ea6f5", func := "loop.example/g00673/laws.FnExactIsDue", spec := "fnExactIsDue", apart := false }
def FnExactIsDueSaid : Prop := fnExactIsDueRow.holds Try.pinned (OpenSpec.ofChange fnExactIsDueSpec)

/-- ITS FALSE NEIGHBOUR: 'it returns false'. Refute it at one input. -/
def fnExactIsDueWrong : ChangeSpec := { name := "fnExactIsDue", fn := fun _ => fun
  | [d1, d2] => { results := [.lit (.bool false)], args := [d1, d2] }
  | _ => none }
def FnExactIsDueWrongFalsely : Prop := fnExactIsDueRow.holds Try.pinned (OpenSpec.ofChange fnExactIsDueWrong)

/-- 'laws.FnExactSooner': WHATEVER THE INPUT: true; the input reads as it did. -/
def fnExactSoonerSpec : ChangeSpec := { name := "fnExactSooner", fn := fun _ => fun
  | [d1, d2] => { results := [.lit (.bool true)], args := [d1, d2] }
  | _ => none }
def fnExactSoonerRow : OpenClaim := { program := "ytbkoifghabnmeaa", sum := "72be99dbe7cda321bf0a06c1fc2f95df3d9ecc8c30373d918e97f004769ea6f5", func := "loop.example/g00673/laws.FnExactSooner", spec := "fnExactSooner", apart := false }
def FnExactSoonerSaid : Prop := fnExactSoonerRow.holds Try.pinned (OpenSpec.ofChange fnExactSoonerSpec)

/-- ITS FALSE NEIGHBOUR: 'it returns false'. Refute it at one input. -/
def fnExactSoonerWrong : ChangeSpec := { name := "fnExactSooner", fn := fun _ => fun
  | [d1, d2] => { results := [.lit (.bool false)], args := [d1, d2] }
  | _ => none }
def FnExactSoonerWrongFalsely : Prop := fnExactSoonerRow.holds Try.pinned (OpenSpec.ofChange fnExactSoonerWrong)

/-- 'laws.FnExactLater': WHATEVER THE INPUT: true; the input reads as it did. -/
def fnExactLaterSpec : ChangeSpec := { name := "fnExactLater", fn := fun _ => fun
  | [d1, d2] => { results := [.lit (.bool true)], args := [d1, d2] }
  | _ => none }
def fnExactLaterRow : OpenClaim := { program := "ytbkoifghabnmeaa", sum := "72be99dbe7cda321bf0a06c1fc2f95df3d9ecc8c30373d918e97f004769ea6f5", func := "loop.example/g00673/laws.FnExactLater", spec := "fnExactLater", apart := false }
def FnExactLaterSaid : Prop := fnExactLaterRow.holds Try.pinned (OpenSpec.ofChange fnExactLaterSpec)

/-- ITS FALSE NEIGHBOUR: 'it returns false'. Refute it at one input. -/
def fnExactLaterWrong : ChangeSpec := { name := "fnExactLater", fn := fun _ => fun
  | [d1, d2] => { results := [.lit (.bool false)], args := [d1, d2] }
  | _ => none }
def FnExactLaterWrongFalsely : Prop := fnExactLaterRow.holds Try.pinned (OpenSpec.ofChange fnExactLaterWrong)

/-- 'laws.FnExactBetween': WHATEVER THE INPUT: true; the input reads as it did. -/
def fnExactBetweenSpec : ChangeSpec := { name := "fnExactBetween", fn := fun _ => fun
  | [d1, d2] => { results := [.lit (.bool true)], args := [d1, d2] }
  | _ => none }
def fnExactBetweenRow : OpenClaim := { program := "ytbkoifghabnmeaa", sum := "72be99dbe7cda321bf0a06c1fc2f95df3d9ecc8c30373d918e97f004769ea6f5", func := "loop.example/g00673/laws.FnExactBetween", spec := "fnExactBetween", apart := false }
def FnExactBetweenSaid : Prop := fnExactBetweenRow.holds Try.pinned (OpenSpec.ofChange fnExactBetweenSpec)

/-- ITS FALSE NEIGHBOUR: 'it returns false'. Refute it at one input. -/
def fnExactBetweenWrong : ChangeSpec := { name := "fnExactBetween", fn := fun _ => fun
  | [d1, d2] => { results := [.lit (.bool false)], args := [d1, d2] }
  | _ => none }
def FnExactBetweenWrongFalsely : Prop := fnExactBetweenRow.holds Try.pinned (OpenSpec.ofChange fnExactBetweenWrong)

/-- 'laws.FnExactTaskOk': WHATEVER THE INPUT: true; the input reads as it did. -/
def fnExactTaskOkSpec : ChangeSpec := { name := "fnExactTaskOk", fn := fun _ => fun
  | [d] => { results := [.lit (.bool true)], args := [d] }
  | _ => none }
def fnExactTaskOkRow : OpenClaim := { program := "ytbkoifghabnmeaa", sum := "72be99dbe7cda321bf0a06c1fc2f95df3d9ecc8c30373d918e97f004769ea6f5", func := "loop.example/g00673/laws.FnExactTaskOk", spec := "fnExactTaskOk", apart := false }
def FnExactTaskOkSaid : Prop := fnExactTaskOkRow.holds Try.pinned (OpenSpec.ofChange fnExactTaskOkSpec)

/-- ITS FALSE NEIGHBOUR: 'it returns false'. Refute it at one input. -/
def fnExactTaskOkWrong : ChangeSpec := { name := "fnExactTaskOk", fn := fun _ => fun
  | [d] => { results := [.lit (.bool false)], args := [d] }
  | _ => none }
def FnExactTaskOkWrongFalsely : Prop := fnExactTaskOkRow.holds Try.pinned (OpenSpec.ofChange fnExactTaskOkWrong)

/-- 'laws.FnExactInsOk': WHATEVER THE INPUT: true; the input reads as it did. -/
def fnExactInsOkSpec : ChangeSpec := { name := "fnExactInsOk", fn := fun _ => fun
  | [d] => { results := [.lit (.bool true)], args := [d] }
  | _ => none }
def fnExactInsOkRow : OpenClaim := { program := "ytbkoifghabnmeaa", sum := "72be99dbe7cda321bf0a06c1fc2f95df3d9ecc8c30373d918e97f004769ea6f5", func := "loop.example/g00673/laws.FnExactInsOk", spec := "fnExactInsOk", apart := false }
def FnExactInsOkSaid : Prop := fnExactInsOkRow.holds Try.pinned (OpenSpec.ofChange fnExactInsOkSpec)

/-- ITS FALSE NEIGHBOUR: 'it returns false'. Refute it at one input. -/
def fnExactInsOkWrong : ChangeSpec := { name := "fnExactInsOk", fn := fun _ => fun
  | [d] => { results := [.lit (.bool false)], args := [d] }
  | _ => none }
def FnExactInsOkWrongFalsely : Prop := fnExactInsOkRow.holds Try.pinned (OpenSpec.ofChange fnExactInsOkWrong)

/-- 'laws.FnLater': WHATEVER THE INPUT: true; the input reads as it did. -/
def fnLaterSpec : ChangeSpec := { name := "fnLater", fn := fun _ => fun
  | [d] => { results := [.lit (.bool true)], args := [d] }
  | _ => none }
def fnLaterRow : OpenClaim := { program := "ytbkoifghabnmeaa", sum := "72be99dbe7cda321bf0a06c1fc2f95df3d9ecc8c30373d918e97f004769ea6f5", func := "loop.example/g00673/laws.FnLater", spec := "fnLater", apart := false }
def FnLaterSaid : Prop := fnLaterRow.holds Try.pinned (OpenSpec.ofChange fnLaterSpec)

/-- ITS FALSE NEIGHBOUR: 'it returns false'. Refute it at one input. -/
def fnLaterWrong : ChangeSpec := { name := "fnLater", fn := fun _ => fun
  | [d] => { results := [.lit (.bool false)], args := [d] }
  | _ => none }
def FnLaterWrongFalsely : Prop := fnLaterRow.holds Try.pinned (OpenSpec.ofChange fnLaterWrong)

/-- 'laws.FnExactNewTask': WHATEVER THE INPUT: true; the input reads as it did. -/
def fnExactNewTaskSpec : ChangeSpec := { name := "fnExactNewTask", fn := fun _ => fun
  | [d1, d2] => { results := [.lit (.bool true)], args := [d1, d2] }
  | _ => none }
def fnExactNewTaskRow : OpenClaim := { program := "ytbkoifghabnmeaa", sum := "72be99dbe7cda321bf0a06c1fc2f95df3d9ecc8c30373d918e97f004769ea6f5", func := "loop.example/g00673/laws.FnExactNewTask", spec := "fnExactNewTask", apart := false }
def FnExactNewTaskSaid : Prop := fnExactNewTaskRow.holds Try.pinned (OpenSpec.ofChange fnExactNewTaskSpec)

/-- ITS FALSE NEIGHBOUR: 'it returns false'. Refute it at one input. -/
def fnExactNewTaskWrong : ChangeSpec := { name := "fnExactNewTask", fn := fun _ => fun
  | [d1, d2] => { results := [.lit (.bool false)], args := [d1, d2] }
  | _ => none }
def FnExactNewTaskWrongFalsely : Prop := fnExactNewTaskRow.holds Try.pinned (OpenSpec.ofChange fnExactNewTaskWrong)

/-- 'laws.FnExactNewSlots': WHATEVER THE INPUT: true; the input reads as it did. -/
def fnExactNewSlotsSpec : ChangeSpec := { name := "fnExactNewSlots", fn := fun _ => fun
  | [d] => { results := [.lit (.bool true)], args := [d] }
  | _ => none }
def fnExactNewSlotsRow : OpenClaim := { program := "ytbkoifghabnmeaa", sum := "72be99dbe7cda321bf0a06c1fc2f95df3d9ecc8c30373d918e97f004769ea6f5", func := "loop.example/g00673/laws.FnExactNewSlots", spec := "fnExactNewSlots", apart := false }
def FnExactNewSlotsSaid : Prop := fnExactNewSlotsRow.holds Try.pinned (OpenSpec.ofChange fnExactNewSlotsSpec)

/-- ITS FALSE NEIGHBOUR: 'it returns false'. Refute it at one input. -/
def fnExactNewSlotsWrong : ChangeSpec := { name := "fnExactNewSlots", fn := fun _ => fun
  | [d] => { results := [.lit (.bool false)], args := [d] }
  | _ => none }
def FnExactNewSlotsWrongFalsely : Prop := fnExactNewSlotsRow.holds Try.pinned (OpenSpec.ofChange fnExactNewSlotsWrong)

/-- 'laws.FnBetween': WHATEVER THE INPUT: true; the input reads as it did. -/
def fnBetweenSpec : ChangeSpec := { name := "fnBetween", fn := fun _ => fun
  | [d] => { results := [.lit (.bool true)], args := [d] }
  | _ => none }
def fnBetweenRow : OpenClaim := { program := "ytbkoifghabnmeaa", sum := "72be99dbe7cda321bf0a06c1fc2f95df3d9ecc8c30373d918e97f004769ea6f5", func := "loop.example/g00673/laws.FnBetween", spec := "fnBetween", apart := false }
def FnBetweenSaid : Prop := fnBetweenRow.holds Try.pinned (OpenSpec.ofChange fnBetweenSpec)

/-- ITS FALSE NEIGHBOUR: 'it returns false'. Refute it at one input. -/
def fnBetweenWrong : ChangeSpec := { name := "fnBetween", fn := fun _ => fun
  | [d] => { results := [.lit (.bool false)], args := [d] }
  | _ => none }
def FnBetweenWrongFalsely : Prop := fnBetweenRow.holds Try.pinned (OpenSpec.ofChange fnBetweenWrong)

/-- 'laws.FnExactTreeOk': WHATEVER THE INPUT: true; the input reads as it did. -/
def fnExactTreeOkSpec : ChangeSpec := { name := "fnExactTreeOk", fn := fun _ => fun
  | [d] => { results := [.lit (.bool true)], args := [d] }
  | _ => none }
def fnExactTreeOkRow : OpenClaim := { program := "ytbkoifghabnmeaa", sum := "72be99dbe7cda321bf0a06c1fc2f95df3d9ecc8c30373d918e97f004769ea6f5", func := "loop.example/g00673/laws.FnExactTreeOk", spec := "fnExactTreeOk", apart := false }
def FnExactTreeOkSaid : Prop := fnExactTreeOkRow.holds Try.pinned (OpenSpec.ofChange fnExactTreeOkSpec)

/-- ITS FALSE NEIGHBOUR: 'it returns false'. Refute it at one input. -/
def fnExactTreeOkWrong : ChangeSpec := { name := "fnExactTreeOk", fn := fun _ => fun
  | [d] => { results := [.lit (.bool false)], args := [d] }
  | _ => none }
def FnExactTreeOkWrongFalsely : Prop := fnExactTreeOkRow.holds Try.pinned (OpenSpec.ofChange fnExactTreeOkWrong)

/- THE SECOND FORM. 'bulk': how many values and letters a reading holds, each counted each time it is reached (what is shared counts as often as it is met; a slice's spare places count too). A statement '..UptoSaid' is the law's where the arguments, and the package variables that the reading takes, are together of bulk at most 1048576: NARROWER than '..Said'. Prove '..Said' where nothing that the law and all that it calls make is longer than what came in: it says more and counts as full. Else prove '..UptoSaid'. A law counts once. -/
mutual
def uptoBulk {H : Type} : DataW H → Nat
  | .lit (.string bytes) => bytes.length + 1
  | .lit _ => 1
  | .nil => 1
  | .ptr d => uptoBulk d + 1
  | .slice elems spare => uptoBulkAll elems + uptoBulkAll spare + 1
  | .agg parts => uptoBulkAll parts + 1
  | .iface _ d => uptoBulk d + 1
  | .map entries => uptoBulkEntries entries + 1
  | .held _ => 1
def uptoBulkAll {H : Type} : List (DataW H) → Nat
  | [] => 0
  | d :: r => uptoBulk d + uptoBulkAll r
def uptoBulkEntries {H : Type} : List (Lit × DataW H) → Nat
  | [] => 0
  | x :: r => uptoBulkEntry x + uptoBulkEntries r
def uptoBulkEntry {H : Type} : Lit × DataW H → Nat
  | (.string bytes, d) => bytes.length + uptoBulk d + 1
  | (_, d) => uptoBulk d + 1
 end
def uptoSmall : (H : Type) → List (DataW H) → Bool := fun _ ds => decide (uptoBulkAll ds ≤ 1048576)
def OpenSpec.upto (s : _root_.Go.ChangeSpec) : _root_.Go.OpenSpec := { _root_.Go.OpenSpec.ofChange s with cond := some uptoSmall }

/-- 'laws.FnExactConstants', WHERE WHAT IT READS IS OF BULK AT MOST 1048576: true; the input reads as it did. -/
def fnExactConstantsUptoRow : OpenClaim := { program := "ytbkoifghabnmeaa", sum := "72be99dbe7cda321bf0a06c1fc2f95df3d9ecc8c30373d918e97f004769ea6f5", func := "loop.example/g00673/laws.FnExactConstants", spec := "fnExactConstants", apart := false, narrowed := true }
def FnExactConstantsUptoSaid : Prop := fnExactConstantsUptoRow.holds Try.pinned (OpenSpec.upto fnExactConstantsSpec)

/-- 'laws.FnExactIsDue', WHERE WHAT IT READS IS OF BULK AT MOST 1048576: true; the input reads as it did. -/
def fnExactIsDueUptoRow : OpenClaim := { program := "ytbkoifghabnmeaa", sum := "72be99dbe7cda321bf0a06c1fc2f95df3d9ecc8c30373d918e97f004769ea6f5", func := "loop.example/g00673/laws.FnExactIsDue", spec := "fnExactIsDue", apart := false, narrowed := true }
def FnExactIsDueUptoSaid : Prop := fnExactIsDueUptoRow.holds Try.pinned (OpenSpec.upto fnExactIsDueSpec)

/-- 'laws.FnExactSooner', WHERE WHAT IT READS IS OF BULK AT MOST 1048576: true; the input reads as it did. -/
def fnExactSoonerUptoRow : OpenClaim := { program := "ytbkoifghabnmeaa", sum := "72be99dbe7cda321bf0a06c1fc2f95df3d9ecc8c30373d918e97f004769ea6f5", func := "loop.example/g00673/laws.FnExactSooner", spec := "fnExactSooner", apart := false, narrowed := true }
def FnExactSoonerUptoSaid : Prop := fnExactSoonerUptoRow.holds Try.pinned (OpenSpec.upto fnExactSoonerSpec)

/-- 'laws.FnExactLater', WHERE WHAT IT READS IS OF BULK AT MOST 1048576: true; the input reads as it did. -/
def fnExactLaterUptoRow : OpenClaim := { program := "ytbkoifghabnmeaa", sum := "72be99dbe7cda321bf0a06c1fc2f95df3d9ecc8c30373d918e97f004769ea6f5", func := "loop.example/g00673/laws.FnExactLater", spec := "fnExactLater", apart := false, narrowed := true }
def FnExactLaterUptoSaid : Prop := fnExactLaterUptoRow.holds Try.pinned (OpenSpec.upto fnExactLaterSpec)

/-- 'laws.FnExactBetween', WHERE WHAT IT READS IS OF BULK AT MOST 1048576: true; the input reads as it did. -/
def fnExactBetweenUptoRow : OpenClaim := { program := "ytbkoifghabnmeaa", sum := "72be99dbe7cda321bf0a06c1fc2f95df3d9ecc8c30373d918e97f004769ea6f5", func := "loop.example/g00673/laws.FnExactBetween", spec := "fnExactBetween", apart := false, narrowed := true }
def FnExactBetweenUptoSaid : Prop := fnExactBetweenUptoRow.holds Try.pinned (OpenSpec.upto fnExactBetweenSpec)

/-- 'laws.FnExactTaskOk', WHERE WHAT IT READS IS OF BULK AT MOST 1048576: true; the input reads as it did. -/
def fnExactTaskOkUptoRow : OpenClaim := { program := "ytbkoifghabnmeaa", sum := "72be99dbe7cda321bf0a06c1fc2f95df3d9ecc8c30373d918e97f004769ea6f5", func := "loop.example/g00673/laws.FnExactTaskOk", spec := "fnExactTaskOk", apart := false, narrowed := true }
def FnExactTaskOkUptoSaid : Prop := fnExactTaskOkUptoRow.holds Try.pinned (OpenSpec.upto fnExactTaskOkSpec)

/-- 'laws.FnExactInsOk', WHERE WHAT IT READS IS OF BULK AT MOST 1048576: true; the input reads as it did. -/
def fnExactInsOkUptoRow : OpenClaim := { program := "ytbkoifghabnmeaa", sum := "72be99dbe7cda321bf0a06c1fc2f95df3d9ecc8c30373d918e97f004769ea6f5", func := "loop.example/g00673/laws.FnExactInsOk", spec := "fnExactInsOk", apart := false, narrowed := true }
def FnExactInsOkUptoSaid : Prop := fnExactInsOkUptoRow.holds Try.pinned (OpenSpec.upto fnExactInsOkSpec)

/-- 'laws.FnLater', WHERE WHAT IT READS IS OF BULK AT MOST 1048576: true; the input reads as it did. -/
def fnLaterUptoRow : OpenClaim := { program := "ytbkoifghabnmeaa", sum := "72be99dbe7cda321bf0a06c1fc2f95df3d9ecc8c30373d918e97f004769ea6f5", func := "loop.example/g00673/laws.FnLater", spec := "fnLater", apart := false, narrowed := true }
def FnLaterUptoSaid : Prop := fnLaterUptoRow.holds Try.pinned (OpenSpec.upto fnLaterSpec)

/-- 'laws.FnExactNewTask', WHERE WHAT IT READS IS OF BULK AT MOST 1048576: true; the input reads as it did. -/
def fnExactNewTaskUptoRow : OpenClaim := { program := "ytbkoifghabnmeaa", sum := "72be99dbe7cda321bf0a06c1fc2f95df3d9ecc8c30373d918e97f004769ea6f5", func := "loop.example/g00673/laws.FnExactNewTask", spec := "fnExactNewTask", apart := false, narrowed := true }
def FnExactNewTaskUptoSaid : Prop := fnExactNewTaskUptoRow.holds Try.pinned (OpenSpec.upto fnExactNewTaskSpec)

/-- 'laws.FnExactNewSlots', WHERE WHAT IT READS IS OF BULK AT MOST 1048576: true; the input reads as it did. -/
def fnExactNewSlotsUptoRow : OpenClaim := { program := "ytbkoifghabnmeaa", sum := "72be99dbe7cda321bf0a06c1fc2f95df3d9ecc8c30373d918e97f004769ea6f5", func := "loop.example/g00673/laws.FnExactNewSlots", spec := "fnExactNewSlots", apart := false, narrowed := true }
def FnExactNewSlotsUptoSaid : Prop := fnExactNewSlotsUptoRow.holds Try.pinned (OpenSpec.upto fnExactNewSlotsSpec)

/-- 'laws.FnBetween', WHERE WHAT IT READS IS OF BULK AT MOST 1048576: true; the input reads as it did. -/
def fnBetweenUptoRow : OpenClaim := { program := "ytbkoifghabnmeaa", sum := "72be99dbe7cda321bf0a06c1fc2f95df3d9ecc8c30373d918e97f004769ea6f5", func := "loop.example/g00673/laws.FnBetween", spec := "fnBetween", apart := false, narrowed := true }
def FnBetweenUptoSaid : Prop := fnBetweenUptoRow.holds Try.pinned (OpenSpec.upto fnBetweenSpec)

/-- 'laws.FnExactTreeOk', WHERE WHAT IT READS IS OF BULK AT MOST 1048576: true; the input reads as it did. -/
def fnExactTreeOkUptoRow : OpenClaim := { program := "ytbkoifghabnmeaa", sum := "72be99dbe7cda321bf0a06c1fc2f95df3d9ecc8c30373d918e97f004769ea6f5", func := "loop.example/g00673/laws.FnExactTreeOk", spec := "fnExactTreeOk", apart := false, narrowed := true }
def FnExactTreeOkUptoSaid : Prop := fnExactTreeOkUptoRow.holds Try.pinned (OpenSpec.upto fnExactTreeOkSpec)

end Rows
end Go.Proofs.Ytbkoifghabnmeaa
