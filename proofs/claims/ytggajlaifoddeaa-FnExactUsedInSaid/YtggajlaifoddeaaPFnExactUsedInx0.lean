/- Written by a program of this session over the kit's print.py: plain functions with the answers of Go functions of the seat, and the proofs that the calls come to these answers. -/
import Derived.Test.YtggajlaifoddeaaProg
import Derived.Below
import Derived.Deep.Draws
import Derived.Deep.AppendLies
import Derived.Maps.AppendAt
import Derived.OwnWalk
import Derived.Laws.BytesArg
import Derived.Laws.MakeOwn
import Derived.Laws.OwnMore
import Derived.Deep.OwnRows
import Derived.Tactics
import Derived.Lib.ConvBytes
import Derived.Laws.Slices
import Derived.WalkKit
import Derived.KernelRfl
import Derived.RowKit3
import Derived.Deep.LoopGhost
import Derived.Deep.QuietTactic
import Derived.BigQuiet
import Derived.WideLaws
import Derived.Deep.DeepCutAuto
import Derived.Deep.CutBlock
import Derived.Deep.RegionHeld3
import Derived.Laws.Rows
import Derived.Lib.AppendStr
import Derived.ArgAppend
import Derived.Laws.IdiomCopy
import Derived.OrdersHeld
import Derived.Laws.BitsLemmas
import Derived.RowKit
import Derived.Test.YtggajlaifoddeaaWWords
import Derived.Test.YtggajlaifoddeaaWLast
import Derived.Test.YtggajlaifoddeaaWTab
import Derived.Test.YtggajlaifoddeaaWFour
import Derived.Test.YtggajlaifoddeaaWQPut
import Derived.Test.YtggajlaifoddeaaWApart
import Derived.Test.YtggajlaifoddeaaWArr
import Derived.Test.YtggajlaifoddeaaWZeros
import Derived.Test.YtggajlaifoddeaaWFoot
import Derived.Test.YtggajlaifoddeaaWKept
import Derived.Test.YtggajlaifoddeaaWShare
import Derived.Test.YtggajlaifoddeaaWN
import Derived.Test.YtggajlaifoddeaaWFootNe
import Derived.Test.YtggajlaifoddeaaWAt
import Derived.Test.YtggajlaifoddeaaWEqStruct
import Derived.Test.YtggajlaifoddeaaWRepsOne
import Derived.Test.YtggajlaifoddeaaWInv
import Derived.Test.YtggajlaifoddeaaWInvWords
import Derived.Test.YtggajlaifoddeaaWGuard
import Derived.Test.YtggajlaifoddeaaWNEv
import Derived.Test.YtggajlaifoddeaaWMore
namespace Go.Proofs.Ytggajlaifoddeaa.PFnExactUsedIn
open Go.RowKit Go.Proofs.YtggajlaifoddeaaW.PrintWords Go.Proofs.YtggajlaifoddeaaW.PrintLast Go.Proofs.YtggajlaifoddeaaW.PrintMore
attribute [local go_sem] max2_int min2_int max_two min_two max_three min_three max_four min_four   -- for this text's walks alone
set_option linter.unusedVariables false
set_option linter.unusedSimpArgs false



def errW : Option Int → Value
  | none => .nilIface
  | some c => .iface 0 (.int .i64 c)
theorem errW_none : errW none = .nilIface := rfl
theorem errW_some (c : Int) : errW (some c) = .iface 0 (.int .i64 c) := rfl

theorem info2 : (Try.prog.info? 2).map (fun i => (i.zero, i.size, i.bytes)) = some (some (.int .i64 0), 1, 8) := by kernel_rfl
theorem info4 : (Try.prog.info? 4).map (fun i => (i.zero, i.size, i.bytes)) = some (some (.bool false), 1, 1) := by kernel_rfl
-- the values' own types

end Go.Proofs.Ytggajlaifoddeaa.PFnExactUsedIn
