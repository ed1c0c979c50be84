-- Made by wip/xprint.py: the print of the kit, called over a changed copy of what it reads.
-- PRINTED by print.py (a twelfth state) out of the translation. Not trusted: Lean checks it.
import Derived.Test.YtecciinjpimmmaaProg
import Derived.Below
import Derived.Deep.Draws
import Derived.Deep.AppendLies
import Derived.Maps.AppendAt
import Derived.OwnWalk
import Derived.Laws.BytesArg
import Derived.Laws.MakeOwn
import Derived.Laws.OwnMore
import Derived.Deep.OwnRows
import Derived.Tactics
import Derived.Lib.ConvBytes
import Derived.Laws.Slices
import Derived.WalkKit
import Derived.KernelRfl
import Derived.RowKit3
import Derived.Deep.LoopGhost
import Derived.Deep.QuietTactic
import Derived.BigQuiet
import Derived.WideLaws
import Derived.Deep.DeepCutAuto
import Derived.Deep.CutBlock
import Derived.Deep.RegionHeld3
import Derived.Laws.Rows
import Derived.Lib.AppendStr
import Derived.ArgAppend
import Derived.Laws.IdiomCopy
import Derived.OrdersHeld
import Derived.Laws.BitsLemmas
import Derived.RowKit
import Derived.Test.YtecciinjpimmmaaWWords
import Derived.Test.YtecciinjpimmmaaWLast
import Derived.Test.YtecciinjpimmmaaWTab
import Derived.Test.YtecciinjpimmmaaWFour
import Derived.Test.YtecciinjpimmmaaWQPut
import Derived.Test.YtecciinjpimmmaaWApart
import Derived.Test.YtecciinjpimmmaaWArr
import Derived.Test.YtecciinjpimmmaaWZeros
import Derived.Test.YtecciinjpimmmaaWFoot
import Derived.Test.YtecciinjpimmmaaWKept
import Derived.Test.YtecciinjpimmmaaWShare
import Derived.Test.YtecciinjpimmmaaWN
import Derived.Test.YtecciinjpimmmaaWFootNe
import Derived.Test.YtecciinjpimmmaaWAt
import Derived.Test.YtecciinjpimmmaaWEqStruct
import Derived.Test.YtecciinjpimmmaaWRepsOne
import Derived.Test.YtecciinjpimmmaaWInv
import Derived.Test.YtecciinjpimmmaaWInvWords
import Derived.Test.YtecciinjpimmmaaWGuard
import Derived.Test.YtecciinjpimmmaaWNEv
import Derived.Test.YtecciinjpimmmaaWMore
namespace Go.Proofs.Ytecciinjpimmmaa.PFnDistributions
open Go.RowKit Go.Proofs.YtecciinjpimmmaaW.PrintWords Go.Proofs.YtecciinjpimmmaaW.PrintLast Go.Proofs.YtecciinjpimmmaaW.PrintMore
attribute [local go_sem] max2_int min2_int max_two min_two max_three min_three max_four min_four   -- for this text's walks alone
set_option linter.unusedVariables false
set_option linter.unusedSimpArgs false



def errW : Option Int → Value
  | none => .nilIface
  | some c => .iface 0 (.int .i64 c)
theorem errW_none : errW none = .nilIface := rfl
theorem errW_some (c : Int) : errW (some c) = .iface 0 (.int .i64 c) := rfl

theorem info3 : (Try.prog.info? 3).map (fun i => (i.zero, i.size, i.bytes)) = some (some (.int .i64 0), 1, 8) := by kernel_rfl
theorem info5 : (Try.prog.info? 5).map (fun i => (i.zero, i.size, i.bytes)) = some (some (.int .u8 0), 1, 1) := by kernel_rfl
-- the values' own types

end Go.Proofs.Ytecciinjpimmmaa.PFnDistributions
