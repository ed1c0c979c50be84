-- Made by wip/xprint.py: the print of the kit, called over a changed copy of what it reads.
-- PRINTED by print.py (a twelfth state) out of the translation. Not trusted: Lean checks it.
import Derived.Test.YtikmlhpllgikpaaProg
import Derived.Below
import Derived.Deep.Draws
import Derived.Deep.AppendLies
import Derived.Maps.AppendAt
import Derived.OwnWalk
import Derived.Laws.BytesArg
import Derived.Laws.MakeOwn
import Derived.Laws.OwnMore
import Derived.Deep.OwnRows
import Derived.Tactics
import Derived.Lib.ConvBytes
import Derived.Laws.Slices
import Derived.WalkKit
import Derived.KernelRfl
import Derived.RowKit3
import Derived.Deep.LoopGhost
import Derived.Deep.QuietTactic
import Derived.BigQuiet
import Derived.WideLaws
import Derived.Deep.DeepCutAuto
import Derived.Deep.CutBlock
import Derived.Deep.RegionHeld3
import Derived.Laws.Rows
import Derived.Lib.AppendStr
import Derived.ArgAppend
import Derived.Laws.IdiomCopy
import Derived.OrdersHeld
import Derived.Laws.BitsLemmas
import Derived.RowKit
import Derived.Test.YtikmlhpllgikpaaWWords
import Derived.Test.YtikmlhpllgikpaaWLast
import Derived.Test.YtikmlhpllgikpaaWTab
import Derived.Test.YtikmlhpllgikpaaWFour
import Derived.Test.YtikmlhpllgikpaaWQPut
import Derived.Test.YtikmlhpllgikpaaWApart
import Derived.Test.YtikmlhpllgikpaaWArr
import Derived.Test.YtikmlhpllgikpaaWZeros
import Derived.Test.YtikmlhpllgikpaaWFoot
import Derived.Test.YtikmlhpllgikpaaWKept
import Derived.Test.YtikmlhpllgikpaaWShare
import Derived.Test.YtikmlhpllgikpaaWN
import Derived.Test.YtikmlhpllgikpaaWFootNe
import Derived.Test.YtikmlhpllgikpaaWAt
import Derived.Test.YtikmlhpllgikpaaWEqStruct
import Derived.Test.YtikmlhpllgikpaaWRepsOne
import Derived.Test.YtikmlhpllgikpaaWInv
import Derived.Test.YtikmlhpllgikpaaWInvWords
import Derived.Test.YtikmlhpllgikpaaWGuard
import Derived.Test.YtikmlhpllgikpaaWNEv
import Derived.Test.YtikmlhpllgikpaaWMore
namespace Go.Proofs.Ytikmlhpllgikpaa.PFnTimetables
open Go.RowKit Go.Proofs.YtikmlhpllgikpaaW.PrintWords Go.Proofs.YtikmlhpllgikpaaW.PrintLast Go.Proofs.YtikmlhpllgikpaaW.PrintMore
attribute [local go_sem] max2_int min2_int max_two min_two max_three min_three max_four min_four   -- for this text's walks alone
set_option linter.unusedVariables false
set_option linter.unusedSimpArgs false



def errW : Option Int → Value
  | none => .nilIface
  | some c => .iface 0 (.int .i64 c)
theorem errW_none : errW none = .nilIface := rfl
theorem errW_some (c : Int) : errW (some c) = .iface 0 (.int .i64 c) := rfl

theorem info3 : (Try.prog.info? 3).map (fun i => (i.zero, i.size, i.bytes)) = some (some (.int .i64 0), 1, 8) := by kernel_rfl
-- the values' own types

end Go.Proofs.Ytikmlhpllgikpaa.PFnTimetables
