-- Made by wip/xprint.py: the print of the kit, called over a changed copy of what it reads.
-- PRINTED by print.py (a twelfth state) out of the translation. Not trusted: Lean checks it.
import Derived.Test.YtjkhomkdfbebgaaProg
import Derived.Below
import Derived.Deep.Draws
import Derived.Deep.AppendLies
import Derived.Maps.AppendAt
import Derived.OwnWalk
import Derived.Laws.BytesArg
import Derived.Laws.MakeOwn
import Derived.Laws.OwnMore
import Derived.Deep.OwnRows
import Derived.Tactics
import Derived.Lib.ConvBytes
import Derived.Laws.Slices
import Derived.WalkKit
import Derived.KernelRfl
import Derived.RowKit3
import Derived.Deep.LoopGhost
import Derived.Deep.QuietTactic
import Derived.BigQuiet
import Derived.WideLaws
import Derived.Deep.DeepCutAuto
import Derived.Deep.CutBlock
import Derived.Deep.RegionHeld3
import Derived.Laws.Rows
import Derived.Lib.AppendStr
import Derived.ArgAppend
import Derived.Laws.IdiomCopy
import Derived.OrdersHeld
import Derived.Laws.BitsLemmas
import Derived.RowKit
import Derived.Test.YtjkhomkdfbebgaaWWords
import Derived.Test.YtjkhomkdfbebgaaWLast
import Derived.Test.YtjkhomkdfbebgaaWTab
import Derived.Test.YtjkhomkdfbebgaaWFour
import Derived.Test.YtjkhomkdfbebgaaWQPut
import Derived.Test.YtjkhomkdfbebgaaWApart
import Derived.Test.YtjkhomkdfbebgaaWArr
import Derived.Test.YtjkhomkdfbebgaaWZeros
import Derived.Test.YtjkhomkdfbebgaaWFoot
import Derived.Test.YtjkhomkdfbebgaaWKept
import Derived.Test.YtjkhomkdfbebgaaWShare
import Derived.Test.YtjkhomkdfbebgaaWN
import Derived.Test.YtjkhomkdfbebgaaWFootNe
import Derived.Test.YtjkhomkdfbebgaaWAt
import Derived.Test.YtjkhomkdfbebgaaWEqStruct
import Derived.Test.YtjkhomkdfbebgaaWRepsOne
import Derived.Test.YtjkhomkdfbebgaaWInv
import Derived.Test.YtjkhomkdfbebgaaWInvWords
import Derived.Test.YtjkhomkdfbebgaaWGuard
import Derived.Test.YtjkhomkdfbebgaaWNEv
import Derived.Test.YtjkhomkdfbebgaaWMore
namespace Go.Proofs.Ytjkhomkdfbebgaa.PFnExactFindOffsets
open Go.RowKit Go.Proofs.YtjkhomkdfbebgaaW.PrintWords Go.Proofs.YtjkhomkdfbebgaaW.PrintLast Go.Proofs.YtjkhomkdfbebgaaW.PrintMore
attribute [local go_sem] max2_int min2_int max_two min_two max_three min_three max_four min_four   -- for this text's walks alone
set_option linter.unusedVariables false
set_option linter.unusedSimpArgs false



def errW : Option Int → Value
  | none => .nilIface
  | some c => .iface 0 (.int .i64 c)
theorem errW_none : errW none = .nilIface := rfl
theorem errW_some (c : Int) : errW (some c) = .iface 0 (.int .i64 c) := rfl

theorem info3 : (Try.prog.info? 3).map (fun i => (i.zero, i.size, i.bytes)) = some (some (.int .i64 0), 1, 8) := by kernel_rfl
-- the values' own types

end Go.Proofs.Ytjkhomkdfbebgaa.PFnExactFindOffsets
