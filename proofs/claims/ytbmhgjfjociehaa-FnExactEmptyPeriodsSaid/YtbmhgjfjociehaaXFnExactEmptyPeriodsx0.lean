-- Made by wip/xprint.py: the print of the kit, called over a changed copy of what it reads.
-- PRINTED by print.py (a twelfth state) out of the translation. Not trusted: Lean checks it.
import Derived.Test.YtbmhgjfjociehaaProg
import Derived.Below
import Derived.Deep.Draws
import Derived.Deep.AppendLies
import Derived.Maps.AppendAt
import Derived.OwnWalk
import Derived.Laws.BytesArg
import Derived.Laws.MakeOwn
import Derived.Laws.OwnMore
import Derived.Deep.OwnRows
import Derived.Tactics
import Derived.Lib.ConvBytes
import Derived.Laws.Slices
import Derived.WalkKit
import Derived.KernelRfl
import Derived.RowKit3
import Derived.Deep.LoopGhost
import Derived.Deep.QuietTactic
import Derived.BigQuiet
import Derived.WideLaws
import Derived.Deep.DeepCutAuto
import Derived.Deep.CutBlock
import Derived.Deep.RegionHeld3
import Derived.Laws.Rows
import Derived.Lib.AppendStr
import Derived.ArgAppend
import Derived.Laws.IdiomCopy
import Derived.OrdersHeld
import Derived.Laws.BitsLemmas
import Derived.RowKit
import Derived.Test.YtbmhgjfjociehaaWWords
import Derived.Test.YtbmhgjfjociehaaWLast
import Derived.Test.YtbmhgjfjociehaaWTab
import Derived.Test.YtbmhgjfjociehaaWFour
import Derived.Test.YtbmhgjfjociehaaWQPut
import Derived.Test.YtbmhgjfjociehaaWApart
import Derived.Test.YtbmhgjfjociehaaWArr
import Derived.Test.YtbmhgjfjociehaaWZeros
import Derived.Test.YtbmhgjfjociehaaWFoot
import Derived.Test.YtbmhgjfjociehaaWKept
import Derived.Test.YtbmhgjfjociehaaWShare
import Derived.Test.YtbmhgjfjociehaaWN
import Derived.Test.YtbmhgjfjociehaaWFootNe
import Derived.Test.YtbmhgjfjociehaaWAt
import Derived.Test.YtbmhgjfjociehaaWEqStruct
import Derived.Test.YtbmhgjfjociehaaWRepsOne
import Derived.Test.YtbmhgjfjociehaaWInv
import Derived.Test.YtbmhgjfjociehaaWInvWords
import Derived.Test.YtbmhgjfjociehaaWGuard
import Derived.Test.YtbmhgjfjociehaaWNEv
import Derived.Test.YtbmhgjfjociehaaWMore
namespace Go.Proofs.Ytbmhgjfjociehaa.PFnExactEmptyPeriods
open Go.RowKit Go.Proofs.YtbmhgjfjociehaaW.PrintWords Go.Proofs.YtbmhgjfjociehaaW.PrintLast Go.Proofs.YtbmhgjfjociehaaW.PrintMore
attribute [local go_sem] max2_int min2_int max_two min_two max_three min_three max_four min_four   -- for this text's walks alone
set_option linter.unusedVariables false
set_option linter.unusedSimpArgs false



def errW : Option Int → Value
  | none => .nilIface
  | some c => .iface 0 (.int .i64 c)
theorem errW_none : errW none = .nilIface := rfl
theorem errW_some (c : Int) : errW (some c) = .iface 0 (.int .i64 c) := rfl

theorem info3 : (Try.prog.info? 3).map (fun i => (i.zero, i.size, i.bytes)) = some (some (.int .i64 0), 1, 8) := by kernel_rfl
-- the values' own types

end Go.Proofs.Ytbmhgjfjociehaa.PFnExactEmptyPeriods
