-- The words that this law takes of the print, chosen by wip/prune.py.
import Derived.Test.YtpmcmaffjghiiaaWInv
import Derived.Test.YtpmcmaffjghiiaaWFootNe
namespace Go.Proofs.YtpmcmaffjghiiaaW.PrintWords
open Go.RowKit
end Go.Proofs.YtpmcmaffjghiiaaW.PrintWords
namespace Go.Proofs.YtpmcmaffjghiiaaW.PrintLast
section
variable {ops : Array Oper} {a : Act} {o og : Oper} {g : Nat} {t : Tmp} {u : Bool}
end
end Go.Proofs.YtpmcmaffjghiiaaW.PrintLast
