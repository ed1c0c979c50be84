-- The words that this law takes of the print, chosen by wip/prune.py.
import Derived.Test.YtgmoljiehdeelaaWInv
import Derived.Test.YtgmoljiehdeelaaWFootNe
namespace Go.Proofs.YtgmoljiehdeelaaW.PrintWords
open Go.RowKit
end Go.Proofs.YtgmoljiehdeelaaW.PrintWords
namespace Go.Proofs.YtgmoljiehdeelaaW.PrintLast
section
variable {ops : Array Oper} {a : Act} {o og : Oper} {g : Nat} {t : Tmp} {u : Bool}
end
end Go.Proofs.YtgmoljiehdeelaaW.PrintLast
