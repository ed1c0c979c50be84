-- The words that this law takes of the print, chosen by wip/prune.py.
import Derived.Test.YtknnnkkchfcjkaaWInv
import Derived.Test.YtknnnkkchfcjkaaWFootNe
namespace Go.Proofs.YtknnnkkchfcjkaaW.PrintWords
open Go.RowKit
end Go.Proofs.YtknnnkkchfcjkaaW.PrintWords
namespace Go.Proofs.YtknnnkkchfcjkaaW.PrintLast
section
variable {ops : Array Oper} {a : Act} {o og : Oper} {g : Nat} {t : Tmp} {u : Bool}
end
end Go.Proofs.YtknnnkkchfcjkaaW.PrintLast
