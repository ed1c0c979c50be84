-- The words that this law takes of the print, chosen by wip/prune.py.
import Derived.Test.YtjmjmnjlkegmbaaWInv
import Derived.Test.YtjmjmnjlkegmbaaWFootNe
namespace Go.Proofs.YtjmjmnjlkegmbaaW.PrintWords
open Go.RowKit
end Go.Proofs.YtjmjmnjlkegmbaaW.PrintWords
namespace Go.Proofs.YtjmjmnjlkegmbaaW.PrintLast
section
variable {ops : Array Oper} {a : Act} {o og : Oper} {g : Nat} {t : Tmp} {u : Bool}
end
end Go.Proofs.YtjmjmnjlkegmbaaW.PrintLast
