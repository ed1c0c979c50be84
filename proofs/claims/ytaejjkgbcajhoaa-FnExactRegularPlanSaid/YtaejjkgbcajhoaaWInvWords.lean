-- The words that this law takes of the print, chosen by wip/prune.py.
import Derived.Test.YtaejjkgbcajhoaaWInv
import Derived.Test.YtaejjkgbcajhoaaWFootNe
namespace Go.Proofs.YtaejjkgbcajhoaaW.PrintWords
open Go.RowKit
end Go.Proofs.YtaejjkgbcajhoaaW.PrintWords
namespace Go.Proofs.YtaejjkgbcajhoaaW.PrintLast
section
variable {ops : Array Oper} {a : Act} {o og : Oper} {g : Nat} {t : Tmp} {u : Bool}
end
end Go.Proofs.YtaejjkgbcajhoaaW.PrintLast
