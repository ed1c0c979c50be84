-- The words that this law takes of the print, chosen by wip/prune.py.
import Derived.Test.YtikmlhpllgikpaaWInv
import Derived.Test.YtikmlhpllgikpaaWFootNe
namespace Go.Proofs.YtikmlhpllgikpaaW.PrintWords
open Go.RowKit
end Go.Proofs.YtikmlhpllgikpaaW.PrintWords
namespace Go.Proofs.YtikmlhpllgikpaaW.PrintLast
section
variable {ops : Array Oper} {a : Act} {o og : Oper} {g : Nat} {t : Tmp} {u : Bool}
end
end Go.Proofs.YtikmlhpllgikpaaW.PrintLast
