-- The words that this law takes of the print, chosen by wip/prune.py.
import Derived.Test.YtknnnkkchfcjkaaWTab
/-! ### 56. Four, five, six operations that may come up next, in any order -/
namespace Go.Proofs.YtknnnkkchfcjkaaW.PrintLast
section
variable {P : Program} {ops : Array Oper} {Q : Exit → Act → World → Prop} {md : Region.Mode} {S : World → Prop} {ds : List Nat} {T : Bool × List (List Nat × List Nat)}
end
end Go.Proofs.YtknnnkkchfcjkaaW.PrintLast
