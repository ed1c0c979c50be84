/-
  No cell of these rows narrows 'for every input' (looked for: loops, veiled, ifaces, maps, wideKeys, modest, calm, conditions, laid).
  DERIVED. THE GIVEN ROWS OF THIS SEAT. 4 by the template 'for every input the law returns true; each argument reads behind the call as it read before'; 0 by the template 'total and deterministic' (their statements: YtgmoljiehdeelaaTotals.lean).
  GIVEN WITH THE SEED: the statements are not yours to turn. If you find one false, say at which input.
  Laid BY PROGRAM, IN A SANDBOX (cutbox-rows.mjs): the forced cells as the released guide's own fill.sh prints them over the translation 706ac5852c9c8c9a… (all of the seat's roots in one cut). By AI agents, Wed Nov 11 2026. No macro, syntax, notation, axiom, sorry.
-/
import Derived.Test.YtgmoljiehdeelaaChecked
import GoSem.Claim
import GoSem.ClaimJoined
import GoSem.ClaimMapViews
import Derived.JoinedTies
import Derived.KernelRfl
namespace Go.Proofs.Ytgmoljiehdeelaa
/- THE CELL 'sum', in the pinned program and in every row, IS THE sha256 OF THE DUMP (.gsa) THAT YtgmoljiehdeelaaProg.lean LOADS. Nothing in Lean hashes anything: it is a label: what it is worth is what the hold of that sum in a sandbox is worth. -/
noncomputable def Try.pinned : Pinned := { name := "ytgmoljiehdeelaa", sum := "706ac5852c9c8c9a013f48859a689e9dddddf2832165e10807d96836c80452f6", checked := Try.checked }
namespace Rows
def none {H : Type} : Left H := { results := [], args := [] }

/-- 'laws.FnExactChainStocks': WHATEVER THE INPUT: true; the input reads as it did. -/
def fnExactChainStocksSpec : ChangeSpec := { name := "fnExactChainStocks", fn := fun _ => fun
  | [d1, d2] => { results := [.lit (.bool true)], args := [d1, d2] }
  | _ => none }
def fnExactChainStocksRow : OpenClaim := { program := "ytgmoljiehdeelaa", sum := "706ac5852c9c8c9a013f48859a689e9dddddf2832165e10807d96836c80452f6", func := "loop.example/g01111/laws.FnExactChainStocks", spec := "fnExactChainStocks", apart := false }
def FnExactChainStocksSaid : Prop := fnExactChainStocksRow.holds Try.pinned (OpenSpec.ofChange fnExactChainStocksSpec)

/-- ITS FALSE NEIGHBOUR: 'it returns false'. Refute it at one input. -/
def fnExactChainStocksWrong : ChangeSpec := { name := "fnExactChainStocks", fn := fun _ => fun
  | [d1, d2] => { results := [.lit (.bool false)], args := [d1, d2] }
  | _ => none }
def FnExactChainStocksWrongFalsely : Prop := fnExactChainStocksRow.holds Try.pinned (OpenSpec.ofChange fnExactChainStocksWrong)

/-- 'laws.FnExactEchelonStocks': WHATEVER THE INPUT: true; the input reads as it did. -/
def fnExactEchelonStocksSpec : ChangeSpec := { name := "fnExactEchelonStocks", fn := fun _ => fun
  | [d1, d2] => { results := [.lit (.bool true)], args := [d1, d2] }
  | _ => none }
def fnExactEchelonStocksRow : OpenClaim := { program := "ytgmoljiehdeelaa", sum := "706ac5852c9c8c9a013f48859a689e9dddddf2832165e10807d96836c80452f6", func := "loop.example/g01111/laws.FnExactEchelonStocks", spec := "fnExactEchelonStocks", apart := false }
def FnExactEchelonStocksSaid : Prop := fnExactEchelonStocksRow.holds Try.pinned (OpenSpec.ofChange fnExactEchelonStocksSpec)

/-- ITS FALSE NEIGHBOUR: 'it returns false'. Refute it at one input. -/
def fnExactEchelonStocksWrong : ChangeSpec := { name := "fnExactEchelonStocks", fn := fun _ => fun
  | [d1, d2] => { results := [.lit (.bool false)], args := [d1, d2] }
  | _ => none }
def FnExactEchelonStocksWrongFalsely : Prop := fnExactEchelonStocksRow.holds Try.pinned (OpenSpec.ofChange fnExactEchelonStocksWrong)

/-- 'laws.FnExactNestedPlan': WHATEVER THE INPUT: true; the input reads as it did. -/
def fnExactNestedPlanSpec : ChangeSpec := { name := "fnExactNestedPlan", fn := fun _ => fun
  | [d1, d2] => { results := [.lit (.bool true)], args := [d1, d2] }
  | _ => none }
def fnExactNestedPlanRow : OpenClaim := { program := "ytgmoljiehdeelaa", sum := "706ac5852c9c8c9a013f48859a689e9dddddf2832165e10807d96836c80452f6", func := "loop.example/g01111/laws.FnExactNestedPlan", spec := "fnExactNestedPlan", apart := false }
def FnExactNestedPlanSaid : Prop := fnExactNestedPlanRow.holds Try.pinned (OpenSpec.ofChange fnExactNestedPlanSpec)

/-- ITS FALSE NEIGHBOUR: 'it returns false'. Refute it at one input. -/
def fnExactNestedPlanWrong : ChangeSpec := { name := "fnExactNestedPlan", fn := fun _ => fun
  | [d1, d2] => { results := [.lit (.bool false)], args := [d1, d2] }
  | _ => none }
def FnExactNestedPlanWrongFalsely : Prop := fnExactNestedPlanRow.holds Try.pinned (OpenSpec.ofChange fnExactNestedPlanWrong)

/-- 'laws.FnExactStageCase': WHATEVER THE INPUT: true; the input reads as it did. -/
def fnExactStageCaseSpec : ChangeSpec := { name := "fnExactStageCase", fn := fun _ => fun
  | [d1, d2] => { results := [.lit (.bool true)], args := [d1, d2] }
  | _ => none }
def fnExactStageCaseRow : OpenClaim := { program := "ytgmoljiehdeelaa", sum := "706ac5852c9c8c9a013f48859a689e9dddddf2832165e10807d96836c80452f6", func := "loop.example/g01111/laws.FnExactStageCase", spec := "fnExactStageCase", apart := false }
def FnExactStageCaseSaid : Prop := fnExactStageCaseRow.holds Try.pinned (OpenSpec.ofChange fnExactStageCaseSpec)

/-- ITS FALSE NEIGHBOUR: 'it returns false'. Refute it at one input. -/
def fnExactStageCaseWrong : ChangeSpec := { name := "fnExactStageCase", fn := fun _ => fun
  | [d1, d2] => { results := [.lit (.bool false)], args := [d1, d2] }
  | _ => none }
def FnExactStageCaseWrongFalsely : Prop := fnExactStageCaseRow.holds Try.pinned (OpenSpec.ofChange fnExactStageCaseWrong)

/- THE SECOND FORM. 'bulk': how many values and letters a reading holds, each counted each time it is reached (what is shared counts as often as it is met; a slice's spare places count too). A statement '..UptoSaid' is the law's where the arguments, and the package variables that the reading takes, are together of bulk at most 1048576: NARROWER than '..Said'. Prove '..Said' where nothing that the law and all that it calls make is longer than what came in: it says more and counts as full. Else prove '..UptoSaid'. A law counts once. -/
mutual
def uptoBulk {H : Type} : DataW H → Nat
  | .lit (.string bytes) => bytes.length + 1
  | .lit _ => 1
  | .nil => 1
  | .ptr d => uptoBulk d + 1
  | .slice elems spare => uptoBulkAll elems + uptoBulkAll spare + 1
  | .agg parts => uptoBulkAll parts + 1
  | .iface _ d => uptoBulk d + 1
  | .map entries => uptoBulkEntries entries + 1
  | .held _ => 1
def uptoBulkAll {H : Type} : List (DataW H) → Nat
  | [] => 0
  | d :: r => uptoBulk d + uptoBulkAll r
def uptoBulkEntries {H : Type} : List (Lit × DataW H) → Nat
  | [] => 0
  | x :: r => uptoBulkEntry x + uptoBulkEntries r
def uptoBulkEntry {H : Type} : Lit × DataW H → Nat
  | (.string bytes, d) => bytes.length + uptoBulk d + 1
  | (_, d) => uptoBulk d + 1
 end
def uptoSmall : (H : Type) → List (DataW H) → Bool := fun _ ds => decide (uptoBulkAll ds ≤ 1048576)
def OpenSpec.upto (s : _root_.Go.ChangeSpec) : _root_.Go.OpenSpec := { _root_.Go.OpenSpec.ofChange s with cond := some uptoSmall }

/-- 'laws.FnExactChainStocks', WHERE WHAT IT READS IS OF BULK AT MOST 1048576: true; the input reads as it did. -/
def fnExactChainStocksUptoRow : OpenClaim := { program := "ytgmoljiehdeelaa", sum := "706ac5852c9c8c9a013f48859a689e9dddddf2832165e10807d96836c80452f6", func := "loop.example/g01111/laws.FnExactChainStocks", spec := "fnExactChainStocks", apart := false, narrowed := true }
def FnExactChainStocksUptoSaid : Prop := fnExactChainStocksUptoRow.holds Try.pinned (OpenSpec.upto fnExactChainStocksSpec)

/-- 'laws.FnExactEchelonStocks', WHERE WHAT IT READS IS OF BULK AT MOST 1048576: true; the input reads as it did. -/
def fnExactEchelonStocksUptoRow : OpenClaim := { program := "ytgmoljiehdeelaa", sum := "706ac5852c9c8c9a013f48859a689e9dddddf2832165e10807d96836c80452f6", func := "loop.example/g01111/laws.FnExactEchelonStocks", spec := "fnExactEchelonStocks", apart := false, narrowed := true }
def FnExactEchelonStocksUptoSaid : Prop := fnExactEchelonStocksUptoRow.holds Try.pinned (OpenSpec.upto fnExactEchelonStocksSpec)

/-- 'laws.FnExactNestedPlan', WHERE WHAT IT READS IS OF BULK AT MOST 1048576: true; the input reads as it did. -/
def fnExactNestedPlanUptoRow : OpenClaim := { program := "ytgmoljiehdeelaa", sum := "706ac5852c9c8c9a013f48859a689e9dddddf2832165e10807d96836c80452f6", func := "loop.example/g01111/laws.FnExactNestedPlan", spec := "fnExactNestedPlan", apart := false, narrowed := true }
def FnExactNestedPlanUptoSaid : Prop := fnExactNestedPlanUptoRow.holds Try.pinned (OpenSpec.upto fnExactNestedPlanSpec)

/-- 'laws.FnExactStageCase', WHERE WHAT IT READS IS OF BULK AT MOST 1048576: true; the input reads as it did. -/
def fnExactStageCaseUptoRow : OpenClaim := { program := "ytgmoljiehdeelaa", sum := "706ac5852c9c8c9a013f48859a689e9dddddf2832165e10807d96836c80452f6", func := "loop.example/g01111/laws.FnExactStageCase", spec := "fnExactStageCase", apart := false, narrowed := true }
def FnExactStageCaseUptoSaid : Prop := fnExactStageCaseUptoRow.holds Try.pinned (OpenSpec.upto fnExactStageCaseSpec)

end Rows
end Go.Proofs.Ytgmoljiehdeelaa
