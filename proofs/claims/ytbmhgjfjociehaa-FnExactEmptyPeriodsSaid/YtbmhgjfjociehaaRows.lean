/-
  No cell of these rows narrows 'for every input' (looked for: loops, veiled, ifaces, maps, wideKeys, modest, calm, conditions, laid).
  DERIVED. THE GIVEN ROWS OF THIS SEAT. 14 by the template 'for every input the law returns true; each argument reads behind the call as it read before'; 0 by the template 'total and deterministic' (their statements: YtbmhgjfjociehaaTotals.lean).
  GIVEN WITH THE SEED: the statements are not yours to turn. If you find one false, say at which input.
  Laid BY PROGRAM, IN A SANDBOX (cutbox-rows.mjs): the forced cells as the released guide's own fill.sh prints them over the translation ee3c716146c876ec… (all of the seat's roots in one cut). By AI agents, Wed Nov 11 2026. No macro, syntax, notation, axiom, sorry.
-/
import Derived.Test.YtbmhgjfjociehaaChecked
import GoSem.Claim
import GoSem.ClaimJoined
import GoSem.ClaimMapViews
import Derived.JoinedTies
import Derived.KernelRfl
namespace Go.Proofs.Ytbmhgjfjociehaa
/- THE CELL 'sum', in the pinned program and in every row, IS THE sha256 OF THE DUMP (.gsa) THAT YtbmhgjfjociehaaProg.lean LOADS. Nothing in Lean hashes anything: it is a label: what it is worth is what the hold of that sum in a sandbox is worth. -/
noncomputable def Try.pinned : Pinned := { name := "ytbmhgjfjociehaa", sum := "ee3c716146c876ecd3c66feccb10fdf2c5e09b22220383027f969fcccb762b92", checked := Try.checked }
namespace Rows
def none {H : Type} : Left H := { results := [], args := [] }

/-- 'laws.FnExactIsPlan': WHATEVER THE INPUT: true; the input reads as it did. -/
def fnExactIsPlanSpec : ChangeSpec := { name := "fnExactIsPlan", fn := fun _ => fun
  | [d1, d2] => { results := [.lit (.bool true)], args := [d1, d2] }
  | _ => none }
def fnExactIsPlanRow : OpenClaim := { program := "ytbmhgjfjociehaa", sum := "ee3c716146c876ecd3c66feccb10fdf2c5e09b22220383027f969fcccb762b92", func := "loop.example/g01111/laws.FnExactIsPlan", spec := "fnExactIsPlan", plainKeys := false, apart := false }
def FnExactIsPlanSaid : Prop := fnExactIsPlanRow.holds Try.pinned (OpenSpec.ofChange fnExactIsPlanSpec)

/-- ITS FALSE NEIGHBOUR: 'it returns false'. Refute it at one input. -/
def fnExactIsPlanWrong : ChangeSpec := { name := "fnExactIsPlan", fn := fun _ => fun
  | [d1, d2] => { results := [.lit (.bool false)], args := [d1, d2] }
  | _ => none }
def FnExactIsPlanWrongFalsely : Prop := fnExactIsPlanRow.holds Try.pinned (OpenSpec.ofChange fnExactIsPlanWrong)

/-- 'laws.FnExactStocksOf': WHATEVER THE INPUT: true; the input reads as it did. -/
def fnExactStocksOfSpec : ChangeSpec := { name := "fnExactStocksOf", fn := fun _ => fun
  | [d1, d2] => { results := [.lit (.bool true)], args := [d1, d2] }
  | _ => none }
def fnExactStocksOfRow : OpenClaim := { program := "ytbmhgjfjociehaa", sum := "ee3c716146c876ecd3c66feccb10fdf2c5e09b22220383027f969fcccb762b92", func := "loop.example/g01111/laws.FnExactStocksOf", spec := "fnExactStocksOf", plainKeys := false, apart := false }
def FnExactStocksOfSaid : Prop := fnExactStocksOfRow.holds Try.pinned (OpenSpec.ofChange fnExactStocksOfSpec)

/-- ITS FALSE NEIGHBOUR: 'it returns false'. Refute it at one input. -/
def fnExactStocksOfWrong : ChangeSpec := { name := "fnExactStocksOf", fn := fun _ => fun
  | [d1, d2] => { results := [.lit (.bool false)], args := [d1, d2] }
  | _ => none }
def FnExactStocksOfWrongFalsely : Prop := fnExactStocksOfRow.holds Try.pinned (OpenSpec.ofChange fnExactStocksOfWrong)

/-- 'laws.FnExactOrdersAtEmpty': WHATEVER THE INPUT: true; the input reads as it did. -/
def fnExactOrdersAtEmptySpec : ChangeSpec := { name := "fnExactOrdersAtEmpty", fn := fun _ => fun
  | [d1, d2] => { results := [.lit (.bool true)], args := [d1, d2] }
  | _ => none }
def fnExactOrdersAtEmptyRow : OpenClaim := { program := "ytbmhgjfjociehaa", sum := "ee3c716146c876ecd3c66feccb10fdf2c5e09b22220383027f969fcccb762b92", func := "loop.example/g01111/laws.FnExactOrdersAtEmpty", spec := "fnExactOrdersAtEmpty", plainKeys := false, apart := false }
def FnExactOrdersAtEmptySaid : Prop := fnExactOrdersAtEmptyRow.holds Try.pinned (OpenSpec.ofChange fnExactOrdersAtEmptySpec)

/-- ITS FALSE NEIGHBOUR: 'it returns false'. Refute it at one input. -/
def fnExactOrdersAtEmptyWrong : ChangeSpec := { name := "fnExactOrdersAtEmpty", fn := fun _ => fun
  | [d1, d2] => { results := [.lit (.bool false)], args := [d1, d2] }
  | _ => none }
def FnExactOrdersAtEmptyWrongFalsely : Prop := fnExactOrdersAtEmptyRow.holds Try.pinned (OpenSpec.ofChange fnExactOrdersAtEmptyWrong)

/-- 'laws.FnExactKeepsLimits': WHATEVER THE INPUT: true; the input reads as it did. -/
def fnExactKeepsLimitsSpec : ChangeSpec := { name := "fnExactKeepsLimits", fn := fun _ => fun
  | [d1, d2, d3] => { results := [.lit (.bool true)], args := [d1, d2, d3] }
  | _ => none }
def fnExactKeepsLimitsRow : OpenClaim := { program := "ytbmhgjfjociehaa", sum := "ee3c716146c876ecd3c66feccb10fdf2c5e09b22220383027f969fcccb762b92", func := "loop.example/g01111/laws.FnExactKeepsLimits", spec := "fnExactKeepsLimits", plainKeys := false, apart := false }
def FnExactKeepsLimitsSaid : Prop := fnExactKeepsLimitsRow.holds Try.pinned (OpenSpec.ofChange fnExactKeepsLimitsSpec)

/-- ITS FALSE NEIGHBOUR: 'it returns false'. Refute it at one input. -/
def fnExactKeepsLimitsWrong : ChangeSpec := { name := "fnExactKeepsLimits", fn := fun _ => fun
  | [d1, d2, d3] => { results := [.lit (.bool false)], args := [d1, d2, d3] }
  | _ => none }
def FnExactKeepsLimitsWrongFalsely : Prop := fnExactKeepsLimitsRow.holds Try.pinned (OpenSpec.ofChange fnExactKeepsLimitsWrong)

/-- 'laws.FnExactCostParts': WHATEVER THE INPUT: true; the input reads as it did. -/
def fnExactCostPartsSpec : ChangeSpec := { name := "fnExactCostParts", fn := fun _ => fun
  | [d1, d2] => { results := [.lit (.bool true)], args := [d1, d2] }
  | _ => none }
def fnExactCostPartsRow : OpenClaim := { program := "ytbmhgjfjociehaa", sum := "ee3c716146c876ecd3c66feccb10fdf2c5e09b22220383027f969fcccb762b92", func := "loop.example/g01111/laws.FnExactCostParts", spec := "fnExactCostParts", plainKeys := false, apart := false }
def FnExactCostPartsSaid : Prop := fnExactCostPartsRow.holds Try.pinned (OpenSpec.ofChange fnExactCostPartsSpec)

/-- ITS FALSE NEIGHBOUR: 'it returns false'. Refute it at one input. -/
def fnExactCostPartsWrong : ChangeSpec := { name := "fnExactCostParts", fn := fun _ => fun
  | [d1, d2] => { results := [.lit (.bool false)], args := [d1, d2] }
  | _ => none }
def FnExactCostPartsWrongFalsely : Prop := fnExactCostPartsRow.holds Try.pinned (OpenSpec.ofChange fnExactCostPartsWrong)

/-- 'laws.FnExactOrderPeriods': WHATEVER THE INPUT: true; the input reads as it did. -/
def fnExactOrderPeriodsSpec : ChangeSpec := { name := "fnExactOrderPeriods", fn := fun _ => fun
  | [d1, d2] => { results := [.lit (.bool true)], args := [d1, d2] }
  | _ => none }
def fnExactOrderPeriodsRow : OpenClaim := { program := "ytbmhgjfjociehaa", sum := "ee3c716146c876ecd3c66feccb10fdf2c5e09b22220383027f969fcccb762b92", func := "loop.example/g01111/laws.FnExactOrderPeriods", spec := "fnExactOrderPeriods", plainKeys := false, apart := false }
def FnExactOrderPeriodsSaid : Prop := fnExactOrderPeriodsRow.holds Try.pinned (OpenSpec.ofChange fnExactOrderPeriodsSpec)

/-- ITS FALSE NEIGHBOUR: 'it returns false'. Refute it at one input. -/
def fnExactOrderPeriodsWrong : ChangeSpec := { name := "fnExactOrderPeriods", fn := fun _ => fun
  | [d1, d2] => { results := [.lit (.bool false)], args := [d1, d2] }
  | _ => none }
def FnExactOrderPeriodsWrongFalsely : Prop := fnExactOrderPeriodsRow.holds Try.pinned (OpenSpec.ofChange fnExactOrderPeriodsWrong)

/-- 'laws.FnExactEmptyPeriods': WHATEVER THE INPUT: true; the input reads as it did. -/
def fnExactEmptyPeriodsSpec : ChangeSpec := { name := "fnExactEmptyPeriods", fn := fun _ => fun
  | [d1, d2] => { results := [.lit (.bool true)], args := [d1, d2] }
  | _ => none }
def fnExactEmptyPeriodsRow : OpenClaim := { program := "ytbmhgjfjociehaa", sum := "ee3c716146c876ecd3c66feccb10fdf2c5e09b22220383027f969fcccb762b92", func := "loop.example/g01111/laws.FnExactEmptyPeriods", spec := "fnExactEmptyPeriods", plainKeys := false, apart := false }
def FnExactEmptyPeriodsSaid : Prop := fnExactEmptyPeriodsRow.holds Try.pinned (OpenSpec.ofChange fnExactEmptyPeriodsSpec)

/-- ITS FALSE NEIGHBOUR: 'it returns false'. Refute it at one input. -/
def fnExactEmptyPeriodsWrong : ChangeSpec := { name := "fnExactEmptyPeriods", fn := fun _ => fun
  | [d1, d2] => { results := [.lit (.bool false)], args := [d1, d2] }
  | _ => none }
def FnExactEmptyPeriodsWrongFalsely : Prop := fnExactEmptyPeriodsRow.holds Try.pinned (OpenSpec.ofChange fnExactEmptyPeriodsWrong)

/-- 'laws.FnExactFreshCost': WHATEVER THE INPUT: true; the input reads as it did. -/
def fnExactFreshCostSpec : ChangeSpec := { name := "fnExactFreshCost", fn := fun _ => fun
  | [d1, d2, d3] => { results := [.lit (.bool true)], args := [d1, d2, d3] }
  | _ => none }
def fnExactFreshCostRow : OpenClaim := { program := "ytbmhgjfjociehaa", sum := "ee3c716146c876ecd3c66feccb10fdf2c5e09b22220383027f969fcccb762b92", func := "loop.example/g01111/laws.FnExactFreshCost", spec := "fnExactFreshCost", plainKeys := false, apart := false }
def FnExactFreshCostSaid : Prop := fnExactFreshCostRow.holds Try.pinned (OpenSpec.ofChange fnExactFreshCostSpec)

/-- ITS FALSE NEIGHBOUR: 'it returns false'. Refute it at one input. -/
def fnExactFreshCostWrong : ChangeSpec := { name := "fnExactFreshCost", fn := fun _ => fun
  | [d1, d2, d3] => { results := [.lit (.bool false)], args := [d1, d2, d3] }
  | _ => none }
def FnExactFreshCostWrongFalsely : Prop := fnExactFreshCostRow.holds Try.pinned (OpenSpec.ofChange fnExactFreshCostWrong)

/-- 'laws.FnExactPartialPeriods': WHATEVER THE INPUT: true; the input reads as it did. -/
def fnExactPartialPeriodsSpec : ChangeSpec := { name := "fnExactPartialPeriods", fn := fun _ => fun
  | [d1, d2, d3] => { results := [.lit (.bool true)], args := [d1, d2, d3] }
  | _ => none }
def fnExactPartialPeriodsRow : OpenClaim := { program := "ytbmhgjfjociehaa", sum := "ee3c716146c876ecd3c66feccb10fdf2c5e09b22220383027f969fcccb762b92", func := "loop.example/g01111/laws.FnExactPartialPeriods", spec := "fnExactPartialPeriods", plainKeys := false, apart := false }
def FnExactPartialPeriodsSaid : Prop := fnExactPartialPeriodsRow.holds Try.pinned (OpenSpec.ofChange fnExactPartialPeriodsSpec)

/-- ITS FALSE NEIGHBOUR: 'it returns false'. Refute it at one input. -/
def fnExactPartialPeriodsWrong : ChangeSpec := { name := "fnExactPartialPeriods", fn := fun _ => fun
  | [d1, d2, d3] => { results := [.lit (.bool false)], args := [d1, d2, d3] }
  | _ => none }
def FnExactPartialPeriodsWrongFalsely : Prop := fnExactPartialPeriodsRow.holds Try.pinned (OpenSpec.ofChange fnExactPartialPeriodsWrong)

/-- 'laws.FnExactIsRegular': WHATEVER THE INPUT: true; the input reads as it did. -/
def fnExactIsRegularSpec : ChangeSpec := { name := "fnExactIsRegular", fn := fun _ => fun
  | [d1, d2, d3] => { results := [.lit (.bool true)], args := [d1, d2, d3] }
  | _ => none }
def fnExactIsRegularRow : OpenClaim := { program := "ytbmhgjfjociehaa", sum := "ee3c716146c876ecd3c66feccb10fdf2c5e09b22220383027f969fcccb762b92", func := "loop.example/g01111/laws.FnExactIsRegular", spec := "fnExactIsRegular", plainKeys := false, apart := false }
def FnExactIsRegularSaid : Prop := fnExactIsRegularRow.holds Try.pinned (OpenSpec.ofChange fnExactIsRegularSpec)

/-- ITS FALSE NEIGHBOUR: 'it returns false'. Refute it at one input. -/
def fnExactIsRegularWrong : ChangeSpec := { name := "fnExactIsRegular", fn := fun _ => fun
  | [d1, d2, d3] => { results := [.lit (.bool false)], args := [d1, d2, d3] }
  | _ => none }
def FnExactIsRegularWrongFalsely : Prop := fnExactIsRegularRow.holds Try.pinned (OpenSpec.ofChange fnExactIsRegularWrong)

/-- 'laws.FnExactLimitedCost': WHATEVER THE INPUT: true; the input reads as it did. -/
def fnExactLimitedCostSpec : ChangeSpec := { name := "fnExactLimitedCost", fn := fun _ => fun
  | [d1, d2] => { results := [.lit (.bool true)], args := [d1, d2] }
  | _ => none }
def fnExactLimitedCostRow : OpenClaim := { program := "ytbmhgjfjociehaa", sum := "ee3c716146c876ecd3c66feccb10fdf2c5e09b22220383027f969fcccb762b92", func := "loop.example/g01111/laws.FnExactLimitedCost", spec := "fnExactLimitedCost", recurses := true, plainKeys := false, apart := false }
def FnExactLimitedCostSaid : Prop := fnExactLimitedCostRow.holds Try.pinned (OpenSpec.ofChange fnExactLimitedCostSpec)

/-- ITS FALSE NEIGHBOUR: 'it returns false'. Refute it at one input. -/
def fnExactLimitedCostWrong : ChangeSpec := { name := "fnExactLimitedCost", fn := fun _ => fun
  | [d1, d2] => { results := [.lit (.bool false)], args := [d1, d2] }
  | _ => none }
def FnExactLimitedCostWrongFalsely : Prop := fnExactLimitedCostRow.holds Try.pinned (OpenSpec.ofChange fnExactLimitedCostWrong)

/-- 'laws.FnExactLimitSaves': WHATEVER THE INPUT: true; the input reads as it did. -/
def fnExactLimitSavesSpec : ChangeSpec := { name := "fnExactLimitSaves", fn := fun _ => fun
  | [d1, d2, d3] => { results := [.lit (.bool true)], args := [d1, d2, d3] }
  | _ => none }
def fnExactLimitSavesRow : OpenClaim := { program := "ytbmhgjfjociehaa", sum := "ee3c716146c876ecd3c66feccb10fdf2c5e09b22220383027f969fcccb762b92", func := "loop.example/g01111/laws.FnExactLimitSaves", spec := "fnExactLimitSaves", recurses := true, plainKeys := false, apart := false }
def FnExactLimitSavesSaid : Prop := fnExactLimitSavesRow.holds Try.pinned (OpenSpec.ofChange fnExactLimitSavesSpec)

/-- ITS FALSE NEIGHBOUR: 'it returns false'. Refute it at one input. -/
def fnExactLimitSavesWrong : ChangeSpec := { name := "fnExactLimitSaves", fn := fun _ => fun
  | [d1, d2, d3] => { results := [.lit (.bool false)], args := [d1, d2, d3] }
  | _ => none }
def FnExactLimitSavesWrongFalsely : Prop := fnExactLimitSavesRow.holds Try.pinned (OpenSpec.ofChange fnExactLimitSavesWrong)

/-- 'laws.FnExactLimitedPlan': WHATEVER THE INPUT: true; the input reads as it did. -/
def fnExactLimitedPlanSpec : ChangeSpec := { name := "fnExactLimitedPlan", fn := fun _ => fun
  | [d1, d2] => { results := [.lit (.bool true)], args := [d1, d2] }
  | _ => none }
def fnExactLimitedPlanRow : OpenClaim := { program := "ytbmhgjfjociehaa", sum := "ee3c716146c876ecd3c66feccb10fdf2c5e09b22220383027f969fcccb762b92", func := "loop.example/g01111/laws.FnExactLimitedPlan", spec := "fnExactLimitedPlan", recurses := true, plainKeys := false, apart := false }
def FnExactLimitedPlanSaid : Prop := fnExactLimitedPlanRow.holds Try.pinned (OpenSpec.ofChange fnExactLimitedPlanSpec)

/-- ITS FALSE NEIGHBOUR: 'it returns false'. Refute it at one input. -/
def fnExactLimitedPlanWrong : ChangeSpec := { name := "fnExactLimitedPlan", fn := fun _ => fun
  | [d1, d2] => { results := [.lit (.bool false)], args := [d1, d2] }
  | _ => none }
def FnExactLimitedPlanWrongFalsely : Prop := fnExactLimitedPlanRow.holds Try.pinned (OpenSpec.ofChange fnExactLimitedPlanWrong)

/-- 'laws.FnExactRegularPlan': WHATEVER THE INPUT: true; the input reads as it did. -/
def fnExactRegularPlanSpec : ChangeSpec := { name := "fnExactRegularPlan", fn := fun _ => fun
  | [d1, d2] => { results := [.lit (.bool true)], args := [d1, d2] }
  | _ => none }
def fnExactRegularPlanRow : OpenClaim := { program := "ytbmhgjfjociehaa", sum := "ee3c716146c876ecd3c66feccb10fdf2c5e09b22220383027f969fcccb762b92", func := "loop.example/g01111/laws.FnExactRegularPlan", spec := "fnExactRegularPlan", recurses := true, plainKeys := false, apart := false }
def FnExactRegularPlanSaid : Prop := fnExactRegularPlanRow.holds Try.pinned (OpenSpec.ofChange fnExactRegularPlanSpec)

/-- ITS FALSE NEIGHBOUR: 'it returns false'. Refute it at one input. -/
def fnExactRegularPlanWrong : ChangeSpec := { name := "fnExactRegularPlan", fn := fun _ => fun
  | [d1, d2] => { results := [.lit (.bool false)], args := [d1, d2] }
  | _ => none }
def FnExactRegularPlanWrongFalsely : Prop := fnExactRegularPlanRow.holds Try.pinned (OpenSpec.ofChange fnExactRegularPlanWrong)

/- THE SECOND FORM. 'bulk': how many values and letters a reading holds, each counted each time it is reached (what is shared counts as often as it is met; a slice's spare places count too). A statement '..UptoSaid' is the law's where the arguments, and the package variables that the reading takes, are together of bulk at most 1048576: NARROWER than '..Said'. Prove '..Said' where nothing that the law and all that it calls make is longer than what came in: it says more and counts as full. Else prove '..UptoSaid'. A law counts once. -/
mutual
def uptoBulk {H : Type} : DataW H → Nat
  | .lit (.string bytes) => bytes.length + 1
  | .lit _ => 1
  | .nil => 1
  | .ptr d => uptoBulk d + 1
  | .slice elems spare => uptoBulkAll elems + uptoBulkAll spare + 1
  | .agg parts => uptoBulkAll parts + 1
  | .iface _ d => uptoBulk d + 1
  | .map entries => uptoBulkEntries entries + 1
  | .held _ => 1
def uptoBulkAll {H : Type} : List (DataW H) → Nat
  | [] => 0
  | d :: r => uptoBulk d + uptoBulkAll r
def uptoBulkEntries {H : Type} : List (Lit × DataW H) → Nat
  | [] => 0
  | x :: r => uptoBulkEntry x + uptoBulkEntries r
def uptoBulkEntry {H : Type} : Lit × DataW H → Nat
  | (.string bytes, d) => bytes.length + uptoBulk d + 1
  | (_, d) => uptoBulk d + 1
 end
def uptoSmall : (H : Type) → List (DataW H) → Bool := fun _ ds => decide (uptoBulkAll ds ≤ 1048576)
def OpenSpec.upto (s : _root_.Go.ChangeSpec) : _root_.Go.OpenSpec := { _root_.Go.OpenSpec.ofChange s with cond := some uptoSmall }

/-- 'laws.FnExactIsPlan', WHERE WHAT IT READS IS OF BULK AT MOST 1048576: true; the input reads as it did. -/
def fnExactIsPlanUptoRow : OpenClaim := { program := "ytbmhgjfjociehaa", sum := "ee3c716146c876ecd3c66feccb10fdf2c5e09b22220383027f969fcccb762b92", func := "loop.example/g01111/laws.FnExactIsPlan", spec := "fnExactIsPlan", plainKeys := false, apart := false, narrowed := true }
def FnExactIsPlanUptoSaid : Prop := fnExactIsPlanUptoRow.holds Try.pinned (OpenSpec.upto fnExactIsPlanSpec)

/-- 'laws.FnExactStocksOf', WHERE WHAT IT READS IS OF BULK AT MOST 1048576: true; the input reads as it did. -/
def fnExactStocksOfUptoRow : OpenClaim := { program := "ytbmhgjfjociehaa", sum := "ee3c716146c876ecd3c66feccb10fdf2c5e09b22220383027f969fcccb762b92", func := "loop.example/g01111/laws.FnExactStocksOf", spec := "fnExactStocksOf", plainKeys := false, apart := false, narrowed := true }
def FnExactStocksOfUptoSaid : Prop := fnExactStocksOfUptoRow.holds Try.pinned (OpenSpec.upto fnExactStocksOfSpec)

/-- 'laws.FnExactOrdersAtEmpty', WHERE WHAT IT READS IS OF BULK AT MOST 1048576: true; the input reads as it did. -/
def fnExactOrdersAtEmptyUptoRow : OpenClaim := { program := "ytbmhgjfjociehaa", sum := "ee3c716146c876ecd3c66feccb10fdf2c5e09b22220383027f969fcccb762b92", func := "loop.example/g01111/laws.FnExactOrdersAtEmpty", spec := "fnExactOrdersAtEmpty", plainKeys := false, apart := false, narrowed := true }
def FnExactOrdersAtEmptyUptoSaid : Prop := fnExactOrdersAtEmptyUptoRow.holds Try.pinned (OpenSpec.upto fnExactOrdersAtEmptySpec)

/-- 'laws.FnExactKeepsLimits', WHERE WHAT IT READS IS OF BULK AT MOST 1048576: true; the input reads as it did. -/
def fnExactKeepsLimitsUptoRow : OpenClaim := { program := "ytbmhgjfjociehaa", sum := "ee3c716146c876ecd3c66feccb10fdf2c5e09b22220383027f969fcccb762b92", func := "loop.example/g01111/laws.FnExactKeepsLimits", spec := "fnExactKeepsLimits", plainKeys := false, apart := false, narrowed := true }
def FnExactKeepsLimitsUptoSaid : Prop := fnExactKeepsLimitsUptoRow.holds Try.pinned (OpenSpec.upto fnExactKeepsLimitsSpec)

/-- 'laws.FnExactCostParts', WHERE WHAT IT READS IS OF BULK AT MOST 1048576: true; the input reads as it did. -/
def fnExactCostPartsUptoRow : OpenClaim := { program := "ytbmhgjfjociehaa", sum := "ee3c716146c876ecd3c66feccb10fdf2c5e09b22220383027f969fcccb762b92", func := "loop.example/g01111/laws.FnExactCostParts", spec := "fnExactCostParts", plainKeys := false, apart := false, narrowed := true }
def FnExactCostPartsUptoSaid : Prop := fnExactCostPartsUptoRow.holds Try.pinned (OpenSpec.upto fnExactCostPartsSpec)

/-- 'laws.FnExactOrderPeriods', WHERE WHAT IT READS IS OF BULK AT MOST 1048576: true; the input reads as it did. -/
def fnExactOrderPeriodsUptoRow : OpenClaim := { program := "ytbmhgjfjociehaa", sum := "ee3c716146c876ecd3c66feccb10fdf2c5e09b22220383027f969fcccb762b92", func := "loop.example/g01111/laws.FnExactOrderPeriods", spec := "fnExactOrderPeriods", plainKeys := false, apart := false, narrowed := true }
def FnExactOrderPeriodsUptoSaid : Prop := fnExactOrderPeriodsUptoRow.holds Try.pinned (OpenSpec.upto fnExactOrderPeriodsSpec)

/-- 'laws.FnExactEmptyPeriods', WHERE WHAT IT READS IS OF BULK AT MOST 1048576: true; the input reads as it did. -/
def fnExactEmptyPeriodsUptoRow : OpenClaim := { program := "ytbmhgjfjociehaa", sum := "ee3c716146c876ecd3c66feccb10fdf2c5e09b22220383027f969fcccb762b92", func := "loop.example/g01111/laws.FnExactEmptyPeriods", spec := "fnExactEmptyPeriods", plainKeys := false, apart := false, narrowed := true }
def FnExactEmptyPeriodsUptoSaid : Prop := fnExactEmptyPeriodsUptoRow.holds Try.pinned (OpenSpec.upto fnExactEmptyPeriodsSpec)

/-- 'laws.FnExactFreshCost', WHERE WHAT IT READS IS OF BULK AT MOST 1048576: true; the input reads as it did. -/
def fnExactFreshCostUptoRow : OpenClaim := { program := "ytbmhgjfjociehaa", sum := "ee3c716146c876ecd3c66feccb10fdf2c5e09b22220383027f969fcccb762b92", func := "loop.example/g01111/laws.FnExactFreshCost", spec := "fnExactFreshCost", plainKeys := false, apart := false, narrowed := true }
def FnExactFreshCostUptoSaid : Prop := fnExactFreshCostUptoRow.holds Try.pinned (OpenSpec.upto fnExactFreshCostSpec)

/-- 'laws.FnExactPartialPeriods', WHERE WHAT IT READS IS OF BULK AT MOST 1048576: true; the input reads as it did. -/
def fnExactPartialPeriodsUptoRow : OpenClaim := { program := "ytbmhgjfjociehaa", sum := "ee3c716146c876ecd3c66feccb10fdf2c5e09b22220383027f969fcccb762b92", func := "loop.example/g01111/laws.FnExactPartialPeriods", spec := "fnExactPartialPeriods", plainKeys := false, apart := false, narrowed := true }
def FnExactPartialPeriodsUptoSaid : Prop := fnExactPartialPeriodsUptoRow.holds Try.pinned (OpenSpec.upto fnExactPartialPeriodsSpec)

/-- 'laws.FnExactIsRegular', WHERE WHAT IT READS IS OF BULK AT MOST 1048576: true; the input reads as it did. -/
def fnExactIsRegularUptoRow : OpenClaim := { program := "ytbmhgjfjociehaa", sum := "ee3c716146c876ecd3c66feccb10fdf2c5e09b22220383027f969fcccb762b92", func := "loop.example/g01111/laws.FnExactIsRegular", spec := "fnExactIsRegular", plainKeys := false, apart := false, narrowed := true }
def FnExactIsRegularUptoSaid : Prop := fnExactIsRegularUptoRow.holds Try.pinned (OpenSpec.upto fnExactIsRegularSpec)

/-- 'laws.FnExactLimitedCost', WHERE WHAT IT READS IS OF BULK AT MOST 1048576: true; the input reads as it did. -/
def fnExactLimitedCostUptoRow : OpenClaim := { program := "ytbmhgjfjociehaa", sum := "ee3c716146c876ecd3c66feccb10fdf2c5e09b22220383027f969fcccb762b92", func := "loop.example/g01111/laws.FnExactLimitedCost", spec := "fnExactLimitedCost", recurses := true, plainKeys := false, apart := false, narrowed := true }
def FnExactLimitedCostUptoSaid : Prop := fnExactLimitedCostUptoRow.holds Try.pinned (OpenSpec.upto fnExactLimitedCostSpec)

/-- 'laws.FnExactLimitSaves', WHERE WHAT IT READS IS OF BULK AT MOST 1048576: true; the input reads as it did. -/
def fnExactLimitSavesUptoRow : OpenClaim := { program := "ytbmhgjfjociehaa", sum := "ee3c716146c876ecd3c66feccb10fdf2c5e09b22220383027f969fcccb762b92", func := "loop.example/g01111/laws.FnExactLimitSaves", spec := "fnExactLimitSaves", recurses := true, plainKeys := false, apart := false, narrowed := true }
def FnExactLimitSavesUptoSaid : Prop := fnExactLimitSavesUptoRow.holds Try.pinned (OpenSpec.upto fnExactLimitSavesSpec)

/-- 'laws.FnExactLimitedPlan', WHERE WHAT IT READS IS OF BULK AT MOST 1048576: true; the input reads as it did. -/
def fnExactLimitedPlanUptoRow : OpenClaim := { program := "ytbmhgjfjociehaa", sum := "ee3c716146c876ecd3c66feccb10fdf2c5e09b22220383027f969fcccb762b92", func := "loop.example/g01111/laws.FnExactLimitedPlan", spec := "fnExactLimitedPlan", recurses := true, plainKeys := false, apart := false, narrowed := true }
def FnExactLimitedPlanUptoSaid : Prop := fnExactLimitedPlanUptoRow.holds Try.pinned (OpenSpec.upto fnExactLimitedPlanSpec)

/-- 'laws.FnExactRegularPlan', WHERE WHAT IT READS IS OF BULK AT MOST 1048576: true; the input reads as it did. -/
def fnExactRegularPlanUptoRow : OpenClaim := { program := "ytbmhgjfjociehaa", sum := "ee3c716146c876ecd3c66feccb10fdf2c5e09b22220383027f969fcccb762b92", func := "loop.example/g01111/laws.FnExactRegularPlan", spec := "fnExactRegularPlan", recurses := true, plainKeys := false, apart := false, narrowed := true }
def FnExactRegularPlanUptoSaid : Prop := fnExactRegularPlanUptoRow.holds Try.pinned (OpenSpec.upto fnExactRegularPlanSpec)

end Rows
end Go.Proofs.Ytbmhgjfjociehaa
