/-
  No cell of these rows narrows 'for every input' (looked for: loops, veiled, ifaces, maps, wideKeys, modest, calm, conditions, laid).
  DERIVED. THE GIVEN ROWS OF THIS SEAT. 3 by the template 'for every input the law returns true; each argument reads behind the call as it read before'; 0 by the template 'total and deterministic' (their statements: YtggnlljdfncnfaaTotals.lean).
  GIVEN WITH THE SEED: the statements are not yours to turn. If you find one false, say at which input.
  Laid BY PROGRAM, IN A SANDBOX (cutbox-rows.mjs): the forced cells as the released guide's own fill.sh prints them over the translation a2524b04059b64af… (all of the seat's roots in one cut). By AI agents, Wed Nov 11 2026. No macro, syntax, notation, axiom, sorry.
-/
import Derived.Test.YtggnlljdfncnfaaChecked
import GoSem.Claim
import GoSem.ClaimJoined
import GoSem.ClaimMapViews
import Derived.JoinedTies
import Derived.KernelRfl
namespace Go.Proofs.Ytggnlljdfncnfaa
/- THE CELL 'sum', in the pinned program and in every row, IS THE sha256 OF THE DUMP (.gsa) THAT YtggnlljdfncnfaaProg.lean LOADS. Nothing in Lean hashes anything: it is a label: what it is worth is what the hold of that sum in a sandbox is worth. -/
noncomputable def Try.pinned : Pinned := { name := "ytggnlljdfncnfaa", sum := "a2524b04059b64afae7dab3ac1a59d60ade3ef253730812a4203d65929ed74ff", checked := Try.checked }
namespace Rows
def none {H : Type} : Left H := { results := [], args := [] }

/-- 'laws.FnExactFreshCost': WHATEVER THE INPUT: true; the input reads as it did. -/
def fnExactFreshCostSpec : ChangeSpec := { name := "fnExactFreshCost", fn := fun _ => fun
  | [d1, d2, d3] => { results := [.lit (.bool true)], args := [d1, d2, d3] }
  | _ => none }
def fnExactFreshCostRow : OpenClaim := { program := "ytggnlljdfncnfaa", sum := "a2524b04059b64afae7dab3ac1a59d60ade3ef253730812a4203d65929ed74ff", func := "loop.example/g01111/laws.FnExactFreshCost", spec := "fnExactFreshCost", apart := false }
def FnExactFreshCostSaid : Prop := fnExactFreshCostRow.holds Try.pinned (OpenSpec.ofChange fnExactFreshCostSpec)

/-- ITS FALSE NEIGHBOUR: 'it returns false'. Refute it at one input. -/
def fnExactFreshCostWrong : ChangeSpec := { name := "fnExactFreshCost", fn := fun _ => fun
  | [d1, d2, d3] => { results := [.lit (.bool false)], args := [d1, d2, d3] }
  | _ => none }
def FnExactFreshCostWrongFalsely : Prop := fnExactFreshCostRow.holds Try.pinned (OpenSpec.ofChange fnExactFreshCostWrong)

/-- 'laws.FnExactPartialPeriods': WHATEVER THE INPUT: true; the input reads as it did. -/
def fnExactPartialPeriodsSpec : ChangeSpec := { name := "fnExactPartialPeriods", fn := fun _ => fun
  | [d1, d2, d3] => { results := [.lit (.bool true)], args := [d1, d2, d3] }
  | _ => none }
def fnExactPartialPeriodsRow : OpenClaim := { program := "ytggnlljdfncnfaa", sum := "a2524b04059b64afae7dab3ac1a59d60ade3ef253730812a4203d65929ed74ff", func := "loop.example/g01111/laws.FnExactPartialPeriods", spec := "fnExactPartialPeriods", apart := false }
def FnExactPartialPeriodsSaid : Prop := fnExactPartialPeriodsRow.holds Try.pinned (OpenSpec.ofChange fnExactPartialPeriodsSpec)

/-- ITS FALSE NEIGHBOUR: 'it returns false'. Refute it at one input. -/
def fnExactPartialPeriodsWrong : ChangeSpec := { name := "fnExactPartialPeriods", fn := fun _ => fun
  | [d1, d2, d3] => { results := [.lit (.bool false)], args := [d1, d2, d3] }
  | _ => none }
def FnExactPartialPeriodsWrongFalsely : Prop := fnExactPartialPeriodsRow.holds Try.pinned (OpenSpec.ofChange fnExactPartialPeriodsWrong)

/-- 'laws.FnExactIsRegular': WHATEVER THE INPUT: true; the input reads as it did. -/
def fnExactIsRegularSpec : ChangeSpec := { name := "fnExactIsRegular", fn := fun _ => fun
  | [d1, d2, d3] => { results := [.lit (.bool true)], args := [d1, d2, d3] }
  | _ => none }
def fnExactIsRegularRow : OpenClaim := { program := "ytggnlljdfncnfaa", sum := "a2524b04059b64afae7dab3ac1a59d60ade3ef253730812a4203d65929ed74ff", func := "loop.example/g01111/laws.FnExactIsRegular", spec := "fnExactIsRegular", apart := false }
def FnExactIsRegularSaid : Prop := fnExactIsRegularRow.holds Try.pinned (OpenSpec.ofChange fnExactIsRegularSpec)

/-- ITS FALSE NEIGHBOUR: 'it returns false'. Refute it at one input. -/
def fnExactIsRegularWrong : ChangeSpec := { name := "fnExactIsRegular", fn := fun _ => fun
  | [d1, d2, d3] => { results := [.lit (.bool false)], args := [d1, d2, d3] }
  | _ => none }
def FnExactIsRegularWrongFalsely : Prop := fnExactIsRegularRow.holds Try.pinned (OpenSpec.ofChange fnExactIsRegularWrong)

/- THE SECOND FORM. 'bulk': how many values and letters a reading holds, each counted each time it is reached (what is shared counts as often as it is met; a slice's spare places count too). A statement '..UptoSaid' is the law's where the arguments, and the package variables that the reading takes, are together of bulk at most 1048576: NARROWER than '..Said'. Prove '..Said' where nothing that the law and all that it calls make is longer than what came in: it says more and counts as full. Else prove '..UptoSaid'. A law counts once. -/
mutual
def uptoBulk {H : Type} : DataW H → Nat
  | .lit (.string bytes) => bytes.length + 1
  | .lit _ => 1
  | .nil => 1
  | .ptr d => uptoBulk d + 1
  | .slice elems spare => uptoBulkAll elems + uptoBulkAll spare + 1
  | .agg parts => uptoBulkAll parts + 1
  | .iface _ d => uptoBulk d + 1
  | .map entries => uptoBulkEntries entries + 1
  | .held _ => 1
def uptoBulkAll {H : Type} : List (DataW H) → Nat
  | [] => 0
  | d :: r => uptoBulk d + uptoBulkAll r
def uptoBulkEntries {H : Type} : List (Lit × DataW H) → Nat
  | [] => 0
  | x :: r => uptoBulkEntry x + uptoBulkEntries r
def uptoBulkEntry {H : Type} : Lit × DataW H → Nat
  | (.string bytes, d) => bytes.length + uptoBulk d + 1
  | (_, d) => uptoBulk d + 1
 end
def uptoSmall : (H : Type) → List (DataW H) → Bool := fun _ ds => decide (uptoBulkAll ds ≤ 1048576)
def OpenSpec.upto (s : _root_.Go.ChangeSpec) : _root_.Go.OpenSpec := { _root_.Go.OpenSpec.ofChange s with cond := some uptoSmall }

/-- 'laws.FnExactFreshCost', WHERE WHAT IT READS IS OF BULK AT MOST 1048576: true; the input reads as it did. -/
def fnExactFreshCostUptoRow : OpenClaim := { program := "ytggnlljdfncnfaa", sum := "a2524b04059b64afae7dab3ac1a59d60ade3ef253730812a4203d65929ed74ff", func := "loop.example/g01111/laws.FnExactFreshCost", spec := "fnExactFreshCost", apart := false, narrowed := true }
def FnExactFreshCostUptoSaid : Prop := fnExactFreshCostUptoRow.holds Try.pinned (OpenSpec.upto fnExactFreshCostSpec)

/-- 'laws.FnExactPartialPeriods', WHERE WHAT IT READS IS OF BULK AT MOST 1048576: true; the input reads as it did. -/
def fnExactPartialPeriodsUptoRow : OpenClaim := { program := "ytggnlljdfncnfaa", sum := "a2524b04059b64afae7dab3ac1a59d60ade3ef253730812a4203d65929ed74ff", func := "loop.example/g01111/laws.FnExactPartialPeriods", spec := "fnExactPartialPeriods", apart := false, narrowed := true }
def FnExactPartialPeriodsUptoSaid : Prop := fnExactPartialPeriodsUptoRow.holds Try.pinned (OpenSpec.upto fnExactPartialPeriodsSpec)

/-- 'laws.FnExactIsRegular', WHERE WHAT IT READS IS OF BULK AT MOST 1048576: true; the input reads as it did. -/
def fnExactIsRegularUptoRow : OpenClaim := { program := "ytggnlljdfncnfaa", sum := "a2524b04059b64afae7dab3ac1a59d60ade3ef253730812a4203d65929ed74ff", func := "loop.example/g01111/laws.FnExactIsRegular", spec := "fnExactIsRegular", apart := false, narrowed := true }
def FnExactIsRegularUptoSaid : Prop := fnExactIsRegularUptoRow.holds Try.pinned (OpenSpec.upto fnExactIsRegularSpec)

end Rows
end Go.Proofs.Ytggnlljdfncnfaa
