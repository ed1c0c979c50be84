/-
  No cell of these rows narrows 'for every input' (looked for: loops, veiled, ifaces, maps, wideKeys, modest, calm, conditions, laid).
  DERIVED. THE GIVEN ROWS OF THIS SEAT. 3 by the template 'for every input the law returns true; each argument reads behind the call as it read before'; 0 by the template 'total and deterministic' (their statements: YtniocpienddbnaaTotals.lean).
  GIVEN WITH THE SEED: the statements are not yours to turn. If you find one false, say at which input.
  Laid BY PROGRAM, IN A SANDBOX (cutbox-rows.mjs): the forced cells as the released guide's own fill.sh prints them over the translation 6cf65bd72650be7d… (all of the seat's roots in one cut). By AI agents, Wed Nov 11 2026. No macro, syntax, notation, axiom, sorry.
-/
import Derived.Test.YtniocpienddbnaaChecked
import GoSem.Claim
import GoSem.ClaimJoined
import GoSem.ClaimMapViews
import Derived.JoinedTies
import Derived.KernelRfl
namespace Go.Proofs.Ytniocpienddbnaa
/- THE CELL 'sum', in the pinned program and in every row, IS THE sha256 OF THE DUMP (.gsa) THAT YtniocpienddbnaaProg.lean LOADS. Nothing in Lean hashes anything: it is a label: what it is worth is what the hold of that sum in a sandbox is worth. -/
noncomputable def Try.pinned : Pinned := { name := "ytniocpienddbnaa", sum := "6cf65bd72650be7dab0a4ce874bca8af54c0cdd7b8750abc5f7cbf6a7982a11e", checked := Try.checked }
namespace Rows
def none {H : Type} : Left H := { results := [], args := [] }

/-- 'laws.FnExactCycleFits': WHATEVER THE INPUT: true; the input reads as it did. -/
def fnExactCycleFitsSpec : ChangeSpec := { name := "fnExactCycleFits", fn := fun _ => fun
  | [d1, d2] => { results := [.lit (.bool true)], args := [d1, d2] }
  | _ => none }
def fnExactCycleFitsRow : OpenClaim := { program := "ytniocpienddbnaa", sum := "6cf65bd72650be7dab0a4ce874bca8af54c0cdd7b8750abc5f7cbf6a7982a11e", func := "loop.example/g01111/laws.FnExactCycleFits", spec := "fnExactCycleFits", apart := false }
def FnExactCycleFitsSaid : Prop := fnExactCycleFitsRow.holds Try.pinned (OpenSpec.ofChange fnExactCycleFitsSpec)

/-- ITS FALSE NEIGHBOUR: 'it returns false'. Refute it at one input. -/
def fnExactCycleFitsWrong : ChangeSpec := { name := "fnExactCycleFits", fn := fun _ => fun
  | [d1, d2] => { results := [.lit (.bool false)], args := [d1, d2] }
  | _ => none }
def FnExactCycleFitsWrongFalsely : Prop := fnExactCycleFitsRow.holds Try.pinned (OpenSpec.ofChange fnExactCycleFitsWrong)

/-- 'laws.FnExactCommonCost': WHATEVER THE INPUT: true; the input reads as it did. -/
def fnExactCommonCostSpec : ChangeSpec := { name := "fnExactCommonCost", fn := fun _ => fun
  | [d1, d2] => { results := [.lit (.bool true)], args := [d1, d2] }
  | _ => none }
def fnExactCommonCostRow : OpenClaim := { program := "ytniocpienddbnaa", sum := "6cf65bd72650be7dab0a4ce874bca8af54c0cdd7b8750abc5f7cbf6a7982a11e", func := "loop.example/g01111/laws.FnExactCommonCost", spec := "fnExactCommonCost", apart := false }
def FnExactCommonCostSaid : Prop := fnExactCommonCostRow.holds Try.pinned (OpenSpec.ofChange fnExactCommonCostSpec)

/-- ITS FALSE NEIGHBOUR: 'it returns false'. Refute it at one input. -/
def fnExactCommonCostWrong : ChangeSpec := { name := "fnExactCommonCost", fn := fun _ => fun
  | [d1, d2] => { results := [.lit (.bool false)], args := [d1, d2] }
  | _ => none }
def FnExactCommonCostWrongFalsely : Prop := fnExactCommonCostRow.holds Try.pinned (OpenSpec.ofChange fnExactCommonCostWrong)

/-- 'laws.FnExactLeastCommon': WHATEVER THE INPUT: true; the input reads as it did. -/
def fnExactLeastCommonSpec : ChangeSpec := { name := "fnExactLeastCommon", fn := fun _ => fun
  | [d] => { results := [.lit (.bool true)], args := [d] }
  | _ => none }
def fnExactLeastCommonRow : OpenClaim := { program := "ytniocpienddbnaa", sum := "6cf65bd72650be7dab0a4ce874bca8af54c0cdd7b8750abc5f7cbf6a7982a11e", func := "loop.example/g01111/laws.FnExactLeastCommon", spec := "fnExactLeastCommon", apart := false }
def FnExactLeastCommonSaid : Prop := fnExactLeastCommonRow.holds Try.pinned (OpenSpec.ofChange fnExactLeastCommonSpec)

/-- ITS FALSE NEIGHBOUR: 'it returns false'. Refute it at one input. -/
def fnExactLeastCommonWrong : ChangeSpec := { name := "fnExactLeastCommon", fn := fun _ => fun
  | [d] => { results := [.lit (.bool false)], args := [d] }
  | _ => none }
def FnExactLeastCommonWrongFalsely : Prop := fnExactLeastCommonRow.holds Try.pinned (OpenSpec.ofChange fnExactLeastCommonWrong)

/- THE SECOND FORM. 'bulk': how many values and letters a reading holds, each counted each time it is reached (what is shared counts as often as it is met; a slice's spare places count too). A statement '..UptoSaid' is the law's where the arguments, and the package variables that the reading takes, are together of bulk at most 1048576: NARROWER than '..Said'. Prove '..Said' where nothing that the law and all that it calls make is longer than what came in: it says more and counts as full. Else prove '..UptoSaid'. A law counts once. -/
mutual
def uptoBulk {H : Type} : DataW H → Nat
  | .lit (.string bytes) => bytes.length + 1
  | .lit _ => 1
  | .nil => 1
  | .ptr d => uptoBulk d + 1
  | .slice elems spare => uptoBulkAll elems + uptoBulkAll spare + 1
  | .agg parts => uptoBulkAll parts + 1
  | .iface _ d => uptoBulk d + 1
  | .map entries => uptoBulkEntries entries + 1
  | .held _ => 1
def uptoBulkAll {H : Type} : List (DataW H) → Nat
  | [] => 0
  | d :: r => uptoBulk d + uptoBulkAll r
def uptoBulkEntries {H : Type} : List (Lit × DataW H) → Nat
  | [] => 0
  | x :: r => uptoBulkEntry x + uptoBulkEntries r
def uptoBulkEntry {H : Type} : Lit × DataW H → Nat
  | (.string bytes, d) => bytes.length + uptoBulk d + 1
  | (_, d) => uptoBulk d + 1
 end
def uptoSmall : (H : Type) → List (DataW H) → Bool := fun _ ds => decide (uptoBulkAll ds ≤ 1048576)
def OpenSpec.upto (s : _root_.Go.ChangeSpec) : _root_.Go.OpenSpec := { _root_.Go.OpenSpec.ofChange s with cond := some uptoSmall }

/-- 'laws.FnExactCycleFits', WHERE WHAT IT READS IS OF BULK AT MOST 1048576: true; the input reads as it did. -/
def fnExactCycleFitsUptoRow : OpenClaim := { program := "ytniocpienddbnaa", sum := "6cf65bd72650be7dab0a4ce874bca8af54c0cdd7b8750abc5f7cbf6a7982a11e", func := "loop.example/g01111/laws.FnExactCycleFits", spec := "fnExactCycleFits", apart := false, narrowed := true }
def FnExactCycleFitsUptoSaid : Prop := fnExactCycleFitsUptoRow.holds Try.pinned (OpenSpec.upto fnExactCycleFitsSpec)

/-- 'laws.FnExactCommonCost', WHERE WHAT IT READS IS OF BULK AT MOST 1048576: true; the input reads as it did. -/
def fnExactCommonCostUptoRow : OpenClaim := { program := "ytniocpienddbnaa", sum := "6cf65bd72650be7dab0a4ce874bca8af54c0cdd7b8750abc5f7cbf6a7982a11e", func := "loop.example/g01111/laws.FnExactCommonCost", spec := "fnExactCommonCost", apart := false, narrowed := true }
def FnExactCommonCostUptoSaid : Prop := fnExactCommonCostUptoRow.holds Try.pinned (OpenSpec.upto fnExactCommonCostSpec)

/-- 'laws.FnExactLeastCommon', WHERE WHAT IT READS IS OF BULK AT MOST 1048576: true; the input reads as it did. -/
def fnExactLeastCommonUptoRow : OpenClaim := { program := "ytniocpienddbnaa", sum := "6cf65bd72650be7dab0a4ce874bca8af54c0cdd7b8750abc5f7cbf6a7982a11e", func := "loop.example/g01111/laws.FnExactLeastCommon", spec := "fnExactLeastCommon", apart := false, narrowed := true }
def FnExactLeastCommonUptoSaid : Prop := fnExactLeastCommonUptoRow.holds Try.pinned (OpenSpec.upto fnExactLeastCommonSpec)

end Rows
end Go.Proofs.Ytniocpienddbnaa
