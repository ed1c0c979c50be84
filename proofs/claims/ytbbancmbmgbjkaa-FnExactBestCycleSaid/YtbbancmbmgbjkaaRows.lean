/-
  No cell of these rows narrows 'for every input' (looked for: loops, veiled, ifaces, maps, wideKeys, modest, calm, conditions, laid).
  DERIVED. THE GIVEN ROWS OF THIS SEAT. 6 by the template 'for every input the law returns true; each argument reads behind the call as it read before'; 0 by the template 'total and deterministic' (their statements: YtbbancmbmgbjkaaTotals.lean).
  GIVEN WITH THE SEED: the statements are not yours to turn. If you find one false, say at which input.
  Laid BY PROGRAM, IN A SANDBOX (cutbox-rows.mjs): the forced cells as the released guide's own fill.sh prints them over the translation ba939439a220aa1b… (all of the seat's roots in one cut). By AI agents, Wed Nov 11 2026. No macro, syntax, notation, axiom, sorry.
-/
import Derived.Test.YtbbancmbmgbjkaaChecked
import GoSem.Claim
import GoSem.ClaimJoined
import GoSem.ClaimMapViews
import Derived.JoinedTies
import Derived.KernelRfl
namespace Go.Proofs.Ytbbancmbmgbjkaa
/- THE CELL 'sum', in the pinned program and in every row, IS THE sha256 OF THE DUMP (.gsa) THAT YtbbancmbmgbjkaaProg.lean LOADS. Nothing in Lean hashes anything: it is a label: what it is worth is what the hold of that sum in a sandbox is worth. -/
noncomputable def Try.pinned : Pinned := { name := "ytbbancmbmgbjkaa", sum := "ba939439a220aa1bb46f8c8ff8c50087d796dc55b5848f653d3f09253118c731", checked := Try.checked }
namespace Rows
def none {H : Type} : Left H := { results := [], args := [] }

/-- 'laws.FnExactIsItem': WHATEVER THE INPUT: true; the input reads as it did. -/
def fnExactIsItemSpec : ChangeSpec := { name := "fnExactIsItem", fn := fun _ => fun
  | [d] => { results := [.lit (.bool true)], args := [d] }
  | _ => none }
def fnExactIsItemRow : OpenClaim := { program := "ytbbancmbmgbjkaa", sum := "ba939439a220aa1bb46f8c8ff8c50087d796dc55b5848f653d3f09253118c731", func := "loop.example/g01111/laws.FnExactIsItem", spec := "fnExactIsItem", apart := false }
def FnExactIsItemSaid : Prop := fnExactIsItemRow.holds Try.pinned (OpenSpec.ofChange fnExactIsItemSpec)

/-- ITS FALSE NEIGHBOUR: 'it returns false'. Refute it at one input. -/
def fnExactIsItemWrong : ChangeSpec := { name := "fnExactIsItem", fn := fun _ => fun
  | [d] => { results := [.lit (.bool false)], args := [d] }
  | _ => none }
def FnExactIsItemWrongFalsely : Prop := fnExactIsItemRow.holds Try.pinned (OpenSpec.ofChange fnExactIsItemWrong)

/-- 'laws.FnExactIsConvexFor': WHATEVER THE INPUT: true; the input reads as it did. -/
def fnExactIsConvexForSpec : ChangeSpec := { name := "fnExactIsConvexFor", fn := fun _ => fun
  | [d1, d2] => { results := [.lit (.bool true)], args := [d1, d2] }
  | _ => none }
def fnExactIsConvexForRow : OpenClaim := { program := "ytbbancmbmgbjkaa", sum := "ba939439a220aa1bb46f8c8ff8c50087d796dc55b5848f653d3f09253118c731", func := "loop.example/g01111/laws.FnExactIsConvexFor", spec := "fnExactIsConvexFor", apart := false }
def FnExactIsConvexForSaid : Prop := fnExactIsConvexForRow.holds Try.pinned (OpenSpec.ofChange fnExactIsConvexForSpec)

/-- ITS FALSE NEIGHBOUR: 'it returns false'. Refute it at one input. -/
def fnExactIsConvexForWrong : ChangeSpec := { name := "fnExactIsConvexFor", fn := fun _ => fun
  | [d1, d2] => { results := [.lit (.bool false)], args := [d1, d2] }
  | _ => none }
def FnExactIsConvexForWrongFalsely : Prop := fnExactIsConvexForRow.holds Try.pinned (OpenSpec.ofChange fnExactIsConvexForWrong)

/-- 'laws.FnExactCycleCost': WHATEVER THE INPUT: true; the input reads as it did. -/
def fnExactCycleCostSpec : ChangeSpec := { name := "fnExactCycleCost", fn := fun _ => fun
  | [d1, d2] => { results := [.lit (.bool true)], args := [d1, d2] }
  | _ => none }
def fnExactCycleCostRow : OpenClaim := { program := "ytbbancmbmgbjkaa", sum := "ba939439a220aa1bb46f8c8ff8c50087d796dc55b5848f653d3f09253118c731", func := "loop.example/g01111/laws.FnExactCycleCost", spec := "fnExactCycleCost", apart := false }
def FnExactCycleCostSaid : Prop := fnExactCycleCostRow.holds Try.pinned (OpenSpec.ofChange fnExactCycleCostSpec)

/-- ITS FALSE NEIGHBOUR: 'it returns false'. Refute it at one input. -/
def fnExactCycleCostWrong : ChangeSpec := { name := "fnExactCycleCost", fn := fun _ => fun
  | [d1, d2] => { results := [.lit (.bool false)], args := [d1, d2] }
  | _ => none }
def FnExactCycleCostWrongFalsely : Prop := fnExactCycleCostRow.holds Try.pinned (OpenSpec.ofChange fnExactCycleCostWrong)

/-- 'laws.FnExactPowerCycle': WHATEVER THE INPUT: true; the input reads as it did. -/
def fnExactPowerCycleSpec : ChangeSpec := { name := "fnExactPowerCycle", fn := fun _ => fun
  | [d] => { results := [.lit (.bool true)], args := [d] }
  | _ => none }
def fnExactPowerCycleRow : OpenClaim := { program := "ytbbancmbmgbjkaa", sum := "ba939439a220aa1bb46f8c8ff8c50087d796dc55b5848f653d3f09253118c731", func := "loop.example/g01111/laws.FnExactPowerCycle", spec := "fnExactPowerCycle", unfollowed := true, recurses := true, apart := false }
def FnExactPowerCycleSaid : Prop := fnExactPowerCycleRow.holds Try.pinned (OpenSpec.ofChange fnExactPowerCycleSpec)

/-- ITS FALSE NEIGHBOUR: 'it returns false'. Refute it at one input. -/
def fnExactPowerCycleWrong : ChangeSpec := { name := "fnExactPowerCycle", fn := fun _ => fun
  | [d] => { results := [.lit (.bool false)], args := [d] }
  | _ => none }
def FnExactPowerCycleWrongFalsely : Prop := fnExactPowerCycleRow.holds Try.pinned (OpenSpec.ofChange fnExactPowerCycleWrong)

/-- 'laws.FnExactBestCycle': WHATEVER THE INPUT: true; the input reads as it did. -/
def fnExactBestCycleSpec : ChangeSpec := { name := "fnExactBestCycle", fn := fun _ => fun
  | [d] => { results := [.lit (.bool true)], args := [d] }
  | _ => none }
def fnExactBestCycleRow : OpenClaim := { program := "ytbbancmbmgbjkaa", sum := "ba939439a220aa1bb46f8c8ff8c50087d796dc55b5848f653d3f09253118c731", func := "loop.example/g01111/laws.FnExactBestCycle", spec := "fnExactBestCycle", unfollowed := true, recurses := true, apart := false }
def FnExactBestCycleSaid : Prop := fnExactBestCycleRow.holds Try.pinned (OpenSpec.ofChange fnExactBestCycleSpec)

/-- ITS FALSE NEIGHBOUR: 'it returns false'. Refute it at one input. -/
def fnExactBestCycleWrong : ChangeSpec := { name := "fnExactBestCycle", fn := fun _ => fun
  | [d] => { results := [.lit (.bool false)], args := [d] }
  | _ => none }
def FnExactBestCycleWrongFalsely : Prop := fnExactBestCycleRow.holds Try.pinned (OpenSpec.ofChange fnExactBestCycleWrong)

/-- 'laws.FnExactShareOf': WHATEVER THE INPUT: true; the input reads as it did. -/
def fnExactShareOfSpec : ChangeSpec := { name := "fnExactShareOf", fn := fun _ => fun
  | [d] => { results := [.lit (.bool true)], args := [d] }
  | _ => none }
def fnExactShareOfRow : OpenClaim := { program := "ytbbancmbmgbjkaa", sum := "ba939439a220aa1bb46f8c8ff8c50087d796dc55b5848f653d3f09253118c731", func := "loop.example/g01111/laws.FnExactShareOf", spec := "fnExactShareOf", apart := false }
def FnExactShareOfSaid : Prop := fnExactShareOfRow.holds Try.pinned (OpenSpec.ofChange fnExactShareOfSpec)

/-- ITS FALSE NEIGHBOUR: 'it returns false'. Refute it at one input. -/
def fnExactShareOfWrong : ChangeSpec := { name := "fnExactShareOf", fn := fun _ => fun
  | [d] => { results := [.lit (.bool false)], args := [d] }
  | _ => none }
def FnExactShareOfWrongFalsely : Prop := fnExactShareOfRow.holds Try.pinned (OpenSpec.ofChange fnExactShareOfWrong)

/- THE SECOND FORM. 'bulk': how many values and letters a reading holds, each counted each time it is reached (what is shared counts as often as it is met; a slice's spare places count too). A statement '..UptoSaid' is the law's where the arguments, and the package variables that the reading takes, are together of bulk at most 1048576: NARROWER than '..Said'. Prove '..Said' where nothing that the law and all that it calls make is longer than what came in: it says more and counts as full. Else prove '..UptoSaid'. A law counts once. -/
mutual
def uptoBulk {H : Type} : DataW H → Nat
  | .lit (.string bytes) => bytes.length + 1
  | .lit _ => 1
  | .nil => 1
  | .ptr d => uptoBulk d + 1
  | .slice elems spare => uptoBulkAll elems + uptoBulkAll spare + 1
  | .agg parts => uptoBulkAll parts + 1
  | .iface _ d => uptoBulk d + 1
  | .map entries => uptoBulkEntries entries + 1
  | .held _ => 1
def uptoBulkAll {H : Type} : List (DataW H) → Nat
  | [] => 0
  | d :: r => uptoBulk d + uptoBulkAll r
def uptoBulkEntries {H : Type} : List (Lit × DataW H) → Nat
  | [] => 0
  | x :: r => uptoBulkEntry x + uptoBulkEntries r
def uptoBulkEntry {H : Type} : Lit × DataW H → Nat
  | (.string bytes, d) => bytes.length + uptoBulk d + 1
  | (_, d) => uptoBulk d + 1
 end
def uptoSmall : (H : Type) → List (DataW H) → Bool := fun _ ds => decide (uptoBulkAll ds ≤ 1048576)
def OpenSpec.upto (s : _root_.Go.ChangeSpec) : _root_.Go.OpenSpec := { _root_.Go.OpenSpec.ofChange s with cond := some uptoSmall }

/-- 'laws.FnExactIsItem', WHERE WHAT IT READS IS OF BULK AT MOST 1048576: true; the input reads as it did. -/
def fnExactIsItemUptoRow : OpenClaim := { program := "ytbbancmbmgbjkaa", sum := "ba939439a220aa1bb46f8c8ff8c50087d796dc55b5848f653d3f09253118c731", func := "loop.example/g01111/laws.FnExactIsItem", spec := "fnExactIsItem", apart := false, narrowed := true }
def FnExactIsItemUptoSaid : Prop := fnExactIsItemUptoRow.holds Try.pinned (OpenSpec.upto fnExactIsItemSpec)

/-- 'laws.FnExactIsConvexFor', WHERE WHAT IT READS IS OF BULK AT MOST 1048576: true; the input reads as it did. -/
def fnExactIsConvexForUptoRow : OpenClaim := { program := "ytbbancmbmgbjkaa", sum := "ba939439a220aa1bb46f8c8ff8c50087d796dc55b5848f653d3f09253118c731", func := "loop.example/g01111/laws.FnExactIsConvexFor", spec := "fnExactIsConvexFor", apart := false, narrowed := true }
def FnExactIsConvexForUptoSaid : Prop := fnExactIsConvexForUptoRow.holds Try.pinned (OpenSpec.upto fnExactIsConvexForSpec)

/-- 'laws.FnExactCycleCost', WHERE WHAT IT READS IS OF BULK AT MOST 1048576: true; the input reads as it did. -/
def fnExactCycleCostUptoRow : OpenClaim := { program := "ytbbancmbmgbjkaa", sum := "ba939439a220aa1bb46f8c8ff8c50087d796dc55b5848f653d3f09253118c731", func := "loop.example/g01111/laws.FnExactCycleCost", spec := "fnExactCycleCost", apart := false, narrowed := true }
def FnExactCycleCostUptoSaid : Prop := fnExactCycleCostUptoRow.holds Try.pinned (OpenSpec.upto fnExactCycleCostSpec)

/-- 'laws.FnExactPowerCycle', WHERE WHAT IT READS IS OF BULK AT MOST 1048576: true; the input reads as it did. -/
def fnExactPowerCycleUptoRow : OpenClaim := { program := "ytbbancmbmgbjkaa", sum := "ba939439a220aa1bb46f8c8ff8c50087d796dc55b5848f653d3f09253118c731", func := "loop.example/g01111/laws.FnExactPowerCycle", spec := "fnExactPowerCycle", unfollowed := true, recurses := true, apart := false, narrowed := true }
def FnExactPowerCycleUptoSaid : Prop := fnExactPowerCycleUptoRow.holds Try.pinned (OpenSpec.upto fnExactPowerCycleSpec)

/-- 'laws.FnExactBestCycle', WHERE WHAT IT READS IS OF BULK AT MOST 1048576: true; the input reads as it did. -/
def fnExactBestCycleUptoRow : OpenClaim := { program := "ytbbancmbmgbjkaa", sum := "ba939439a220aa1bb46f8c8ff8c50087d796dc55b5848f653d3f09253118c731", func := "loop.example/g01111/laws.FnExactBestCycle", spec := "fnExactBestCycle", unfollowed := true, recurses := true, apart := false, narrowed := true }
def FnExactBestCycleUptoSaid : Prop := fnExactBestCycleUptoRow.holds Try.pinned (OpenSpec.upto fnExactBestCycleSpec)

/-- 'laws.FnExactShareOf', WHERE WHAT IT READS IS OF BULK AT MOST 1048576: true; the input reads as it did. -/
def fnExactShareOfUptoRow : OpenClaim := { program := "ytbbancmbmgbjkaa", sum := "ba939439a220aa1bb46f8c8ff8c50087d796dc55b5848f653d3f09253118c731", func := "loop.example/g01111/laws.FnExactShareOf", spec := "fnExactShareOf", apart := false, narrowed := true }
def FnExactShareOfUptoSaid : Prop := fnExactShareOfUptoRow.holds Try.pinned (OpenSpec.upto fnExactShareOfSpec)

end Rows
end Go.Proofs.Ytbbancmbmgbjkaa
