/-
  No cell of these rows narrows 'for every input' (looked for: loops, veiled, ifaces, maps, wideKeys, modest, calm, conditions, laid).
  DERIVED. THE GIVEN ROWS OF THIS SEAT. 3 by the template 'for every input the law returns true; each argument reads behind the call as it read before'; 0 by the template 'total and deterministic' (their statements: YtghhkfcacaagjaaTotals.lean).
  GIVEN WITH THE SEED: the statements are not yours to turn. If you find one false, say at which input.
  Laid BY PROGRAM, IN A SANDBOX (cutbox-rows.mjs): the forced cells as the released guide's own fill.sh prints them over the translation 5d787edeaa361156… (all of the seat's roots in one cut). By AI agents, Wed Nov 11 2026. No macro, syntax, notation, axiom, sorry.
-/
import Derived.Test.YtghhkfcacaagjaaChecked
import GoSem.Claim
import GoSem.ClaimJoined
import GoSem.ClaimMapViews
import Derived.JoinedTies
import Derived.KernelRfl
namespace Go.Proofs.Ytghhkfcacaagjaa
/- THE CELL 'sum', in the pinned program and in every row, IS THE sha256 OF THE DUMP (.gsa) THAT YtghhkfcacaagjaaProg.lean LOADS. Nothing in Lean hashes anything: it is a label: what it is worth is what the hold of that sum in a sandbox is worth. -/
noncomputable def Try.pinned : Pinned := { name := "ytghhkfcacaagjaa", sum := "5d787edeaa361156f5f838231d0fb7399ad055581a8a5ece89bb1d60474aab8c", checked := Try.checked }
namespace Rows
def none {H : Type} : Left H := { results := [], args := [] }

/-- 'laws.FnExactDaysBusy': WHATEVER THE INPUT: true; the input reads as it did. -/
def fnExactDaysBusySpec : ChangeSpec := { name := "fnExactDaysBusy", fn := fun _ => fun
  | [d1, d2, d3] => { results := [.lit (.bool true)], args := [d1, d2, d3] }
  | _ => none }
def fnExactDaysBusyRow : OpenClaim := { program := "ytghhkfcacaagjaa", sum := "5d787edeaa361156f5f838231d0fb7399ad055581a8a5ece89bb1d60474aab8c", func := "loop.example/g01111/laws.FnExactDaysBusy", spec := "fnExactDaysBusy", apart := false }
def FnExactDaysBusySaid : Prop := fnExactDaysBusyRow.holds Try.pinned (OpenSpec.ofChange fnExactDaysBusySpec)

/-- ITS FALSE NEIGHBOUR: 'it returns false'. Refute it at one input. -/
def fnExactDaysBusyWrong : ChangeSpec := { name := "fnExactDaysBusy", fn := fun _ => fun
  | [d1, d2, d3] => { results := [.lit (.bool false)], args := [d1, d2, d3] }
  | _ => none }
def FnExactDaysBusyWrongFalsely : Prop := fnExactDaysBusyRow.holds Try.pinned (OpenSpec.ofChange fnExactDaysBusyWrong)

/-- 'laws.FnExactIsFree': WHATEVER THE INPUT: true; the input reads as it did. -/
def fnExactIsFreeSpec : ChangeSpec := { name := "fnExactIsFree", fn := fun _ => fun
  | [d1, d2] => { results := [.lit (.bool true)], args := [d1, d2] }
  | _ => none }
def fnExactIsFreeRow : OpenClaim := { program := "ytghhkfcacaagjaa", sum := "5d787edeaa361156f5f838231d0fb7399ad055581a8a5ece89bb1d60474aab8c", func := "loop.example/g01111/laws.FnExactIsFree", spec := "fnExactIsFree", apart := false }
def FnExactIsFreeSaid : Prop := fnExactIsFreeRow.holds Try.pinned (OpenSpec.ofChange fnExactIsFreeSpec)

/-- ITS FALSE NEIGHBOUR: 'it returns false'. Refute it at one input. -/
def fnExactIsFreeWrong : ChangeSpec := { name := "fnExactIsFree", fn := fun _ => fun
  | [d1, d2] => { results := [.lit (.bool false)], args := [d1, d2] }
  | _ => none }
def FnExactIsFreeWrongFalsely : Prop := fnExactIsFreeRow.holds Try.pinned (OpenSpec.ofChange fnExactIsFreeWrong)

/-- 'laws.FnExactVisitsOn': WHATEVER THE INPUT: true; the input reads as it did. -/
def fnExactVisitsOnSpec : ChangeSpec := { name := "fnExactVisitsOn", fn := fun _ => fun
  | [d1, d2, d3] => { results := [.lit (.bool true)], args := [d1, d2, d3] }
  | _ => none }
def fnExactVisitsOnRow : OpenClaim := { program := "ytghhkfcacaagjaa", sum := "5d787edeaa361156f5f838231d0fb7399ad055581a8a5ece89bb1d60474aab8c", func := "loop.example/g01111/laws.FnExactVisitsOn", spec := "fnExactVisitsOn", apart := false }
def FnExactVisitsOnSaid : Prop := fnExactVisitsOnRow.holds Try.pinned (OpenSpec.ofChange fnExactVisitsOnSpec)

/-- ITS FALSE NEIGHBOUR: 'it returns false'. Refute it at one input. -/
def fnExactVisitsOnWrong : ChangeSpec := { name := "fnExactVisitsOn", fn := fun _ => fun
  | [d1, d2, d3] => { results := [.lit (.bool false)], args := [d1, d2, d3] }
  | _ => none }
def FnExactVisitsOnWrongFalsely : Prop := fnExactVisitsOnRow.holds Try.pinned (OpenSpec.ofChange fnExactVisitsOnWrong)

/- THE SECOND FORM. 'bulk': how many values and letters a reading holds, each counted each time it is reached (what is shared counts as often as it is met; a slice's spare places count too). A statement '..UptoSaid' is the law's where the arguments, and the package variables that the reading takes, are together of bulk at most 1048576: NARROWER than '..Said'. Prove '..Said' where nothing that the law and all that it calls make is longer than what came in: it says more and counts as full. Else prove '..UptoSaid'. A law counts once. -/
mutual
def uptoBulk {H : Type} : DataW H → Nat
  | .lit (.string bytes) => bytes.length + 1
  | .lit _ => 1
  | .nil => 1
  | .ptr d => uptoBulk d + 1
  | .slice elems spare => uptoBulkAll elems + uptoBulkAll spare + 1
  | .agg parts => uptoBulkAll parts + 1
  | .iface _ d => uptoBulk d + 1
  | .map entries => uptoBulkEntries entries + 1
  | .held _ => 1
def uptoBulkAll {H : Type} : List (DataW H) → Nat
  | [] => 0
  | d :: r => uptoBulk d + uptoBulkAll r
def uptoBulkEntries {H : Type} : List (Lit × DataW H) → Nat
  | [] => 0
  | x :: r => uptoBulkEntry x + uptoBulkEntries r
def uptoBulkEntry {H : Type} : Lit × DataW H → Nat
  | (.string bytes, d) => bytes.length + uptoBulk d + 1
  | (_, d) => uptoBulk d + 1
 end
def uptoSmall : (H : Type) → List (DataW H) → Bool := fun _ ds => decide (uptoBulkAll ds ≤ 1048576)
def OpenSpec.upto (s : _root_.Go.ChangeSpec) : _root_.Go.OpenSpec := { _root_.Go.OpenSpec.ofChange s with cond := some uptoSmall }

/-- 'laws.FnExactDaysBusy', WHERE WHAT IT READS IS OF BULK AT MOST 1048576: true; the input reads as it did. -/
def fnExactDaysBusyUptoRow : OpenClaim := { program := "ytghhkfcacaagjaa", sum := "5d787edeaa361156f5f838231d0fb7399ad055581a8a5ece89bb1d60474aab8c", func := "loop.example/g01111/laws.FnExactDaysBusy", spec := "fnExactDaysBusy", apart := false, narrowed := true }
def FnExactDaysBusyUptoSaid : Prop := fnExactDaysBusyUptoRow.holds Try.pinned (OpenSpec.upto fnExactDaysBusySpec)

/-- 'laws.FnExactIsFree', WHERE WHAT IT READS IS OF BULK AT MOST 1048576: true; the input reads as it did. -/
def fnExactIsFreeUptoRow : OpenClaim := { program := "ytghhkfcacaagjaa", sum := "5d787edeaa361156f5f838231d0fb7399ad055581a8a5ece89bb1d60474aab8c", func := "loop.example/g01111/laws.FnExactIsFree", spec := "fnExactIsFree", apart := false, narrowed := true }
def FnExactIsFreeUptoSaid : Prop := fnExactIsFreeUptoRow.holds Try.pinned (OpenSpec.upto fnExactIsFreeSpec)

/-- 'laws.FnExactVisitsOn', WHERE WHAT IT READS IS OF BULK AT MOST 1048576: true; the input reads as it did. -/
def fnExactVisitsOnUptoRow : OpenClaim := { program := "ytghhkfcacaagjaa", sum := "5d787edeaa361156f5f838231d0fb7399ad055581a8a5ece89bb1d60474aab8c", func := "loop.example/g01111/laws.FnExactVisitsOn", spec := "fnExactVisitsOn", apart := false, narrowed := true }
def FnExactVisitsOnUptoSaid : Prop := fnExactVisitsOnUptoRow.holds Try.pinned (OpenSpec.upto fnExactVisitsOnSpec)

end Rows
end Go.Proofs.Ytghhkfcacaagjaa
