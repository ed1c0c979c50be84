/-
  No cell of these rows narrows 'for every input' (looked for: loops, veiled, ifaces, maps, wideKeys, modest, calm, conditions, laid).
  DERIVED. THE GIVEN ROWS OF THIS SEAT. 8 by the template 'for every input the law returns true; each argument reads behind the call as it read before'; 0 by the template 'total and deterministic' (their statements: YtmofmcagclkchaaTotals.lean).
  GIVEN WITH THE SEED: the statements are not yours to turn. If you find one false, say at which input.
  Laid BY PROGRAM, IN A SANDBOX (cutbox-rows.mjs): the forced cells as the released guide's own fill.sh prints them over the translation 8a5468e1a867305c… (all of the seat's roots in one cut). By AI agents, Wed Nov 11 2026. No macro, syntax, notation, axiom, sorry.
-/
import Derived.Test.YtmofmcagclkchaaChecked
import GoSem.Claim
import GoSem.ClaimJoined
import GoSem.ClaimMapViews
import Derived.JoinedTies
import Derived.KernelRfl
namespace Go.Proofs.Ytmofmcagclkchaa
/- THE CELL 'sum', in the pinned program and in every row, IS THE sha256 OF THE DUMP (.gsa) THAT YtmofmcagclkchaaProg.lean LOADS. Nothing in Lean hashes anything: it is a label: what it is worth is what the hold of that sum in a sandbox is worth. -/
noncomputable def Try.pinned : Pinned := { name := "ytmofmcagclkchaa", sum := "8a5468e1a867305c54ebca98c1d4c9d65e291633f400809634da46d7d6d6ae8f", checked := Try.checked }
namespace Rows
def none {H : Type} : Left H := { results := [], args := [] }

/-- 'laws.FnExactIsShelf': WHATEVER THE INPUT: true; the input reads as it did. -/
def fnExactIsShelfSpec : ChangeSpec := { name := "fnExactIsShelf", fn := fun _ => fun
  | [d] => { results := [.lit (.bool true)], args := [d] }
  | _ => none }
def fnExactIsShelfRow : OpenClaim := { program := "ytmofmcagclkchaa", sum := "8a5468e1a867305c54ebca98c1d4c9d65e291633f400809634da46d7d6d6ae8f", func := "loop.example/g01111/laws.FnExactIsShelf", spec := "fnExactIsShelf", apart := false }
def FnExactIsShelfSaid : Prop := fnExactIsShelfRow.holds Try.pinned (OpenSpec.ofChange fnExactIsShelfSpec)

/-- ITS FALSE NEIGHBOUR: 'it returns false'. Refute it at one input. -/
def fnExactIsShelfWrong : ChangeSpec := { name := "fnExactIsShelf", fn := fun _ => fun
  | [d] => { results := [.lit (.bool false)], args := [d] }
  | _ => none }
def FnExactIsShelfWrongFalsely : Prop := fnExactIsShelfRow.holds Try.pinned (OpenSpec.ofChange fnExactIsShelfWrong)

/-- 'laws.FnExactLostBound': WHATEVER THE INPUT: true; the input reads as it did. -/
def fnExactLostBoundSpec : ChangeSpec := { name := "fnExactLostBound", fn := fun _ => fun
  | [d1, d2] => { results := [.lit (.bool true)], args := [d1, d2] }
  | _ => none }
def fnExactLostBoundRow : OpenClaim := { program := "ytmofmcagclkchaa", sum := "8a5468e1a867305c54ebca98c1d4c9d65e291633f400809634da46d7d6d6ae8f", func := "loop.example/g01111/laws.FnExactLostBound", spec := "fnExactLostBound", unfollowed := true, recurses := true, apart := false }
def FnExactLostBoundSaid : Prop := fnExactLostBoundRow.holds Try.pinned (OpenSpec.ofChange fnExactLostBoundSpec)

/-- ITS FALSE NEIGHBOUR: 'it returns false'. Refute it at one input. -/
def fnExactLostBoundWrong : ChangeSpec := { name := "fnExactLostBound", fn := fun _ => fun
  | [d1, d2] => { results := [.lit (.bool false)], args := [d1, d2] }
  | _ => none }
def FnExactLostBoundWrongFalsely : Prop := fnExactLostBoundRow.holds Try.pinned (OpenSpec.ofChange fnExactLostBoundWrong)

/-- 'laws.FnExactNewestFirst': WHATEVER THE INPUT: true; the input reads as it did. -/
def fnExactNewestFirstSpec : ChangeSpec := { name := "fnExactNewestFirst", fn := fun _ => fun
  | [d] => { results := [.lit (.bool true)], args := [d] }
  | _ => none }
def fnExactNewestFirstRow : OpenClaim := { program := "ytmofmcagclkchaa", sum := "8a5468e1a867305c54ebca98c1d4c9d65e291633f400809634da46d7d6d6ae8f", func := "loop.example/g01111/laws.FnExactNewestFirst", spec := "fnExactNewestFirst", apart := false }
def FnExactNewestFirstSaid : Prop := fnExactNewestFirstRow.holds Try.pinned (OpenSpec.ofChange fnExactNewestFirstSpec)

/-- ITS FALSE NEIGHBOUR: 'it returns false'. Refute it at one input. -/
def fnExactNewestFirstWrong : ChangeSpec := { name := "fnExactNewestFirst", fn := fun _ => fun
  | [d] => { results := [.lit (.bool false)], args := [d] }
  | _ => none }
def FnExactNewestFirstWrongFalsely : Prop := fnExactNewestFirstRow.holds Try.pinned (OpenSpec.ofChange fnExactNewestFirstWrong)

/-- 'laws.FnExactOldestFirst': WHATEVER THE INPUT: true; the input reads as it did. -/
def fnExactOldestFirstSpec : ChangeSpec := { name := "fnExactOldestFirst", fn := fun _ => fun
  | [d] => { results := [.lit (.bool true)], args := [d] }
  | _ => none }
def fnExactOldestFirstRow : OpenClaim := { program := "ytmofmcagclkchaa", sum := "8a5468e1a867305c54ebca98c1d4c9d65e291633f400809634da46d7d6d6ae8f", func := "loop.example/g01111/laws.FnExactOldestFirst", spec := "fnExactOldestFirst", apart := false }
def FnExactOldestFirstSaid : Prop := fnExactOldestFirstRow.holds Try.pinned (OpenSpec.ofChange fnExactOldestFirstSpec)

/-- ITS FALSE NEIGHBOUR: 'it returns false'. Refute it at one input. -/
def fnExactOldestFirstWrong : ChangeSpec := { name := "fnExactOldestFirst", fn := fun _ => fun
  | [d] => { results := [.lit (.bool false)], args := [d] }
  | _ => none }
def FnExactOldestFirstWrongFalsely : Prop := fnExactOldestFirstRow.holds Try.pinned (OpenSpec.ofChange fnExactOldestFirstWrong)

/-- 'laws.FnExactIsIssue': WHATEVER THE INPUT: true; the input reads as it did. -/
def fnExactIsIssueSpec : ChangeSpec := { name := "fnExactIsIssue", fn := fun _ => fun
  | [d1, d2] => { results := [.lit (.bool true)], args := [d1, d2] }
  | _ => none }
def fnExactIsIssueRow : OpenClaim := { program := "ytmofmcagclkchaa", sum := "8a5468e1a867305c54ebca98c1d4c9d65e291633f400809634da46d7d6d6ae8f", func := "loop.example/g01111/laws.FnExactIsIssue", spec := "fnExactIsIssue", apart := false }
def FnExactIsIssueSaid : Prop := fnExactIsIssueRow.holds Try.pinned (OpenSpec.ofChange fnExactIsIssueSpec)

/-- ITS FALSE NEIGHBOUR: 'it returns false'. Refute it at one input. -/
def fnExactIsIssueWrong : ChangeSpec := { name := "fnExactIsIssue", fn := fun _ => fun
  | [d1, d2] => { results := [.lit (.bool false)], args := [d1, d2] }
  | _ => none }
def FnExactIsIssueWrongFalsely : Prop := fnExactIsIssueRow.holds Try.pinned (OpenSpec.ofChange fnExactIsIssueWrong)

/-- 'laws.FnExactIsProcess': WHATEVER THE INPUT: true; the input reads as it did. -/
def fnExactIsProcessSpec : ChangeSpec := { name := "fnExactIsProcess", fn := fun _ => fun
  | [d] => { results := [.lit (.bool true)], args := [d] }
  | _ => none }
def fnExactIsProcessRow : OpenClaim := { program := "ytmofmcagclkchaa", sum := "8a5468e1a867305c54ebca98c1d4c9d65e291633f400809634da46d7d6d6ae8f", func := "loop.example/g01111/laws.FnExactIsProcess", spec := "fnExactIsProcess", apart := false }
def FnExactIsProcessSaid : Prop := fnExactIsProcessRow.holds Try.pinned (OpenSpec.ofChange fnExactIsProcessSpec)

/-- ITS FALSE NEIGHBOUR: 'it returns false'. Refute it at one input. -/
def fnExactIsProcessWrong : ChangeSpec := { name := "fnExactIsProcess", fn := fun _ => fun
  | [d] => { results := [.lit (.bool false)], args := [d] }
  | _ => none }
def FnExactIsProcessWrongFalsely : Prop := fnExactIsProcessRow.holds Try.pinned (OpenSpec.ofChange fnExactIsProcessWrong)

/-- 'laws.FnExactWholeOf': WHATEVER THE INPUT: true; the input reads as it did. -/
def fnExactWholeOfSpec : ChangeSpec := { name := "fnExactWholeOf", fn := fun _ => fun
  | [d] => { results := [.lit (.bool true)], args := [d] }
  | _ => none }
def fnExactWholeOfRow : OpenClaim := { program := "ytmofmcagclkchaa", sum := "8a5468e1a867305c54ebca98c1d4c9d65e291633f400809634da46d7d6d6ae8f", func := "loop.example/g01111/laws.FnExactWholeOf", spec := "fnExactWholeOf", apart := false }
def FnExactWholeOfSaid : Prop := fnExactWholeOfRow.holds Try.pinned (OpenSpec.ofChange fnExactWholeOfSpec)

/-- ITS FALSE NEIGHBOUR: 'it returns false'. Refute it at one input. -/
def fnExactWholeOfWrong : ChangeSpec := { name := "fnExactWholeOf", fn := fun _ => fun
  | [d] => { results := [.lit (.bool false)], args := [d] }
  | _ => none }
def FnExactWholeOfWrongFalsely : Prop := fnExactWholeOfRow.holds Try.pinned (OpenSpec.ofChange fnExactWholeOfWrong)

/-- 'laws.FnExactIsPolicy': WHATEVER THE INPUT: true; the input reads as it did. -/
def fnExactIsPolicySpec : ChangeSpec := { name := "fnExactIsPolicy", fn := fun _ => fun
  | [d1, d2] => { results := [.lit (.bool true)], args := [d1, d2] }
  | _ => none }
def fnExactIsPolicyRow : OpenClaim := { program := "ytmofmcagclkchaa", sum := "8a5468e1a867305c54ebca98c1d4c9d65e291633f400809634da46d7d6d6ae8f", func := "loop.example/g01111/laws.FnExactIsPolicy", spec := "fnExactIsPolicy", apart := false }
def FnExactIsPolicySaid : Prop := fnExactIsPolicyRow.holds Try.pinned (OpenSpec.ofChange fnExactIsPolicySpec)

/-- ITS FALSE NEIGHBOUR: 'it returns false'. Refute it at one input. -/
def fnExactIsPolicyWrong : ChangeSpec := { name := "fnExactIsPolicy", fn := fun _ => fun
  | [d1, d2] => { results := [.lit (.bool false)], args := [d1, d2] }
  | _ => none }
def FnExactIsPolicyWrongFalsely : Prop := fnExactIsPolicyRow.holds Try.pinned (OpenSpec.ofChange fnExactIsPolicyWrong)

/- THE SECOND FORM. 'bulk': how many values and letters a reading holds, each counted each time it is reached (what is shared counts as often as it is met; a slice's spare places count too). A statement '..UptoSaid' is the law's where the arguments, and the package variables that the reading takes, are together of bulk at most 1048576: NARROWER than '..Said'. Prove '..Said' where nothing that the law and all that it calls make is longer than what came in: it says more and counts as full. Else prove '..UptoSaid'. A law counts once. -/
mutual
def uptoBulk {H : Type} : DataW H → Nat
  | .lit (.string bytes) => bytes.length + 1
  | .lit _ => 1
  | .nil => 1
  | .ptr d => uptoBulk d + 1
  | .slice elems spare => uptoBulkAll elems + uptoBulkAll spare + 1
  | .agg parts => uptoBulkAll parts + 1
  | .iface _ d => uptoBulk d + 1
  | .map entries => uptoBulkEntries entries + 1
  | .held _ => 1
def uptoBulkAll {H : Type} : List (DataW H) → Nat
  | [] => 0
  | d :: r => uptoBulk d + uptoBulkAll r
def uptoBulkEntries {H : Type} : List (Lit × DataW H) → Nat
  | [] => 0
  | x :: r => uptoBulkEntry x + uptoBulkEntries r
def uptoBulkEntry {H : Type} : Lit × DataW H → Nat
  | (.string bytes, d) => bytes.length + uptoBulk d + 1
  | (_, d) => uptoBulk d + 1
 end
def uptoSmall : (H : Type) → List (DataW H) → Bool := fun _ ds => decide (uptoBulkAll ds ≤ 1048576)
def OpenSpec.upto (s : _root_.Go.ChangeSpec) : _root_.Go.OpenSpec := { _root_.Go.OpenSpec.ofChange s with cond := some uptoSmall }

/-- 'laws.FnExactIsShelf', WHERE WHAT IT READS IS OF BULK AT MOST 1048576: true; the input reads as it did. -/
def fnExactIsShelfUptoRow : OpenClaim := { program := "ytmofmcagclkchaa", sum := "8a5468e1a867305c54ebca98c1d4c9d65e291633f400809634da46d7d6d6ae8f", func := "loop.example/g01111/laws.FnExactIsShelf", spec := "fnExactIsShelf", apart := false, narrowed := true }
def FnExactIsShelfUptoSaid : Prop := fnExactIsShelfUptoRow.holds Try.pinned (OpenSpec.upto fnExactIsShelfSpec)

/-- 'laws.FnExactLostBound', WHERE WHAT IT READS IS OF BULK AT MOST 1048576: true; the input reads as it did. -/
def fnExactLostBoundUptoRow : OpenClaim := { program := "ytmofmcagclkchaa", sum := "8a5468e1a867305c54ebca98c1d4c9d65e291633f400809634da46d7d6d6ae8f", func := "loop.example/g01111/laws.FnExactLostBound", spec := "fnExactLostBound", unfollowed := true, recurses := true, apart := false, narrowed := true }
def FnExactLostBoundUptoSaid : Prop := fnExactLostBoundUptoRow.holds Try.pinned (OpenSpec.upto fnExactLostBoundSpec)

/-- 'laws.FnExactNewestFirst', WHERE WHAT IT READS IS OF BULK AT MOST 1048576: true; the input reads as it did. -/
def fnExactNewestFirstUptoRow : OpenClaim := { program := "ytmofmcagclkchaa", sum := "8a5468e1a867305c54ebca98c1d4c9d65e291633f400809634da46d7d6d6ae8f", func := "loop.example/g01111/laws.FnExactNewestFirst", spec := "fnExactNewestFirst", apart := false, narrowed := true }
def FnExactNewestFirstUptoSaid : Prop := fnExactNewestFirstUptoRow.holds Try.pinned (OpenSpec.upto fnExactNewestFirstSpec)

/-- 'laws.FnExactOldestFirst', WHERE WHAT IT READS IS OF BULK AT MOST 1048576: true; the input reads as it did. -/
def fnExactOldestFirstUptoRow : OpenClaim := { program := "ytmofmcagclkchaa", sum := "8a5468e1a867305c54ebca98c1d4c9d65e291633f400809634da46d7d6d6ae8f", func := "loop.example/g01111/laws.FnExactOldestFirst", spec := "fnExactOldestFirst", apart := false, narrowed := true }
def FnExactOldestFirstUptoSaid : Prop := fnExactOldestFirstUptoRow.holds Try.pinned (OpenSpec.upto fnExactOldestFirstSpec)

/-- 'laws.FnExactIsIssue', WHERE WHAT IT READS IS OF BULK AT MOST 1048576: true; the input reads as it did. -/
def fnExactIsIssueUptoRow : OpenClaim := { program := "ytmofmcagclkchaa", sum := "8a5468e1a867305c54ebca98c1d4c9d65e291633f400809634da46d7d6d6ae8f", func := "loop.example/g01111/laws.FnExactIsIssue", spec := "fnExactIsIssue", apart := false, narrowed := true }
def FnExactIsIssueUptoSaid : Prop := fnExactIsIssueUptoRow.holds Try.pinned (OpenSpec.upto fnExactIsIssueSpec)

/-- 'laws.FnExactIsProcess', WHERE WHAT IT READS IS OF BULK AT MOST 1048576: true; the input reads as it did. -/
def fnExactIsProcessUptoRow : OpenClaim := { program := "ytmofmcagclkchaa", sum := "8a5468e1a867305c54ebca98c1d4c9d65e291633f400809634da46d7d6d6ae8f", func := "loop.example/g01111/laws.FnExactIsProcess", spec := "fnExactIsProcess", apart := false, narrowed := true }
def FnExactIsProcessUptoSaid : Prop := fnExactIsProcessUptoRow.holds Try.pinned (OpenSpec.upto fnExactIsProcessSpec)

/-- 'laws.FnExactWholeOf', WHERE WHAT IT READS IS OF BULK AT MOST 1048576: true; the input reads as it did. -/
def fnExactWholeOfUptoRow : OpenClaim := { program := "ytmofmcagclkchaa", sum := "8a5468e1a867305c54ebca98c1d4c9d65e291633f400809634da46d7d6d6ae8f", func := "loop.example/g01111/laws.FnExactWholeOf", spec := "fnExactWholeOf", apart := false, narrowed := true }
def FnExactWholeOfUptoSaid : Prop := fnExactWholeOfUptoRow.holds Try.pinned (OpenSpec.upto fnExactWholeOfSpec)

/-- 'laws.FnExactIsPolicy', WHERE WHAT IT READS IS OF BULK AT MOST 1048576: true; the input reads as it did. -/
def fnExactIsPolicyUptoRow : OpenClaim := { program := "ytmofmcagclkchaa", sum := "8a5468e1a867305c54ebca98c1d4c9d65e291633f400809634da46d7d6d6ae8f", func := "loop.example/g01111/laws.FnExactIsPolicy", spec := "fnExactIsPolicy", apart := false, narrowed := true }
def FnExactIsPolicyUptoSaid : Prop := fnExactIsPolicyUptoRow.holds Try.pinned (OpenSpec.upto fnExactIsPolicySpec)

end Rows
end Go.Proofs.Ytmofmcagclkchaa
