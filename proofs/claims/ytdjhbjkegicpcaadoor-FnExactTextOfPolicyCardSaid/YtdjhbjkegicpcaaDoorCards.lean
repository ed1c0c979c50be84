/-
  DERIVED. GIVEN WITH THE SEED: THE CARDS: each row of YtdjhbjkegicpcaaDoorRows.lean that lists a variable, with what it lists TIED to the program's text (the seventh form; the later family's looks); each row that meets fmt, with fmt's text TOLD by the authors' own Lean function (tested against real Go, not proved from fmt's source: count such statements apart). THE CARD IS WHAT COUNTS. Prove the row's statement (the work); the ties are given (YtdjhbjkegicpcaaDoorTie.lean); close each card by the builder's one call (the guide's Derived/Test/ToyasCard.lean, 'card_holds'). Laid BY PROGRAM, IN A SANDBOX (cutbox-door.mjs). By AI agents, Wed Nov 11 2026. No macro, syntax, notation, axiom, sorry.
-/
import Derived.Test.YtdjhbjkegicpcaaDoorRows
import GoSem.ClaimSeven
namespace Go.Proofs.YtdjhbjkegicpcaaDoor
namespace Rows

/-- THE TIED CARD OF 'laws.FnExactTextOfPolicy'. -/
def fnExactTextOfPolicyCard : Claim7 := { stood := { row := fnExactTextOfPolicyRow, standIns := [], harness := (true, "92e1b99f520e118873711e57845a414d094d34229dd53b23d8be4bb9c580d283"), looks := false }, kinds := [], alts := [], laidByText := true, laidKinds := [.data, .data, .data], laidTests := true, laidLooks := .later }
def FnExactTextOfPolicyCardSaid : Prop := Claim7.holds Tryd.pinned (.plain (OpenSpec.ofChange fnExactTextOfPolicySpec)) fnExactTextOfPolicyCard

/-- THE SECOND FORM's CARD OF 'laws.FnExactTextOfPolicy'. -/
def fnExactTextOfPolicyUptoCard : Claim7 := { stood := { row := fnExactTextOfPolicyUptoRow, standIns := [], harness := (true, "92e1b99f520e118873711e57845a414d094d34229dd53b23d8be4bb9c580d283"), looks := false }, kinds := [], alts := [], laidByText := true, laidKinds := [.data, .data, .data], laidTests := true, laidLooks := .later }
def FnExactTextOfPolicyUptoCardSaid : Prop := Claim7.holds Tryd.pinned (.plain (OpenSpec.upto fnExactTextOfPolicySpec)) fnExactTextOfPolicyUptoCard
end Rows
end Go.Proofs.YtdjhbjkegicpcaaDoor
