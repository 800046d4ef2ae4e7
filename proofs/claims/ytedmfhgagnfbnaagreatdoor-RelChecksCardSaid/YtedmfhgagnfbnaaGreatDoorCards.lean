/-
  DERIVED. GIVEN WITH THE SEED: THE CARDS: each row of YtedmfhgagnfbnaaGreatDoorRows.lean that lists a variable, with what it lists TIED to the program's text (the seventh form; the later family's looks); each row that meets fmt, with fmt's text TOLD by the authors' own Lean function (tested against real Go, not proved from fmt's source: count such statements apart). THE CARD IS WHAT COUNTS. Prove the row's statement (the work); the ties are given (YtedmfhgagnfbnaaGreatDoorTie.lean); close each card by the builder's one call (the guide's Derived/Test/ToyasCard.lean, 'card_holds'). Laid BY PROGRAM, IN A SANDBOX (cutbox-door.mjs). By AI agents, Wed Nov 11 2026. No macro, syntax, notation, axiom, sorry.
-/
import Derived.Test.YtedmfhgagnfbnaaGreatDoorRows
import GoSem.ClaimSeven
namespace Go.Proofs.YtedmfhgagnfbnaaGreatDoor
namespace Rows

/-- THE TIED CARD OF 'roundelaylaw12.RelChecks'. -/
def relChecksCard : Claim7 := { stood := { row := relChecksRow, standIns := [], harness := (true, "e296663aa249a2c4896b576955b15fc6ff801aaed94bf1451938ab5ab7bdbfd1"), looks := false }, kinds := [], alts := [], laidByText := true, laidKinds := [.data, .data, .data, .data, .pinned], laidTests := true, laidLooks := .later }
def RelChecksCardSaid : Prop := Claim7.holds Tryz.pinned (.plain (OpenSpec.ofChange relChecksSpec)) relChecksCard

/-- THE SECOND FORM's CARD OF 'roundelaylaw12.RelChecks'. -/
def relChecksUptoCard : Claim7 := { stood := { row := relChecksUptoRow, standIns := [], harness := (true, "e296663aa249a2c4896b576955b15fc6ff801aaed94bf1451938ab5ab7bdbfd1"), looks := false }, kinds := [], alts := [], laidByText := true, laidKinds := [.data, .data, .data, .data, .pinned], laidTests := true, laidLooks := .later }
def RelChecksUptoCardSaid : Prop := Claim7.holds Tryz.pinned (.plain (OpenSpec.upto relChecksSpec)) relChecksUptoCard
end Rows
end Go.Proofs.YtedmfhgagnfbnaaGreatDoor
