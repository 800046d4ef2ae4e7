/-
  DERIVED. GIVEN WITH THE SEED: THE CARDS: each row of YtgdgkmackccopaaGreatDoorRows.lean that lists a variable, with what it lists TIED to the program's text (the seventh form; the later family's looks); each row that meets fmt, with fmt's text TOLD by the authors' own Lean function (tested against real Go, not proved from fmt's source: count such statements apart). THE CARD IS WHAT COUNTS. Prove the row's statement (the work); the ties are given (YtgdgkmackccopaaGreatDoorTie.lean); close each card by the builder's one call (the guide's Derived/Test/ToyasCard.lean, 'card_holds'). Laid BY PROGRAM, IN A SANDBOX (cutbox-door.mjs). By AI agents, Wed Nov 11 2026. No macro, syntax, notation, axiom, sorry.
-/
import Derived.Test.YtgdgkmackccopaaGreatDoorRows
import GoSem.ClaimSeven
namespace Go.Proofs.YtgdgkmackccopaaGreatDoor
namespace Rows

/-- THE TIED CARD OF 'roundelaylaw12.RelGoals'. -/
def relGoalsCard : Claim7 := { stood := { row := relGoalsRow, standIns := [], harness := (true, "8fcd14fefe4fb83444ee565620f0857f2d1964f05591359342b5efec2691b140"), looks := false }, kinds := [], alts := [], laidByText := true, laidKinds := [.data, .data, .data, .data, .pinned], laidTests := true, laidLooks := .later }
def RelGoalsCardSaid : Prop := Claim7.holds Tryz.pinned (.plain (OpenSpec.ofChange relGoalsSpec)) relGoalsCard

/-- THE SECOND FORM's CARD OF 'roundelaylaw12.RelGoals'. -/
def relGoalsUptoCard : Claim7 := { stood := { row := relGoalsUptoRow, standIns := [], harness := (true, "8fcd14fefe4fb83444ee565620f0857f2d1964f05591359342b5efec2691b140"), looks := false }, kinds := [], alts := [], laidByText := true, laidKinds := [.data, .data, .data, .data, .pinned], laidTests := true, laidLooks := .later }
def RelGoalsUptoCardSaid : Prop := Claim7.holds Tryz.pinned (.plain (OpenSpec.upto relGoalsSpec)) relGoalsUptoCard
end Rows
end Go.Proofs.YtgdgkmackccopaaGreatDoor
