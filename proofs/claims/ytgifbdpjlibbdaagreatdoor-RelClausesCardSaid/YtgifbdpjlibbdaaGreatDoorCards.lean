/-
  DERIVED. GIVEN WITH THE SEED: THE CARDS: each row of YtgifbdpjlibbdaaGreatDoorRows.lean that lists a variable, with what it lists TIED to the program's text (the seventh form; the later family's looks); each row that meets fmt, with fmt's text TOLD by the authors' own Lean function (tested against real Go, not proved from fmt's source: count such statements apart). THE CARD IS WHAT COUNTS. Prove the row's statement (the work); the ties are given (YtgifbdpjlibbdaaGreatDoorTie.lean); close each card by the builder's one call (the guide's Derived/Test/ToyasCard.lean, 'card_holds'). Laid BY PROGRAM, IN A SANDBOX (cutbox-door.mjs). By AI agents, Wed Nov 11 2026. No macro, syntax, notation, axiom, sorry.
-/
import Derived.Test.YtgifbdpjlibbdaaGreatDoorRows
import GoSem.ClaimSeven
namespace Go.Proofs.YtgifbdpjlibbdaaGreatDoor
namespace Rows

/-- THE TIED CARD OF 'roundelaylaw12.RelClauses'. -/
def relClausesCard : Claim7 := { stood := { row := relClausesRow, standIns := [], harness := (true, "263e60982c50ae97e63689ddc8475db616bb401c3c20733ea390c79b4b80ff31"), looks := false }, kinds := [], alts := [], laidByText := true, laidKinds := [.data, .data, .data, .data, .pinned], laidTests := true, laidLooks := .later }
def RelClausesCardSaid : Prop := Claim7.holds Tryz.pinned (.plain (OpenSpec.ofChange relClausesSpec)) relClausesCard

/-- THE SECOND FORM's CARD OF 'roundelaylaw12.RelClauses'. -/
def relClausesUptoCard : Claim7 := { stood := { row := relClausesUptoRow, standIns := [], harness := (true, "263e60982c50ae97e63689ddc8475db616bb401c3c20733ea390c79b4b80ff31"), looks := false }, kinds := [], alts := [], laidByText := true, laidKinds := [.data, .data, .data, .data, .pinned], laidTests := true, laidLooks := .later }
def RelClausesUptoCardSaid : Prop := Claim7.holds Tryz.pinned (.plain (OpenSpec.upto relClausesSpec)) relClausesUptoCard
end Rows
end Go.Proofs.YtgifbdpjlibbdaaGreatDoor
