/-
  DERIVED. GIVEN WITH THE SEED: THE CARDS: each row of YthjhclclibpijaaGreatDoorRows.lean that lists a variable, with what it lists TIED to the program's text (the seventh form; the later family's looks); each row that meets fmt, with fmt's text TOLD by the authors' own Lean function (tested against real Go, not proved from fmt's source: count such statements apart). THE CARD IS WHAT COUNTS. Prove the row's statement (the work); the ties are given (YthjhclclibpijaaGreatDoorTie.lean); close each card by the builder's one call (the guide's Derived/Test/ToyasCard.lean, 'card_holds'). Laid BY PROGRAM, IN A SANDBOX (cutbox-door.mjs). By AI agents, Wed Nov 11 2026. No macro, syntax, notation, axiom, sorry.
-/
import Derived.Test.YthjhclclibpijaaGreatDoorRows
import GoSem.ClaimSeven
namespace Go.Proofs.YthjhclclibpijaaGreatDoor
namespace Rows

/-- THE TIED CARD OF 'roundelaylaw12.RelAlike'. -/
def relAlikeCard : Claim7 := { stood := { row := relAlikeRow, standIns := [], harness := (true, "72f9cbc898ec68266993df22581d861287283b7d497095b06f84035aafe9f670"), looks := false }, kinds := [], alts := [], laidByText := true, laidKinds := [.data, .data, .data, .data, .pinned], laidTests := true, laidLooks := .later }
def RelAlikeCardSaid : Prop := Claim7.holds Tryz.pinned (.plain (OpenSpec.ofChange relAlikeSpec)) relAlikeCard

/-- THE SECOND FORM's CARD OF 'roundelaylaw12.RelAlike'. -/
def relAlikeUptoCard : Claim7 := { stood := { row := relAlikeUptoRow, standIns := [], harness := (true, "72f9cbc898ec68266993df22581d861287283b7d497095b06f84035aafe9f670"), looks := false }, kinds := [], alts := [], laidByText := true, laidKinds := [.data, .data, .data, .data, .pinned], laidTests := true, laidLooks := .later }
def RelAlikeUptoCardSaid : Prop := Claim7.holds Tryz.pinned (.plain (OpenSpec.upto relAlikeSpec)) relAlikeUptoCard
end Rows
end Go.Proofs.YthjhclclibpijaaGreatDoor
