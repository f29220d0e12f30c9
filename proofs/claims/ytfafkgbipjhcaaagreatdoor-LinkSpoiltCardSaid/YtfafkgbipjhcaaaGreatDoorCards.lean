/-
  DERIVED. GIVEN WITH THE SEED: THE CARDS: each row of YtfafkgbipjhcaaaGreatDoorRows.lean that lists a variable, with what it lists TIED to the program's text (the seventh form; the later family's looks); each row that meets fmt, with fmt's text TOLD by the authors' own Lean function (tested against real Go, not proved from fmt's source: count such statements apart). THE CARD IS WHAT COUNTS. Prove the row's statement (the work); the ties are given (YtfafkgbipjhcaaaGreatDoorTie.lean); close each card by the builder's one call (the guide's Derived/Test/ToyasCard.lean, 'card_holds'). Laid BY PROGRAM, IN A SANDBOX (cutbox-door.mjs). By AI agents, Wed Nov 11 2026. No macro, syntax, notation, axiom, sorry.
-/
import Derived.Test.YtfafkgbipjhcaaaGreatDoorRows
import GoSem.ClaimSeven
namespace Go.Proofs.YtfafkgbipjhcaaaGreatDoor
namespace Rows

/-- THE TIED CARD OF 'lagoonlaw22.LinkSpoilt'. -/
def linkSpoiltCard : Claim7 := { stood := { row := linkSpoiltRow, standIns := [], harness := (true, "bfd0a234f129801d7b18d6fa5b4677d3615450457bbb7e8e236da1f687519e39"), looks := true }, kinds := [], alts := [], laidByText := true, laidKinds := [.data, .data], laidTests := true, laidLooks := .later }
def LinkSpoiltCardSaid : Prop := Claim7.holds Tryz.pinned (.plain (OpenSpec.ofChange linkSpoiltSpec)) linkSpoiltCard

/-- THE SECOND FORM's CARD OF 'lagoonlaw22.LinkSpoilt'. -/
def linkSpoiltUptoCard : Claim7 := { stood := { row := linkSpoiltUptoRow, standIns := [], harness := (true, "bfd0a234f129801d7b18d6fa5b4677d3615450457bbb7e8e236da1f687519e39"), looks := true }, kinds := [], alts := [], laidByText := true, laidKinds := [.data, .data], laidTests := true, laidLooks := .later }
def LinkSpoiltUptoCardSaid : Prop := Claim7.holds Tryz.pinned (.plain (OpenSpec.upto linkSpoiltSpec)) linkSpoiltUptoCard
end Rows
end Go.Proofs.YtfafkgbipjhcaaaGreatDoor
