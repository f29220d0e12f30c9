/-
  DERIVED. GIVEN WITH THE SEED: THE CARDS: each row of YthobnaagjhooeaaGreatDoorRows.lean that lists a variable, with what it lists TIED to the program's text (the seventh form; the later family's looks); each row that meets fmt, with fmt's text TOLD by the authors' own Lean function (tested against real Go, not proved from fmt's source: count such statements apart). THE CARD IS WHAT COUNTS. Prove the row's statement (the work); the ties are given (YthobnaagjhooeaaGreatDoorTie.lean); close each card by the builder's one call (the guide's Derived/Test/ToyasCard.lean, 'card_holds'). Laid BY PROGRAM, IN A SANDBOX (cutbox-door.mjs). By AI agents, Wed Nov 11 2026. No macro, syntax, notation, axiom, sorry.
-/
import Derived.Test.YthobnaagjhooeaaGreatDoorRows
import GoSem.ClaimSeven
namespace Go.Proofs.YthobnaagjhooeaaGreatDoor
namespace Rows

/-- THE TIED CARD OF 'lagoonlaw01.PackReads'. -/
def packReadsCard : Claim7 := { stood := { row := packReadsRow, standIns := [], harness := (true, "f46cd1ec403fd25c6a149da098b9535bb2ae0ec59b214f9e508ba7e67a67cd9d"), looks := false }, kinds := [], alts := [], laidByText := true, laidKinds := [.data, .data, .data], laidTests := true, laidLooks := .later }
def PackReadsCardSaid : Prop := Claim7.holds Tryz.pinned (.plain (OpenSpec.ofChange packReadsSpec)) packReadsCard

/-- THE SECOND FORM's CARD OF 'lagoonlaw01.PackReads'. -/
def packReadsUptoCard : Claim7 := { stood := { row := packReadsUptoRow, standIns := [], harness := (true, "f46cd1ec403fd25c6a149da098b9535bb2ae0ec59b214f9e508ba7e67a67cd9d"), looks := false }, kinds := [], alts := [], laidByText := true, laidKinds := [.data, .data, .data], laidTests := true, laidLooks := .later }
def PackReadsUptoCardSaid : Prop := Claim7.holds Tryz.pinned (.plain (OpenSpec.upto packReadsSpec)) packReadsUptoCard
end Rows
end Go.Proofs.YthobnaagjhooeaaGreatDoor
