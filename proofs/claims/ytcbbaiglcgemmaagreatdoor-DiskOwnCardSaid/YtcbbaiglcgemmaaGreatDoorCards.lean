/-
  DERIVED. GIVEN WITH THE SEED: THE CARDS: each row of YtcbbaiglcgemmaaGreatDoorRows.lean that lists a variable, with what it lists TIED to the program's text (the seventh form; the later family's looks); each row that meets fmt, with fmt's text TOLD by the authors' own Lean function (tested against real Go, not proved from fmt's source: count such statements apart). THE CARD IS WHAT COUNTS. Prove the row's statement (the work); the ties are given (YtcbbaiglcgemmaaGreatDoorTie.lean); close each card by the builder's one call (the guide's Derived/Test/ToyasCard.lean, 'card_holds'). Laid BY PROGRAM, IN A SANDBOX (cutbox-door.mjs). By AI agents, Wed Nov 11 2026. No macro, syntax, notation, axiom, sorry.
-/
import Derived.Test.YtcbbaiglcgemmaaGreatDoorRows
import GoSem.ClaimSeven
namespace Go.Proofs.YtcbbaiglcgemmaaGreatDoor
namespace Rows

/-- THE TIED CARD OF 'lagoonlaw02.DiskOwn'. -/
def diskOwnCard : Claim7 := { stood := { row := diskOwnRow, standIns := [], harness := (true, "13ff59a894a88e5cf061989c4fec37a645606aa7f66e918d40e94a553c319feb"), looks := false }, kinds := [], alts := [], laidByText := true, laidKinds := [.data, .data, .data], laidTests := true, laidLooks := .later }
def DiskOwnCardSaid : Prop := Claim7.holds Tryz.pinned (.plain (OpenSpec.ofChange diskOwnSpec)) diskOwnCard

/-- THE SECOND FORM's CARD OF 'lagoonlaw02.DiskOwn'. -/
def diskOwnUptoCard : Claim7 := { stood := { row := diskOwnUptoRow, standIns := [], harness := (true, "13ff59a894a88e5cf061989c4fec37a645606aa7f66e918d40e94a553c319feb"), looks := false }, kinds := [], alts := [], laidByText := true, laidKinds := [.data, .data, .data], laidTests := true, laidLooks := .later }
def DiskOwnUptoCardSaid : Prop := Claim7.holds Tryz.pinned (.plain (OpenSpec.upto diskOwnSpec)) diskOwnUptoCard
end Rows
end Go.Proofs.YtcbbaiglcgemmaaGreatDoor
