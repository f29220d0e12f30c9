/-
  DERIVED. GIVEN WITH THE SEED: THE CARDS: each row of YtpdehbbkpekoiaaGreatDoorRows.lean that lists a variable, with what it lists TIED to the program's text (the seventh form; the later family's looks); each row that meets fmt, with fmt's text TOLD by the authors' own Lean function (tested against real Go, not proved from fmt's source: count such statements apart). THE CARD IS WHAT COUNTS. Prove the row's statement (the work); the ties are given (YtpdehbbkpekoiaaGreatDoorTie.lean); close each card by the builder's one call (the guide's Derived/Test/ToyasCard.lean, 'card_holds'). Laid BY PROGRAM, IN A SANDBOX (cutbox-door.mjs). By AI agents, Wed Nov 11 2026. No macro, syntax, notation, axiom, sorry.
-/
import Derived.Test.YtpdehbbkpekoiaaGreatDoorRows
import GoSem.ClaimSeven
namespace Go.Proofs.YtpdehbbkpekoiaaGreatDoor
namespace Rows

/-- THE TIED CARD OF 'lagoonlaw04.TxnWrites'. -/
def txnWritesCard : Claim7 := { stood := { row := txnWritesRow, standIns := [], harness := (true, "2933b931daa7cf364e04a97932a8a87d836d36f3479de3545a7d0260a80c8434"), looks := false }, kinds := [], alts := [], laidByText := true, laidKinds := [.data, .data, .data, .data], laidTests := true, laidLooks := .later }
def TxnWritesCardSaid : Prop := Claim7.holds Tryz.pinned (.plain (OpenSpec.ofChange txnWritesSpec)) txnWritesCard

/-- THE TIED CARD OF 'lagoonlaw04.TxnReads'. -/
def txnReadsCard : Claim7 := { stood := { row := txnReadsRow, standIns := [], harness := (true, "2933b931daa7cf364e04a97932a8a87d836d36f3479de3545a7d0260a80c8434"), looks := false }, kinds := [], alts := [], laidByText := true, laidKinds := [.data, .data, .data, .data], laidTests := true, laidLooks := .later }
def TxnReadsCardSaid : Prop := Claim7.holds Tryz.pinned (.plain (OpenSpec.ofChange txnReadsSpec)) txnReadsCard

/-- THE TIED CARD OF 'lagoonlaw04.TxnSame'. -/
def txnSameCard : Claim7 := { stood := { row := txnSameRow, standIns := [], harness := (true, "2933b931daa7cf364e04a97932a8a87d836d36f3479de3545a7d0260a80c8434"), looks := false }, kinds := [], alts := [], laidByText := true, laidKinds := [.data, .data, .data, .data], laidTests := true, laidLooks := .later }
def TxnSameCardSaid : Prop := Claim7.holds Tryz.pinned (.plain (OpenSpec.ofChange txnSameSpec)) txnSameCard

/-- THE SECOND FORM's CARD OF 'lagoonlaw04.TxnWrites'. -/
def txnWritesUptoCard : Claim7 := { stood := { row := txnWritesUptoRow, standIns := [], harness := (true, "2933b931daa7cf364e04a97932a8a87d836d36f3479de3545a7d0260a80c8434"), looks := false }, kinds := [], alts := [], laidByText := true, laidKinds := [.data, .data, .data, .data], laidTests := true, laidLooks := .later }
def TxnWritesUptoCardSaid : Prop := Claim7.holds Tryz.pinned (.plain (OpenSpec.upto txnWritesSpec)) txnWritesUptoCard

/-- THE SECOND FORM's CARD OF 'lagoonlaw04.TxnReads'. -/
def txnReadsUptoCard : Claim7 := { stood := { row := txnReadsUptoRow, standIns := [], harness := (true, "2933b931daa7cf364e04a97932a8a87d836d36f3479de3545a7d0260a80c8434"), looks := false }, kinds := [], alts := [], laidByText := true, laidKinds := [.data, .data, .data, .data], laidTests := true, laidLooks := .later }
def TxnReadsUptoCardSaid : Prop := Claim7.holds Tryz.pinned (.plain (OpenSpec.upto txnReadsSpec)) txnReadsUptoCard

/-- THE SECOND FORM's CARD OF 'lagoonlaw04.TxnSame'. -/
def txnSameUptoCard : Claim7 := { stood := { row := txnSameUptoRow, standIns := [], harness := (true, "2933b931daa7cf364e04a97932a8a87d836d36f3479de3545a7d0260a80c8434"), looks := false }, kinds := [], alts := [], laidByText := true, laidKinds := [.data, .data, .data, .data], laidTests := true, laidLooks := .later }
def TxnSameUptoCardSaid : Prop := Claim7.holds Tryz.pinned (.plain (OpenSpec.upto txnSameSpec)) txnSameUptoCard
end Rows
end Go.Proofs.YtpdehbbkpekoiaaGreatDoor
