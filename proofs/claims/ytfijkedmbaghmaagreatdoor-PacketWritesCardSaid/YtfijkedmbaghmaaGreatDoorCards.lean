/-
  DERIVED. GIVEN WITH THE SEED: THE CARDS: each row of YtfijkedmbaghmaaGreatDoorRows.lean that lists a variable, with what it lists TIED to the program's text (the seventh form; the later family's looks); each row that meets fmt, with fmt's text TOLD by the authors' own Lean function (tested against real Go, not proved from fmt's source: count such statements apart). THE CARD IS WHAT COUNTS. Prove the row's statement (the work); the ties are given (YtfijkedmbaghmaaGreatDoorTie.lean); close each card by the builder's one call (the guide's Derived/Test/ToyasCard.lean, 'card_holds'). Laid BY PROGRAM, IN A SANDBOX (cutbox-door.mjs). By AI agents, Wed Nov 11 2026. No macro, syntax, notation, axiom, sorry.
-/
import Derived.Test.YtfijkedmbaghmaaGreatDoorRows
import GoSem.ClaimSeven
namespace Go.Proofs.YtfijkedmbaghmaaGreatDoor
namespace Rows

/-- THE TIED CARD OF 'lagoonlaw15.PacketWrites'. -/
def packetWritesCard : Claim7 := { stood := { row := packetWritesRow, standIns := [], harness := (true, "a56e51ac588b09136f074511dbc2db4332cdd49e06c86a8591382e33efb72735"), looks := true }, kinds := [], alts := [], laidByText := true, laidKinds := [.data, .data, .data, .data, .data], laidTests := true, laidLooks := .later }
def PacketWritesCardSaid : Prop := Claim7.holds Tryz.pinned (.plain (OpenSpec.ofChange packetWritesSpec)) packetWritesCard

/-- THE TIED CARD OF 'lagoonlaw15.PacketReads'. -/
def packetReadsCard : Claim7 := { stood := { row := packetReadsRow, standIns := [], harness := (true, "a56e51ac588b09136f074511dbc2db4332cdd49e06c86a8591382e33efb72735"), looks := true }, kinds := [], alts := [], laidByText := true, laidKinds := [.data, .data, .data, .data, .data], laidTests := true, laidLooks := .later }
def PacketReadsCardSaid : Prop := Claim7.holds Tryz.pinned (.plain (OpenSpec.ofChange packetReadsSpec)) packetReadsCard

/-- THE TIED CARD OF 'lagoonlaw15.PacketTurned'. -/
def packetTurnedCard : Claim7 := { stood := { row := packetTurnedRow, standIns := [], harness := (true, "a56e51ac588b09136f074511dbc2db4332cdd49e06c86a8591382e33efb72735"), looks := true }, kinds := [], alts := [], laidByText := true, laidKinds := [.data, .data], laidTests := true, laidLooks := .later }
def PacketTurnedCardSaid : Prop := Claim7.holds Tryz.pinned (.plain (OpenSpec.ofChange packetTurnedSpec)) packetTurnedCard

/-- THE TIED CARD OF 'lagoonlaw15.PacketEnds'. -/
def packetEndsCard : Claim7 := { stood := { row := packetEndsRow, standIns := [], harness := (true, "a56e51ac588b09136f074511dbc2db4332cdd49e06c86a8591382e33efb72735"), looks := true }, kinds := [], alts := [], laidByText := true, laidKinds := [.data, .data], laidTests := true, laidLooks := .later }
def PacketEndsCardSaid : Prop := Claim7.holds Tryz.pinned (.plain (OpenSpec.ofChange packetEndsSpec)) packetEndsCard

/-- THE SECOND FORM's CARD OF 'lagoonlaw15.PacketWrites'. -/
def packetWritesUptoCard : Claim7 := { stood := { row := packetWritesUptoRow, standIns := [], harness := (true, "a56e51ac588b09136f074511dbc2db4332cdd49e06c86a8591382e33efb72735"), looks := true }, kinds := [], alts := [], laidByText := true, laidKinds := [.data, .data, .data, .data, .data], laidTests := true, laidLooks := .later }
def PacketWritesUptoCardSaid : Prop := Claim7.holds Tryz.pinned (.plain (OpenSpec.upto packetWritesSpec)) packetWritesUptoCard

/-- THE SECOND FORM's CARD OF 'lagoonlaw15.PacketReads'. -/
def packetReadsUptoCard : Claim7 := { stood := { row := packetReadsUptoRow, standIns := [], harness := (true, "a56e51ac588b09136f074511dbc2db4332cdd49e06c86a8591382e33efb72735"), looks := true }, kinds := [], alts := [], laidByText := true, laidKinds := [.data, .data, .data, .data, .data], laidTests := true, laidLooks := .later }
def PacketReadsUptoCardSaid : Prop := Claim7.holds Tryz.pinned (.plain (OpenSpec.upto packetReadsSpec)) packetReadsUptoCard

/-- THE SECOND FORM's CARD OF 'lagoonlaw15.PacketTurned'. -/
def packetTurnedUptoCard : Claim7 := { stood := { row := packetTurnedUptoRow, standIns := [], harness := (true, "a56e51ac588b09136f074511dbc2db4332cdd49e06c86a8591382e33efb72735"), looks := true }, kinds := [], alts := [], laidByText := true, laidKinds := [.data, .data], laidTests := true, laidLooks := .later }
def PacketTurnedUptoCardSaid : Prop := Claim7.holds Tryz.pinned (.plain (OpenSpec.upto packetTurnedSpec)) packetTurnedUptoCard

/-- THE SECOND FORM's CARD OF 'lagoonlaw15.PacketEnds'. -/
def packetEndsUptoCard : Claim7 := { stood := { row := packetEndsUptoRow, standIns := [], harness := (true, "a56e51ac588b09136f074511dbc2db4332cdd49e06c86a8591382e33efb72735"), looks := true }, kinds := [], alts := [], laidByText := true, laidKinds := [.data, .data], laidTests := true, laidLooks := .later }
def PacketEndsUptoCardSaid : Prop := Claim7.holds Tryz.pinned (.plain (OpenSpec.upto packetEndsSpec)) packetEndsUptoCard
end Rows
end Go.Proofs.YtfijkedmbaghmaaGreatDoor
