/-
  DERIVED. GIVEN WITH THE SEED: THE CARDS: each row of YtbdfhfceffkhgaaGreatDoorRows.lean that lists a variable, with what it lists TIED to the program's text (the seventh form; the later family's looks); each row that meets fmt, with fmt's text TOLD by the authors' own Lean function (tested against real Go, not proved from fmt's source: count such statements apart). THE CARD IS WHAT COUNTS. Prove the row's statement (the work); the ties are given (YtbdfhfceffkhgaaGreatDoorTie.lean); close each card by the builder's one call (the guide's Derived/Test/ToyasCard.lean, 'card_holds'). Laid BY PROGRAM, IN A SANDBOX (cutbox-door.mjs). By AI agents, Wed Nov 11 2026. No macro, syntax, notation, axiom, sorry.
-/
import Derived.Test.YtbdfhfceffkhgaaGreatDoorRows
import GoSem.ClaimSeven
namespace Go.Proofs.YtbdfhfceffkhgaaGreatDoor
namespace Rows

/-- THE TIED CARD OF 'lagoonlaw10.LogAlike'. -/
def logAlikeCard : Claim7 := { stood := { row := logAlikeRow, standIns := [], harness := (true, "70b38b50b546bcd8a439d8e745717e4d59d65ea5597d10d467e8bb80afeb2609"), looks := true }, kinds := [], alts := [], laidByText := true, laidKinds := [.data, .data, .data, .sentinel, .sentinel, .data], laidTests := true, laidLooks := .later }
def LogAlikeCardSaid : Prop := Claim7.holds Tryz.pinned (.plain (OpenSpec.ofChange logAlikeSpec)) logAlikeCard

/-- THE TIED CARD OF 'lagoonlaw10.LogRefuses'. -/
def logRefusesCard : Claim7 := { stood := { row := logRefusesRow, standIns := [], harness := (true, "70b38b50b546bcd8a439d8e745717e4d59d65ea5597d10d467e8bb80afeb2609"), looks := true }, kinds := [], alts := [], laidByText := true, laidKinds := [.data, .data, .data, .sentinel, .sentinel, .data], laidTests := true, laidLooks := .later }
def LogRefusesCardSaid : Prop := Claim7.holds Tryz.pinned (.plain (OpenSpec.ofChange logRefusesSpec)) logRefusesCard

/-- THE TIED CARD OF 'lagoonlaw10.LogKeeps'. -/
def logKeepsCard : Claim7 := { stood := { row := logKeepsRow, standIns := [], harness := (true, "70b38b50b546bcd8a439d8e745717e4d59d65ea5597d10d467e8bb80afeb2609"), looks := true }, kinds := [], alts := [], laidByText := true, laidKinds := [.data, .data, .data, .sentinel, .sentinel, .data], laidTests := true, laidLooks := .later }
def LogKeepsCardSaid : Prop := Claim7.holds Tryz.pinned (.plain (OpenSpec.ofChange logKeepsSpec)) logKeepsCard

/-- THE TIED CARD OF 'lagoonlaw10.LogCreated'. -/
def logCreatedCard : Claim7 := { stood := { row := logCreatedRow, standIns := [], harness := (true, "70b38b50b546bcd8a439d8e745717e4d59d65ea5597d10d467e8bb80afeb2609"), looks := true }, kinds := [], alts := [], laidByText := true, laidKinds := [.data, .data, .data, .sentinel, .sentinel, .data], laidTests := true, laidLooks := .later }
def LogCreatedCardSaid : Prop := Claim7.holds Tryz.pinned (.plain (OpenSpec.ofChange logCreatedSpec)) logCreatedCard

/-- THE SECOND FORM's CARD OF 'lagoonlaw10.LogAlike'. -/
def logAlikeUptoCard : Claim7 := { stood := { row := logAlikeUptoRow, standIns := [], harness := (true, "70b38b50b546bcd8a439d8e745717e4d59d65ea5597d10d467e8bb80afeb2609"), looks := true }, kinds := [], alts := [], laidByText := true, laidKinds := [.data, .data, .data, .sentinel, .sentinel, .data], laidTests := true, laidLooks := .later }
def LogAlikeUptoCardSaid : Prop := Claim7.holds Tryz.pinned (.plain (OpenSpec.upto logAlikeSpec)) logAlikeUptoCard

/-- THE SECOND FORM's CARD OF 'lagoonlaw10.LogRefuses'. -/
def logRefusesUptoCard : Claim7 := { stood := { row := logRefusesUptoRow, standIns := [], harness := (true, "70b38b50b546bcd8a439d8e745717e4d59d65ea5597d10d467e8bb80afeb2609"), looks := true }, kinds := [], alts := [], laidByText := true, laidKinds := [.data, .data, .data, .sentinel, .sentinel, .data], laidTests := true, laidLooks := .later }
def LogRefusesUptoCardSaid : Prop := Claim7.holds Tryz.pinned (.plain (OpenSpec.upto logRefusesSpec)) logRefusesUptoCard

/-- THE SECOND FORM's CARD OF 'lagoonlaw10.LogKeeps'. -/
def logKeepsUptoCard : Claim7 := { stood := { row := logKeepsUptoRow, standIns := [], harness := (true, "70b38b50b546bcd8a439d8e745717e4d59d65ea5597d10d467e8bb80afeb2609"), looks := true }, kinds := [], alts := [], laidByText := true, laidKinds := [.data, .data, .data, .sentinel, .sentinel, .data], laidTests := true, laidLooks := .later }
def LogKeepsUptoCardSaid : Prop := Claim7.holds Tryz.pinned (.plain (OpenSpec.upto logKeepsSpec)) logKeepsUptoCard

/-- THE SECOND FORM's CARD OF 'lagoonlaw10.LogCreated'. -/
def logCreatedUptoCard : Claim7 := { stood := { row := logCreatedUptoRow, standIns := [], harness := (true, "70b38b50b546bcd8a439d8e745717e4d59d65ea5597d10d467e8bb80afeb2609"), looks := true }, kinds := [], alts := [], laidByText := true, laidKinds := [.data, .data, .data, .sentinel, .sentinel, .data], laidTests := true, laidLooks := .later }
def LogCreatedUptoCardSaid : Prop := Claim7.holds Tryz.pinned (.plain (OpenSpec.upto logCreatedSpec)) logCreatedUptoCard
end Rows
end Go.Proofs.YtbdfhfceffkhgaaGreatDoor
