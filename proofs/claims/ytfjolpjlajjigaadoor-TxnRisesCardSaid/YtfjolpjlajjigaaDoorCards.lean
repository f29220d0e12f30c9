/-
  DERIVED. GIVEN WITH THE SEED: THE CARDS: each row of YtfjolpjlajjigaaDoorRows.lean that lists a variable, with what it lists TIED to the program's text (the seventh form; the later family's looks); each row that meets fmt, with fmt's text TOLD by the authors' own Lean function (tested against real Go, not proved from fmt's source: count such statements apart). THE CARD IS WHAT COUNTS. Prove the row's statement (the work); the ties are given (YtfjolpjlajjigaaDoorTie.lean); close each card by the builder's one call (the guide's Derived/Test/ToyasCard.lean, 'card_holds'). Laid BY PROGRAM, IN A SANDBOX (cutbox-door.mjs). By AI agents, Wed Nov 11 2026. No macro, syntax, notation, axiom, sorry.
-/
import Derived.Test.YtfjolpjlajjigaaDoorRows
import GoSem.ClaimSeven
namespace Go.Proofs.YtfjolpjlajjigaaDoor
namespace Rows

/-- THE TIED CARD OF 'lagoonlaw04.TxnOne'. -/
def txnOneCard : Claim7 := { stood := { row := txnOneRow, standIns := [], harness := (true, "af4c1195750e5cec85b2e2f78ed2aa2649842468267b26587b592370ec2f4ebc"), looks := false }, kinds := [], alts := [], laidByText := true, laidKinds := [.data], laidTests := true, laidLooks := .later }
def TxnOneCardSaid : Prop := Claim7.holds Tryd.pinned (.plain (OpenSpec.ofChange txnOneSpec)) txnOneCard

/-- THE TIED CARD OF 'lagoonlaw04.TxnBack'. -/
def txnBackCard : Claim7 := { stood := { row := txnBackRow, standIns := [], harness := (true, "af4c1195750e5cec85b2e2f78ed2aa2649842468267b26587b592370ec2f4ebc"), looks := false }, kinds := [], alts := [], laidByText := true, laidKinds := [.data], laidTests := true, laidLooks := .later }
def TxnBackCardSaid : Prop := Claim7.holds Tryd.pinned (.plain (OpenSpec.ofChange txnBackSpec)) txnBackCard

/-- THE TIED CARD OF 'lagoonlaw04.TxnPacked'. -/
def txnPackedCard : Claim7 := { stood := { row := txnPackedRow, standIns := [], harness := (true, "af4c1195750e5cec85b2e2f78ed2aa2649842468267b26587b592370ec2f4ebc"), looks := false }, kinds := [], alts := [], laidByText := true, laidKinds := [.data], laidTests := true, laidLooks := .later }
def TxnPackedCardSaid : Prop := Claim7.holds Tryd.pinned (.plain (OpenSpec.ofChange txnPackedSpec)) txnPackedCard

/-- THE TIED CARD OF 'lagoonlaw04.TxnStairs'. -/
def txnStairsCard : Claim7 := { stood := { row := txnStairsRow, standIns := [], harness := (true, "af4c1195750e5cec85b2e2f78ed2aa2649842468267b26587b592370ec2f4ebc"), looks := false }, kinds := [], alts := [], laidByText := true, laidKinds := [.data], laidTests := true, laidLooks := .later }
def TxnStairsCardSaid : Prop := Claim7.holds Tryd.pinned (.plain (OpenSpec.ofChange txnStairsSpec)) txnStairsCard

/-- THE TIED CARD OF 'lagoonlaw04.TxnNumbers'. -/
def txnNumbersCard : Claim7 := { stood := { row := txnNumbersRow, standIns := [], harness := (true, "af4c1195750e5cec85b2e2f78ed2aa2649842468267b26587b592370ec2f4ebc"), looks := false }, kinds := [], alts := [], laidByText := true, laidKinds := [.data], laidTests := true, laidLooks := .later }
def TxnNumbersCardSaid : Prop := Claim7.holds Tryd.pinned (.plain (OpenSpec.ofChange txnNumbersSpec)) txnNumbersCard

/-- THE TIED CARD OF 'lagoonlaw04.TxnChecks'. -/
def txnChecksCard : Claim7 := { stood := { row := txnChecksRow, standIns := [], harness := (true, "af4c1195750e5cec85b2e2f78ed2aa2649842468267b26587b592370ec2f4ebc"), looks := false }, kinds := [], alts := [], laidByText := true, laidKinds := [.data, .data, .data, .data], laidTests := true, laidLooks := .later }
def TxnChecksCardSaid : Prop := Claim7.holds Tryd.pinned (.plain (OpenSpec.ofChange txnChecksSpec)) txnChecksCard

/-- THE TIED CARD OF 'lagoonlaw04.TxnRises'. -/
def txnRisesCard : Claim7 := { stood := { row := txnRisesRow, standIns := [], harness := (true, "af4c1195750e5cec85b2e2f78ed2aa2649842468267b26587b592370ec2f4ebc"), looks := false }, kinds := [], alts := [], laidByText := true, laidKinds := [.data, .data, .data, .data], laidTests := true, laidLooks := .later }
def TxnRisesCardSaid : Prop := Claim7.holds Tryd.pinned (.plain (OpenSpec.ofChange txnRisesSpec)) txnRisesCard

/-- THE SECOND FORM's CARD OF 'lagoonlaw04.TxnOne'. -/
def txnOneUptoCard : Claim7 := { stood := { row := txnOneUptoRow, standIns := [], harness := (true, "af4c1195750e5cec85b2e2f78ed2aa2649842468267b26587b592370ec2f4ebc"), looks := false }, kinds := [], alts := [], laidByText := true, laidKinds := [.data], laidTests := true, laidLooks := .later }
def TxnOneUptoCardSaid : Prop := Claim7.holds Tryd.pinned (.plain (OpenSpec.upto txnOneSpec)) txnOneUptoCard

/-- THE SECOND FORM's CARD OF 'lagoonlaw04.TxnBack'. -/
def txnBackUptoCard : Claim7 := { stood := { row := txnBackUptoRow, standIns := [], harness := (true, "af4c1195750e5cec85b2e2f78ed2aa2649842468267b26587b592370ec2f4ebc"), looks := false }, kinds := [], alts := [], laidByText := true, laidKinds := [.data], laidTests := true, laidLooks := .later }
def TxnBackUptoCardSaid : Prop := Claim7.holds Tryd.pinned (.plain (OpenSpec.upto txnBackSpec)) txnBackUptoCard

/-- THE SECOND FORM's CARD OF 'lagoonlaw04.TxnPacked'. -/
def txnPackedUptoCard : Claim7 := { stood := { row := txnPackedUptoRow, standIns := [], harness := (true, "af4c1195750e5cec85b2e2f78ed2aa2649842468267b26587b592370ec2f4ebc"), looks := false }, kinds := [], alts := [], laidByText := true, laidKinds := [.data], laidTests := true, laidLooks := .later }
def TxnPackedUptoCardSaid : Prop := Claim7.holds Tryd.pinned (.plain (OpenSpec.upto txnPackedSpec)) txnPackedUptoCard

/-- THE SECOND FORM's CARD OF 'lagoonlaw04.TxnStairs'. -/
def txnStairsUptoCard : Claim7 := { stood := { row := txnStairsUptoRow, standIns := [], harness := (true, "af4c1195750e5cec85b2e2f78ed2aa2649842468267b26587b592370ec2f4ebc"), looks := false }, kinds := [], alts := [], laidByText := true, laidKinds := [.data], laidTests := true, laidLooks := .later }
def TxnStairsUptoCardSaid : Prop := Claim7.holds Tryd.pinned (.plain (OpenSpec.upto txnStairsSpec)) txnStairsUptoCard

/-- THE SECOND FORM's CARD OF 'lagoonlaw04.TxnNumbers'. -/
def txnNumbersUptoCard : Claim7 := { stood := { row := txnNumbersUptoRow, standIns := [], harness := (true, "af4c1195750e5cec85b2e2f78ed2aa2649842468267b26587b592370ec2f4ebc"), looks := false }, kinds := [], alts := [], laidByText := true, laidKinds := [.data], laidTests := true, laidLooks := .later }
def TxnNumbersUptoCardSaid : Prop := Claim7.holds Tryd.pinned (.plain (OpenSpec.upto txnNumbersSpec)) txnNumbersUptoCard

/-- THE SECOND FORM's CARD OF 'lagoonlaw04.TxnChecks'. -/
def txnChecksUptoCard : Claim7 := { stood := { row := txnChecksUptoRow, standIns := [], harness := (true, "af4c1195750e5cec85b2e2f78ed2aa2649842468267b26587b592370ec2f4ebc"), looks := false }, kinds := [], alts := [], laidByText := true, laidKinds := [.data, .data, .data, .data], laidTests := true, laidLooks := .later }
def TxnChecksUptoCardSaid : Prop := Claim7.holds Tryd.pinned (.plain (OpenSpec.upto txnChecksSpec)) txnChecksUptoCard

/-- THE SECOND FORM's CARD OF 'lagoonlaw04.TxnRises'. -/
def txnRisesUptoCard : Claim7 := { stood := { row := txnRisesUptoRow, standIns := [], harness := (true, "af4c1195750e5cec85b2e2f78ed2aa2649842468267b26587b592370ec2f4ebc"), looks := false }, kinds := [], alts := [], laidByText := true, laidKinds := [.data, .data, .data, .data], laidTests := true, laidLooks := .later }
def TxnRisesUptoCardSaid : Prop := Claim7.holds Tryd.pinned (.plain (OpenSpec.upto txnRisesSpec)) txnRisesUptoCard
end Rows
end Go.Proofs.YtfjolpjlajjigaaDoor
