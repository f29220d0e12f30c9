/-
  DERIVED. GIVEN WITH THE SEED: THE CARDS: each row of YtklojohafbmonaaDoorRows.lean that lists a variable, with what it lists TIED to the program's text (the seventh form; the later family's looks); each row that meets fmt, with fmt's text TOLD by the authors' own Lean function (tested against real Go, not proved from fmt's source: count such statements apart). THE CARD IS WHAT COUNTS. Prove the row's statement (the work); the ties are given (YtklojohafbmonaaDoorTie.lean); close each card by the builder's one call (the guide's Derived/Test/ToyasCard.lean, 'card_holds'). Laid BY PROGRAM, IN A SANDBOX (cutbox-door.mjs). By AI agents, Wed Nov 11 2026. No macro, syntax, notation, axiom, sorry.
-/
import Derived.Test.YtklojohafbmonaaDoorRows
import GoSem.ClaimSeven
namespace Go.Proofs.YtklojohafbmonaaDoor
namespace Rows

/-- THE TIED CARD OF 'lagoonlaw01.PackNoPut'. -/
def packNoPutCard : Claim7 := { stood := { row := packNoPutRow, standIns := [], harness := (true, "fcf54d711550762256d70163fe14393155817c338565461ed28f646c6d5c51a8"), looks := false }, kinds := [], alts := [], laidByText := true, laidKinds := [.data, .data, .data], laidTests := true, laidLooks := .later }
def PackNoPutCardSaid : Prop := Claim7.holds Tryd.pinned (.plain (OpenSpec.ofChange packNoPutSpec)) packNoPutCard

/-- THE TIED CARD OF 'lagoonlaw01.PackGets'. -/
def packGetsCard : Claim7 := { stood := { row := packGetsRow, standIns := [], harness := (true, "fcf54d711550762256d70163fe14393155817c338565461ed28f646c6d5c51a8"), looks := false }, kinds := [], alts := [], laidByText := true, laidKinds := [.data, .data, .data], laidTests := true, laidLooks := .later }
def PackGetsCardSaid : Prop := Claim7.holds Tryd.pinned (.plain (OpenSpec.ofChange packGetsSpec)) packGetsCard

/-- THE SECOND FORM's CARD OF 'lagoonlaw01.PackNoPut'. -/
def packNoPutUptoCard : Claim7 := { stood := { row := packNoPutUptoRow, standIns := [], harness := (true, "fcf54d711550762256d70163fe14393155817c338565461ed28f646c6d5c51a8"), looks := false }, kinds := [], alts := [], laidByText := true, laidKinds := [.data, .data, .data], laidTests := true, laidLooks := .later }
def PackNoPutUptoCardSaid : Prop := Claim7.holds Tryd.pinned (.plain (OpenSpec.upto packNoPutSpec)) packNoPutUptoCard

/-- THE SECOND FORM's CARD OF 'lagoonlaw01.PackGets'. -/
def packGetsUptoCard : Claim7 := { stood := { row := packGetsUptoRow, standIns := [], harness := (true, "fcf54d711550762256d70163fe14393155817c338565461ed28f646c6d5c51a8"), looks := false }, kinds := [], alts := [], laidByText := true, laidKinds := [.data, .data, .data], laidTests := true, laidLooks := .later }
def PackGetsUptoCardSaid : Prop := Claim7.holds Tryd.pinned (.plain (OpenSpec.upto packGetsSpec)) packGetsUptoCard
end Rows
end Go.Proofs.YtklojohafbmonaaDoor
