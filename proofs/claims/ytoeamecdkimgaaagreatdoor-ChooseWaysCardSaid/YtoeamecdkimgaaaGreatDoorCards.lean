/-
  DERIVED. GIVEN WITH THE SEED: THE CARDS: each row of YtoeamecdkimgaaaGreatDoorRows.lean that lists a variable, with what it lists TIED to the program's text (the seventh form; the later family's looks); each row that meets fmt, with fmt's text TOLD by the authors' own Lean function (tested against real Go, not proved from fmt's source: count such statements apart). THE CARD IS WHAT COUNTS. Prove the row's statement (the work); the ties are given (YtoeamecdkimgaaaGreatDoorTie.lean); close each card by the builder's one call (the guide's Derived/Test/ToyasCard.lean, 'card_holds'). Laid BY PROGRAM, IN A SANDBOX (cutbox-door.mjs). By AI agents, Wed Nov 11 2026. No macro, syntax, notation, axiom, sorry.
-/
import Derived.Test.YtoeamecdkimgaaaGreatDoorRows
import GoSem.ClaimSeven
namespace Go.Proofs.YtoeamecdkimgaaaGreatDoor
namespace Rows

/-- THE TIED CARD OF 'lagoonlaw14.ChooseWays'. -/
def chooseWaysCard : Claim7 := { stood := { row := chooseWaysRow, standIns := [], harness := (true, "37beebad6c69e09f8d1baab349d014286d1f91607ce8affe84698a7b47808fae"), looks := false }, kinds := [], alts := [], laidByText := true, laidKinds := [.data, .data, .data, .data], laidTests := true, laidLooks := .later }
def ChooseWaysCardSaid : Prop := Claim7.holds Tryz.pinned (.plain (OpenSpec.ofChange chooseWaysSpec)) chooseWaysCard

/-- THE SECOND FORM's CARD OF 'lagoonlaw14.ChooseWays'. -/
def chooseWaysUptoCard : Claim7 := { stood := { row := chooseWaysUptoRow, standIns := [], harness := (true, "37beebad6c69e09f8d1baab349d014286d1f91607ce8affe84698a7b47808fae"), looks := false }, kinds := [], alts := [], laidByText := true, laidKinds := [.data, .data, .data, .data], laidTests := true, laidLooks := .later }
def ChooseWaysUptoCardSaid : Prop := Claim7.holds Tryz.pinned (.plain (OpenSpec.upto chooseWaysSpec)) chooseWaysUptoCard
end Rows
end Go.Proofs.YtoeamecdkimgaaaGreatDoor
