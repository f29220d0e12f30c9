/-
  DERIVED. GIVEN WITH THE SEED: THE CARDS: each row of YthobnaagjhooeaaDoorRows.lean that lists a variable, with what it lists TIED to the program's text (the seventh form; the later family's looks); each row that meets fmt, with fmt's text TOLD by the authors' own Lean function (tested against real Go, not proved from fmt's source: count such statements apart). THE CARD IS WHAT COUNTS. Prove the row's statement (the work); the ties are given (YthobnaagjhooeaaDoorTie.lean); close each card by the builder's one call (the guide's Derived/Test/ToyasCard.lean, 'card_holds'). Laid BY PROGRAM, IN A SANDBOX (cutbox-door.mjs). By AI agents, Wed Nov 11 2026. No macro, syntax, notation, axiom, sorry.
-/
import Derived.Test.YthobnaagjhooeaaDoorRows
import GoSem.ClaimSeven
namespace Go.Proofs.YthobnaagjhooeaaDoor
namespace Rows

/-- THE TIED CARD OF 'lagoonlaw01.PackGets'. -/
def packGetsCard : Claim7 := { stood := { row := packGetsRow, standIns := [], harness := (true, "1ee3923da5ec7169a375fbd0b459e5bca1bd17bcb69e2d4ad4a0c6542b85f182"), looks := false }, kinds := [], alts := [], laidByText := true, laidKinds := [.data, .data, .data], laidTests := true, laidLooks := .later }
def PackGetsCardSaid : Prop := Claim7.holds Tryd.pinned (.plain (OpenSpec.ofChange packGetsSpec)) packGetsCard

/-- THE SECOND FORM's CARD OF 'lagoonlaw01.PackGets'. -/
def packGetsUptoCard : Claim7 := { stood := { row := packGetsUptoRow, standIns := [], harness := (true, "1ee3923da5ec7169a375fbd0b459e5bca1bd17bcb69e2d4ad4a0c6542b85f182"), looks := false }, kinds := [], alts := [], laidByText := true, laidKinds := [.data, .data, .data], laidTests := true, laidLooks := .later }
def PackGetsUptoCardSaid : Prop := Claim7.holds Tryd.pinned (.plain (OpenSpec.upto packGetsSpec)) packGetsUptoCard
end Rows
end Go.Proofs.YthobnaagjhooeaaDoor
