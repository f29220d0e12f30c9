/-
  DERIVED. GIVEN WITH THE SEED: THE CARDS: each row of YtoeamecdkimgaaaDoorRows.lean that lists a variable, with what it lists TIED to the program's text (the seventh form; the later family's looks); each row that meets fmt, with fmt's text TOLD by the authors' own Lean function (tested against real Go, not proved from fmt's source: count such statements apart). THE CARD IS WHAT COUNTS. Prove the row's statement (the work); the ties are given (YtoeamecdkimgaaaDoorTie.lean); close each card by the builder's one call (the guide's Derived/Test/ToyasCard.lean, 'card_holds'). Laid BY PROGRAM, IN A SANDBOX (cutbox-door.mjs). By AI agents, Wed Nov 11 2026. No macro, syntax, notation, axiom, sorry.
-/
import Derived.Test.YtoeamecdkimgaaaDoorRows
import GoSem.ClaimSeven
namespace Go.Proofs.YtoeamecdkimgaaaDoor
namespace Rows

/-- THE TIED CARD OF 'lagoonlaw14.ChooseRight'. -/
def chooseRightCard : Claim7 := { stood := { row := chooseRightRow, standIns := [], harness := (true, "eb5bbc997dd4bd726c670aaaab8ce96207380a5079658c440bd71eeec6e20520"), looks := false }, kinds := [], alts := [], laidByText := true, laidKinds := [.data], laidTests := true, laidLooks := .later }
def ChooseRightCardSaid : Prop := Claim7.holds Tryd.pinned (.plain (OpenSpec.ofChange chooseRightSpec)) chooseRightCard

/-- THE TIED CARD OF 'lagoonlaw14.ChooseMore'. -/
def chooseMoreCard : Claim7 := { stood := { row := chooseMoreRow, standIns := [], harness := (true, "eb5bbc997dd4bd726c670aaaab8ce96207380a5079658c440bd71eeec6e20520"), looks := false }, kinds := [], alts := [], laidByText := true, laidKinds := [.data], laidTests := true, laidLooks := .later }
def ChooseMoreCardSaid : Prop := Claim7.holds Tryd.pinned (.plain (OpenSpec.ofChange chooseMoreSpec)) chooseMoreCard

/-- THE TIED CARD OF 'lagoonlaw14.ChooseHand'. -/
def chooseHandCard : Claim7 := { stood := { row := chooseHandRow, standIns := [], harness := (true, "eb5bbc997dd4bd726c670aaaab8ce96207380a5079658c440bd71eeec6e20520"), looks := false }, kinds := [], alts := [], laidByText := true, laidKinds := [.data], laidTests := true, laidLooks := .later }
def ChooseHandCardSaid : Prop := Claim7.holds Tryd.pinned (.plain (OpenSpec.ofChange chooseHandSpec)) chooseHandCard

/-- THE TIED CARD OF 'lagoonlaw14.ChooseSizes'. -/
def chooseSizesCard : Claim7 := { stood := { row := chooseSizesRow, standIns := [], harness := (true, "eb5bbc997dd4bd726c670aaaab8ce96207380a5079658c440bd71eeec6e20520"), looks := false }, kinds := [], alts := [], laidByText := true, laidKinds := [.data, .data, .data, .data], laidTests := true, laidLooks := .later }
def ChooseSizesCardSaid : Prop := Claim7.holds Tryd.pinned (.plain (OpenSpec.ofChange chooseSizesSpec)) chooseSizesCard

/-- THE SECOND FORM's CARD OF 'lagoonlaw14.ChooseRight'. -/
def chooseRightUptoCard : Claim7 := { stood := { row := chooseRightUptoRow, standIns := [], harness := (true, "eb5bbc997dd4bd726c670aaaab8ce96207380a5079658c440bd71eeec6e20520"), looks := false }, kinds := [], alts := [], laidByText := true, laidKinds := [.data], laidTests := true, laidLooks := .later }
def ChooseRightUptoCardSaid : Prop := Claim7.holds Tryd.pinned (.plain (OpenSpec.upto chooseRightSpec)) chooseRightUptoCard

/-- THE SECOND FORM's CARD OF 'lagoonlaw14.ChooseMore'. -/
def chooseMoreUptoCard : Claim7 := { stood := { row := chooseMoreUptoRow, standIns := [], harness := (true, "eb5bbc997dd4bd726c670aaaab8ce96207380a5079658c440bd71eeec6e20520"), looks := false }, kinds := [], alts := [], laidByText := true, laidKinds := [.data], laidTests := true, laidLooks := .later }
def ChooseMoreUptoCardSaid : Prop := Claim7.holds Tryd.pinned (.plain (OpenSpec.upto chooseMoreSpec)) chooseMoreUptoCard

/-- THE SECOND FORM's CARD OF 'lagoonlaw14.ChooseHand'. -/
def chooseHandUptoCard : Claim7 := { stood := { row := chooseHandUptoRow, standIns := [], harness := (true, "eb5bbc997dd4bd726c670aaaab8ce96207380a5079658c440bd71eeec6e20520"), looks := false }, kinds := [], alts := [], laidByText := true, laidKinds := [.data], laidTests := true, laidLooks := .later }
def ChooseHandUptoCardSaid : Prop := Claim7.holds Tryd.pinned (.plain (OpenSpec.upto chooseHandSpec)) chooseHandUptoCard

/-- THE SECOND FORM's CARD OF 'lagoonlaw14.ChooseSizes'. -/
def chooseSizesUptoCard : Claim7 := { stood := { row := chooseSizesUptoRow, standIns := [], harness := (true, "eb5bbc997dd4bd726c670aaaab8ce96207380a5079658c440bd71eeec6e20520"), looks := false }, kinds := [], alts := [], laidByText := true, laidKinds := [.data, .data, .data, .data], laidTests := true, laidLooks := .later }
def ChooseSizesUptoCardSaid : Prop := Claim7.holds Tryd.pinned (.plain (OpenSpec.upto chooseSizesSpec)) chooseSizesUptoCard
end Rows
end Go.Proofs.YtoeamecdkimgaaaDoor
