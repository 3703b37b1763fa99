/-
  DERIVED. GIVEN WITH THE SEED: THE CARDS: each row of YtojjdneicmbfjaaGreatDoorRows.lean that lists a variable, with what it lists TIED to the program's text (the seventh form; the later family's looks); each row that meets fmt, with fmt's text TOLD by the authors' own Lean function (tested against real Go, not proved from fmt's source: count such statements apart). THE CARD IS WHAT COUNTS. Prove the row's statement (the work); the ties are given (YtojjdneicmbfjaaGreatDoorTie.lean); close each card by the builder's one call (the guide's Derived/Test/ToyasCard.lean, 'card_holds'). Laid BY PROGRAM, IN A SANDBOX (cutbox-door.mjs). By AI agents, Wed Nov 11 2026. No macro, syntax, notation, axiom, sorry.
-/
import Derived.Test.YtojjdneicmbfjaaGreatDoorRows
import GoSem.ClaimSeven
namespace Go.Proofs.YtojjdneicmbfjaaGreatDoor
namespace Rows

/-- THE TIED CARD OF 'tombolalaw31.CheckShrinks'. -/
def checkShrinksCard : Claim7 := { stood := { row := checkShrinksRow, standIns := [], harness := (true, "30b8861f31057ceaddf1465027d746d0ad8f6af7621e343ca2054fa90642d877"), looks := true }, kinds := [], alts := [], laidByText := true, laidKinds := [.data], laidTests := true, laidLooks := .later }
def CheckShrinksCardSaid : Prop := Claim7.holds Tryz.pinned (.plain (OpenSpec.ofChange checkShrinksSpec)) checkShrinksCard

/-- THE TIED CARD OF 'tombolalaw31.CheckRuns'. -/
def checkRunsCard : Claim7 := { stood := { row := checkRunsRow, standIns := [], harness := (true, "30b8861f31057ceaddf1465027d746d0ad8f6af7621e343ca2054fa90642d877"), looks := true }, kinds := [], alts := [], laidByText := true, laidKinds := [.data], laidTests := true, laidLooks := .later }
def CheckRunsCardSaid : Prop := Claim7.holds Tryz.pinned (.plain (OpenSpec.ofChange checkRunsSpec)) checkRunsCard

/-- THE TIED CARD OF 'tombolalaw31.CheckNames'. -/
def checkNamesCard : Claim7 := { stood := { row := checkNamesRow, standIns := [], harness := (true, "30b8861f31057ceaddf1465027d746d0ad8f6af7621e343ca2054fa90642d877"), looks := true }, kinds := [], alts := [], laidByText := true, laidKinds := [.data], laidTests := true, laidLooks := .later }
def CheckNamesCardSaid : Prop := Claim7.holds Tryz.pinned (.plain (OpenSpec.ofChange checkNamesSpec)) checkNamesCard

/-- THE TIED CARD OF 'tombolalaw31.CheckNumber'. -/
def checkNumberCard : Claim7 := { stood := { row := checkNumberRow, standIns := [], harness := (true, "30b8861f31057ceaddf1465027d746d0ad8f6af7621e343ca2054fa90642d877"), looks := true }, kinds := [], alts := [], laidByText := true, laidKinds := [.data], laidTests := true, laidLooks := .later }
def CheckNumberCardSaid : Prop := Claim7.holds Tryz.pinned (.plain (OpenSpec.ofChange checkNumberSpec)) checkNumberCard

/-- THE TIED CARD OF 'tombolalaw31.CheckLeast'. -/
def checkLeastCard : Claim7 := { stood := { row := checkLeastRow, standIns := [], harness := (true, "30b8861f31057ceaddf1465027d746d0ad8f6af7621e343ca2054fa90642d877"), looks := true }, kinds := [], alts := [], laidByText := true, laidKinds := [.data], laidTests := true, laidLooks := .later }
def CheckLeastCardSaid : Prop := Claim7.holds Tryz.pinned (.plain (OpenSpec.ofChange checkLeastSpec)) checkLeastCard

/-- THE TIED CARD OF 'tombolalaw31.CheckSteps'. -/
def checkStepsCard : Claim7 := { stood := { row := checkStepsRow, standIns := [], harness := (true, "30b8861f31057ceaddf1465027d746d0ad8f6af7621e343ca2054fa90642d877"), looks := true }, kinds := [], alts := [], laidByText := true, laidKinds := [.data], laidTests := true, laidLooks := .later }
def CheckStepsCardSaid : Prop := Claim7.holds Tryz.pinned (.plain (OpenSpec.ofChange checkStepsSpec)) checkStepsCard

/-- THE TIED CARD OF 'tombolalaw31.CheckPasses'. -/
def checkPassesCard : Claim7 := { stood := { row := checkPassesRow, standIns := [], harness := (true, "30b8861f31057ceaddf1465027d746d0ad8f6af7621e343ca2054fa90642d877"), looks := true }, kinds := [], alts := [], laidByText := true, laidKinds := [.data], laidTests := true, laidLooks := .later }
def CheckPassesCardSaid : Prop := Claim7.holds Tryz.pinned (.plain (OpenSpec.ofChange checkPassesSpec)) checkPassesCard

/-- THE TIED CARD OF 'tombolalaw31.CheckYes'. -/
def checkYesCard : Claim7 := { stood := { row := checkYesRow, standIns := [], harness := (true, "30b8861f31057ceaddf1465027d746d0ad8f6af7621e343ca2054fa90642d877"), looks := true }, kinds := [], alts := [], laidByText := true, laidKinds := [.data], laidTests := true, laidLooks := .later }
def CheckYesCardSaid : Prop := Claim7.holds Tryz.pinned (.plain (OpenSpec.ofChange checkYesSpec)) checkYesCard

/-- THE SECOND FORM's CARD OF 'tombolalaw31.CheckShrinks'. -/
def checkShrinksUptoCard : Claim7 := { stood := { row := checkShrinksUptoRow, standIns := [], harness := (true, "30b8861f31057ceaddf1465027d746d0ad8f6af7621e343ca2054fa90642d877"), looks := true }, kinds := [], alts := [], laidByText := true, laidKinds := [.data], laidTests := true, laidLooks := .later }
def CheckShrinksUptoCardSaid : Prop := Claim7.holds Tryz.pinned (.plain (OpenSpec.upto checkShrinksSpec)) checkShrinksUptoCard

/-- THE SECOND FORM's CARD OF 'tombolalaw31.CheckRuns'. -/
def checkRunsUptoCard : Claim7 := { stood := { row := checkRunsUptoRow, standIns := [], harness := (true, "30b8861f31057ceaddf1465027d746d0ad8f6af7621e343ca2054fa90642d877"), looks := true }, kinds := [], alts := [], laidByText := true, laidKinds := [.data], laidTests := true, laidLooks := .later }
def CheckRunsUptoCardSaid : Prop := Claim7.holds Tryz.pinned (.plain (OpenSpec.upto checkRunsSpec)) checkRunsUptoCard

/-- THE SECOND FORM's CARD OF 'tombolalaw31.CheckNames'. -/
def checkNamesUptoCard : Claim7 := { stood := { row := checkNamesUptoRow, standIns := [], harness := (true, "30b8861f31057ceaddf1465027d746d0ad8f6af7621e343ca2054fa90642d877"), looks := true }, kinds := [], alts := [], laidByText := true, laidKinds := [.data], laidTests := true, laidLooks := .later }
def CheckNamesUptoCardSaid : Prop := Claim7.holds Tryz.pinned (.plain (OpenSpec.upto checkNamesSpec)) checkNamesUptoCard

/-- THE SECOND FORM's CARD OF 'tombolalaw31.CheckNumber'. -/
def checkNumberUptoCard : Claim7 := { stood := { row := checkNumberUptoRow, standIns := [], harness := (true, "30b8861f31057ceaddf1465027d746d0ad8f6af7621e343ca2054fa90642d877"), looks := true }, kinds := [], alts := [], laidByText := true, laidKinds := [.data], laidTests := true, laidLooks := .later }
def CheckNumberUptoCardSaid : Prop := Claim7.holds Tryz.pinned (.plain (OpenSpec.upto checkNumberSpec)) checkNumberUptoCard

/-- THE SECOND FORM's CARD OF 'tombolalaw31.CheckLeast'. -/
def checkLeastUptoCard : Claim7 := { stood := { row := checkLeastUptoRow, standIns := [], harness := (true, "30b8861f31057ceaddf1465027d746d0ad8f6af7621e343ca2054fa90642d877"), looks := true }, kinds := [], alts := [], laidByText := true, laidKinds := [.data], laidTests := true, laidLooks := .later }
def CheckLeastUptoCardSaid : Prop := Claim7.holds Tryz.pinned (.plain (OpenSpec.upto checkLeastSpec)) checkLeastUptoCard

/-- THE SECOND FORM's CARD OF 'tombolalaw31.CheckSteps'. -/
def checkStepsUptoCard : Claim7 := { stood := { row := checkStepsUptoRow, standIns := [], harness := (true, "30b8861f31057ceaddf1465027d746d0ad8f6af7621e343ca2054fa90642d877"), looks := true }, kinds := [], alts := [], laidByText := true, laidKinds := [.data], laidTests := true, laidLooks := .later }
def CheckStepsUptoCardSaid : Prop := Claim7.holds Tryz.pinned (.plain (OpenSpec.upto checkStepsSpec)) checkStepsUptoCard

/-- THE SECOND FORM's CARD OF 'tombolalaw31.CheckPasses'. -/
def checkPassesUptoCard : Claim7 := { stood := { row := checkPassesUptoRow, standIns := [], harness := (true, "30b8861f31057ceaddf1465027d746d0ad8f6af7621e343ca2054fa90642d877"), looks := true }, kinds := [], alts := [], laidByText := true, laidKinds := [.data], laidTests := true, laidLooks := .later }
def CheckPassesUptoCardSaid : Prop := Claim7.holds Tryz.pinned (.plain (OpenSpec.upto checkPassesSpec)) checkPassesUptoCard

/-- THE SECOND FORM's CARD OF 'tombolalaw31.CheckYes'. -/
def checkYesUptoCard : Claim7 := { stood := { row := checkYesUptoRow, standIns := [], harness := (true, "30b8861f31057ceaddf1465027d746d0ad8f6af7621e343ca2054fa90642d877"), looks := true }, kinds := [], alts := [], laidByText := true, laidKinds := [.data], laidTests := true, laidLooks := .later }
def CheckYesUptoCardSaid : Prop := Claim7.holds Tryz.pinned (.plain (OpenSpec.upto checkYesSpec)) checkYesUptoCard
end Rows
end Go.Proofs.YtojjdneicmbfjaaGreatDoor
