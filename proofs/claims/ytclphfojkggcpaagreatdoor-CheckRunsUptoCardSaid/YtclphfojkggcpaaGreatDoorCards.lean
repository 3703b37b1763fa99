/-
  DERIVED. GIVEN WITH THE SEED: THE CARDS: each row of YtclphfojkggcpaaGreatDoorRows.lean that lists a variable, with what it lists TIED to the program's text (the seventh form; the later family's looks); each row that meets fmt, with fmt's text TOLD by the authors' own Lean function (tested against real Go, not proved from fmt's source: count such statements apart). THE CARD IS WHAT COUNTS. Prove the row's statement (the work); the ties are given (YtclphfojkggcpaaGreatDoorTie.lean); close each card by the builder's one call (the guide's Derived/Test/ToyasCard.lean, 'card_holds'). Laid BY PROGRAM, IN A SANDBOX (cutbox-door.mjs). By AI agents, Wed Nov 11 2026. No macro, syntax, notation, axiom, sorry.
-/
import Derived.Test.YtclphfojkggcpaaGreatDoorRows
import GoSem.ClaimSeven
namespace Go.Proofs.YtclphfojkggcpaaGreatDoor
namespace Rows

/-- THE TIED CARD OF 'tombolalaw31.CheckShrinks'. -/
def checkShrinksCard : Claim7 := { stood := { row := checkShrinksRow, standIns := [], harness := (true, "50a2247d6bc10daf1cb884fecd4148de91e9de2c5894f76ce583d406b3f50455"), looks := true }, kinds := [], alts := [], laidByText := true, laidKinds := [.data], laidTests := true, laidLooks := .later }
def CheckShrinksCardSaid : Prop := Claim7.holds Tryz.pinned (.plain (OpenSpec.ofChange checkShrinksSpec)) checkShrinksCard

/-- THE TIED CARD OF 'tombolalaw31.CheckRuns'. -/
def checkRunsCard : Claim7 := { stood := { row := checkRunsRow, standIns := [], harness := (true, "50a2247d6bc10daf1cb884fecd4148de91e9de2c5894f76ce583d406b3f50455"), looks := true }, kinds := [], alts := [], laidByText := true, laidKinds := [.data], laidTests := true, laidLooks := .later }
def CheckRunsCardSaid : Prop := Claim7.holds Tryz.pinned (.plain (OpenSpec.ofChange checkRunsSpec)) checkRunsCard

/-- THE SECOND FORM's CARD OF 'tombolalaw31.CheckShrinks'. -/
def checkShrinksUptoCard : Claim7 := { stood := { row := checkShrinksUptoRow, standIns := [], harness := (true, "50a2247d6bc10daf1cb884fecd4148de91e9de2c5894f76ce583d406b3f50455"), looks := true }, kinds := [], alts := [], laidByText := true, laidKinds := [.data], laidTests := true, laidLooks := .later }
def CheckShrinksUptoCardSaid : Prop := Claim7.holds Tryz.pinned (.plain (OpenSpec.upto checkShrinksSpec)) checkShrinksUptoCard

/-- THE SECOND FORM's CARD OF 'tombolalaw31.CheckRuns'. -/
def checkRunsUptoCard : Claim7 := { stood := { row := checkRunsUptoRow, standIns := [], harness := (true, "50a2247d6bc10daf1cb884fecd4148de91e9de2c5894f76ce583d406b3f50455"), looks := true }, kinds := [], alts := [], laidByText := true, laidKinds := [.data], laidTests := true, laidLooks := .later }
def CheckRunsUptoCardSaid : Prop := Claim7.holds Tryz.pinned (.plain (OpenSpec.upto checkRunsSpec)) checkRunsUptoCard
end Rows
end Go.Proofs.YtclphfojkggcpaaGreatDoor
