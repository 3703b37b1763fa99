/-
  NARROWER THAN 'FOR EVERY INPUT', by the rows' own cells (each row's printed sentence says how): CheckShrinks: loops, laid · CheckRuns: loops, laid · CheckNames: laid · CheckNumber: laid · CheckLeast: loops, laid · CheckSteps: loops, laid · CheckPasses: loops, laid · CheckYes: loops, laid.
  DERIVED. THE GIVEN ROWS OF THIS SEAT. 8 by the template 'for every input the law returns true; each argument reads behind the call as it read before'; 0 by the template 'total and deterministic' (their statements: YtojjdneicmbfjaaGreatDoorTotals.lean).
  GIVEN WITH THE SEED: the statements are not yours to turn. If you find one false, say at which input.
  Laid BY PROGRAM, IN A SANDBOX (cutbox-rows.mjs): the forced cells as the released guide's own fill.sh prints them over the translation cddd92fce901b313… (all of the seat's roots in one cut). By AI agents, Wed Nov 11 2026. No macro, syntax, notation, axiom, sorry.
-/
import Derived.Test.YtojjdneicmbfjaaGreatDoorChecked
import GoSem.Claim
import GoSem.ClaimJoined
import GoSem.ClaimMapViews
import Derived.JoinedTies
import Derived.KernelRfl
namespace Go.Proofs.YtojjdneicmbfjaaGreatDoor
/- THE CELL 'sum', in the pinned program and in every row, IS THE sha256 OF THE DUMP (.gsa) THAT YtojjdneicmbfjaaGreatDoorProg.lean LOADS. Nothing in Lean hashes anything: it is a label: what it is worth is what the hold of that sum in a sandbox is worth. -/
noncomputable def Tryz.pinned : Pinned := { name := "ytojjdneicmbfjaagreatdoor", sum := "cddd92fce901b313a4c7e3a6d6c4c96d688c3993602cc4e1f36e958ceb9b91fc", checked := Tryz.checked }
namespace Rows
def none {H : Type} : Left H := { results := [], args := [] }

/- WHAT THE LISTED PACKAGE-LEVEL VARIABLES READ AS WHEN THE CALL BEGINS. Each datum BY PROGRAM (the guide's laid-datum.mjs) off the statement by which the dump's own 'gosem.cut.vars' lays the variable. In a bare row this is a premise. The card (YtojjdneicmbfjaaGreatDoorCards.lean) ties it to the program's text. -/
def laid_tombola_cand_widths {H : Type} : DataW H := .agg [.lit (.int .i64 8), .lit (.int .i64 4), .lit (.int .i64 2), .lit (.int .i64 1)]

/-- 'tombolalaw31.CheckShrinks': WHATEVER THE INPUT: true; the input reads as it did. -/
def checkShrinksSpec : ChangeSpec := { name := "checkShrinks", fn := fun _ => fun
  | [d1, d2, d3] => { results := [.lit (.bool true)], args := [d1, d2, d3] }
  | _ => none }
def checkShrinksRow : OpenClaim := { program := "ytojjdneicmbfjaagreatdoor", sum := "cddd92fce901b313a4c7e3a6d6c4c96d688c3993602cc4e1f36e958ceb9b91fc", func := "tombola/tombolalaw31.CheckShrinks", spec := "checkShrinks", inPlace := ["internal/abi.NoEscape", "internal/bytealg.MakeNoZero"], unfollowed := true, recurses := true, named := ["tombola/cand.widths"], loops := true, apart := false, laid := [("tombola/cand.widths", laid_tombola_cand_widths)] }
def CheckShrinksSaid : Prop := checkShrinksRow.holds Tryz.pinned (OpenSpec.ofChange checkShrinksSpec)

/-- ITS FALSE NEIGHBOUR: 'it returns false'. Refute it at one input. -/
def checkShrinksWrong : ChangeSpec := { name := "checkShrinks", fn := fun _ => fun
  | [d1, d2, d3] => { results := [.lit (.bool false)], args := [d1, d2, d3] }
  | _ => none }
def CheckShrinksWrongFalsely : Prop := checkShrinksRow.holds Tryz.pinned (OpenSpec.ofChange checkShrinksWrong)

/-- 'tombolalaw31.CheckRuns': WHATEVER THE INPUT: true; the input reads as it did. -/
def checkRunsSpec : ChangeSpec := { name := "checkRuns", fn := fun _ => fun
  | [d1, d2, d3, d4] => { results := [.lit (.bool true)], args := [d1, d2, d3, d4] }
  | _ => none }
def checkRunsRow : OpenClaim := { program := "ytojjdneicmbfjaagreatdoor", sum := "cddd92fce901b313a4c7e3a6d6c4c96d688c3993602cc4e1f36e958ceb9b91fc", func := "tombola/tombolalaw31.CheckRuns", spec := "checkRuns", inPlace := ["internal/abi.NoEscape", "internal/bytealg.MakeNoZero"], unfollowed := true, recurses := true, named := ["tombola/cand.widths"], loops := true, apart := false, laid := [("tombola/cand.widths", laid_tombola_cand_widths)] }
def CheckRunsSaid : Prop := checkRunsRow.holds Tryz.pinned (OpenSpec.ofChange checkRunsSpec)

/-- ITS FALSE NEIGHBOUR: 'it returns false'. Refute it at one input. -/
def checkRunsWrong : ChangeSpec := { name := "checkRuns", fn := fun _ => fun
  | [d1, d2, d3, d4] => { results := [.lit (.bool false)], args := [d1, d2, d3, d4] }
  | _ => none }
def CheckRunsWrongFalsely : Prop := checkRunsRow.holds Tryz.pinned (OpenSpec.ofChange checkRunsWrong)

/-- 'tombolalaw31.CheckNames': WHATEVER THE INPUT: true; the input reads as it did. -/
def checkNamesSpec : ChangeSpec := { name := "checkNames", fn := fun _ => fun
  | [] => { results := [.lit (.bool true)], args := [] }
  | _ => none }
def checkNamesRow : OpenClaim := { program := "ytojjdneicmbfjaagreatdoor", sum := "cddd92fce901b313a4c7e3a6d6c4c96d688c3993602cc4e1f36e958ceb9b91fc", func := "tombola/tombolalaw31.CheckNames", spec := "checkNames", inPlace := ["internal/abi.NoEscape", "internal/bytealg.MakeNoZero"], unfollowed := true, recurses := true, named := ["tombola/cand.widths"], apart := false, laid := [("tombola/cand.widths", laid_tombola_cand_widths)] }
def CheckNamesSaid : Prop := checkNamesRow.holds Tryz.pinned (OpenSpec.ofChange checkNamesSpec)

/-- ITS FALSE NEIGHBOUR: 'it returns false'. Refute it at one input. -/
def checkNamesWrong : ChangeSpec := { name := "checkNames", fn := fun _ => fun
  | [] => { results := [.lit (.bool false)], args := [] }
  | _ => none }
def CheckNamesWrongFalsely : Prop := checkNamesRow.holds Tryz.pinned (OpenSpec.ofChange checkNamesWrong)

/-- 'tombolalaw31.CheckNumber': WHATEVER THE INPUT: true; the input reads as it did. -/
def checkNumberSpec : ChangeSpec := { name := "checkNumber", fn := fun _ => fun
  | [d1, d2, d3] => { results := [.lit (.bool true)], args := [d1, d2, d3] }
  | _ => none }
def checkNumberRow : OpenClaim := { program := "ytojjdneicmbfjaagreatdoor", sum := "cddd92fce901b313a4c7e3a6d6c4c96d688c3993602cc4e1f36e958ceb9b91fc", func := "tombola/tombolalaw31.CheckNumber", spec := "checkNumber", inPlace := ["internal/abi.NoEscape", "internal/bytealg.MakeNoZero"], unfollowed := true, recurses := true, named := ["tombola/cand.widths"], apart := false, laid := [("tombola/cand.widths", laid_tombola_cand_widths)] }
def CheckNumberSaid : Prop := checkNumberRow.holds Tryz.pinned (OpenSpec.ofChange checkNumberSpec)

/-- ITS FALSE NEIGHBOUR: 'it returns false'. Refute it at one input. -/
def checkNumberWrong : ChangeSpec := { name := "checkNumber", fn := fun _ => fun
  | [d1, d2, d3] => { results := [.lit (.bool false)], args := [d1, d2, d3] }
  | _ => none }
def CheckNumberWrongFalsely : Prop := checkNumberRow.holds Tryz.pinned (OpenSpec.ofChange checkNumberWrong)

/-- 'tombolalaw31.CheckLeast': WHATEVER THE INPUT: true; the input reads as it did. -/
def checkLeastSpec : ChangeSpec := { name := "checkLeast", fn := fun _ => fun
  | [d1, d2, d3] => { results := [.lit (.bool true)], args := [d1, d2, d3] }
  | _ => none }
def checkLeastRow : OpenClaim := { program := "ytojjdneicmbfjaagreatdoor", sum := "cddd92fce901b313a4c7e3a6d6c4c96d688c3993602cc4e1f36e958ceb9b91fc", func := "tombola/tombolalaw31.CheckLeast", spec := "checkLeast", inPlace := ["internal/abi.NoEscape", "internal/bytealg.MakeNoZero", "internal/bytealg.abigen_runtime_cmpstring"], unfollowed := true, recurses := true, named := ["tombola/cand.widths"], loops := true, apart := false, laid := [("tombola/cand.widths", laid_tombola_cand_widths)] }
def CheckLeastSaid : Prop := checkLeastRow.holds Tryz.pinned (OpenSpec.ofChange checkLeastSpec)

/-- ITS FALSE NEIGHBOUR: 'it returns false'. Refute it at one input. -/
def checkLeastWrong : ChangeSpec := { name := "checkLeast", fn := fun _ => fun
  | [d1, d2, d3] => { results := [.lit (.bool false)], args := [d1, d2, d3] }
  | _ => none }
def CheckLeastWrongFalsely : Prop := checkLeastRow.holds Tryz.pinned (OpenSpec.ofChange checkLeastWrong)

/-- 'tombolalaw31.CheckSteps': WHATEVER THE INPUT: true; the input reads as it did. -/
def checkStepsSpec : ChangeSpec := { name := "checkSteps", fn := fun _ => fun
  | [d1, d2, d3] => { results := [.lit (.bool true)], args := [d1, d2, d3] }
  | _ => none }
def checkStepsRow : OpenClaim := { program := "ytojjdneicmbfjaagreatdoor", sum := "cddd92fce901b313a4c7e3a6d6c4c96d688c3993602cc4e1f36e958ceb9b91fc", func := "tombola/tombolalaw31.CheckSteps", spec := "checkSteps", inPlace := ["internal/abi.NoEscape", "internal/bytealg.MakeNoZero", "internal/bytealg.abigen_runtime_cmpstring"], unfollowed := true, recurses := true, named := ["tombola/cand.widths"], loops := true, apart := false, laid := [("tombola/cand.widths", laid_tombola_cand_widths)] }
def CheckStepsSaid : Prop := checkStepsRow.holds Tryz.pinned (OpenSpec.ofChange checkStepsSpec)

/-- ITS FALSE NEIGHBOUR: 'it returns false'. Refute it at one input. -/
def checkStepsWrong : ChangeSpec := { name := "checkSteps", fn := fun _ => fun
  | [d1, d2, d3] => { results := [.lit (.bool false)], args := [d1, d2, d3] }
  | _ => none }
def CheckStepsWrongFalsely : Prop := checkStepsRow.holds Tryz.pinned (OpenSpec.ofChange checkStepsWrong)

/-- 'tombolalaw31.CheckPasses': WHATEVER THE INPUT: true; the input reads as it did. -/
def checkPassesSpec : ChangeSpec := { name := "checkPasses", fn := fun _ => fun
  | [d1, d2, d3, d4] => { results := [.lit (.bool true)], args := [d1, d2, d3, d4] }
  | _ => none }
def checkPassesRow : OpenClaim := { program := "ytojjdneicmbfjaagreatdoor", sum := "cddd92fce901b313a4c7e3a6d6c4c96d688c3993602cc4e1f36e958ceb9b91fc", func := "tombola/tombolalaw31.CheckPasses", spec := "checkPasses", inPlace := ["internal/abi.NoEscape", "internal/bytealg.MakeNoZero", "internal/bytealg.abigen_runtime_cmpstring"], unfollowed := true, recurses := true, named := ["tombola/cand.widths"], loops := true, apart := false, laid := [("tombola/cand.widths", laid_tombola_cand_widths)] }
def CheckPassesSaid : Prop := checkPassesRow.holds Tryz.pinned (OpenSpec.ofChange checkPassesSpec)

/-- ITS FALSE NEIGHBOUR: 'it returns false'. Refute it at one input. -/
def checkPassesWrong : ChangeSpec := { name := "checkPasses", fn := fun _ => fun
  | [d1, d2, d3, d4] => { results := [.lit (.bool false)], args := [d1, d2, d3, d4] }
  | _ => none }
def CheckPassesWrongFalsely : Prop := checkPassesRow.holds Tryz.pinned (OpenSpec.ofChange checkPassesWrong)

/-- 'tombolalaw31.CheckYes': WHATEVER THE INPUT: true; the input reads as it did. -/
def checkYesSpec : ChangeSpec := { name := "checkYes", fn := fun _ => fun
  | [d1, d2, d3, d4] => { results := [.lit (.bool true)], args := [d1, d2, d3, d4] }
  | _ => none }
def checkYesRow : OpenClaim := { program := "ytojjdneicmbfjaagreatdoor", sum := "cddd92fce901b313a4c7e3a6d6c4c96d688c3993602cc4e1f36e958ceb9b91fc", func := "tombola/tombolalaw31.CheckYes", spec := "checkYes", inPlace := ["internal/abi.NoEscape", "internal/bytealg.MakeNoZero"], unfollowed := true, recurses := true, named := ["tombola/cand.widths"], loops := true, apart := false, laid := [("tombola/cand.widths", laid_tombola_cand_widths)] }
def CheckYesSaid : Prop := checkYesRow.holds Tryz.pinned (OpenSpec.ofChange checkYesSpec)

/-- ITS FALSE NEIGHBOUR: 'it returns false'. Refute it at one input. -/
def checkYesWrong : ChangeSpec := { name := "checkYes", fn := fun _ => fun
  | [d1, d2, d3, d4] => { results := [.lit (.bool false)], args := [d1, d2, d3, d4] }
  | _ => none }
def CheckYesWrongFalsely : Prop := checkYesRow.holds Tryz.pinned (OpenSpec.ofChange checkYesWrong)

/- THE SECOND FORM. 'bulk': how many values and letters a reading holds, each counted each time it is reached (what is shared counts as often as it is met; a slice's spare places count too). A statement '..UptoSaid' is the law's where the arguments, and the package variables that the reading takes, are together of bulk at most 1048576: NARROWER than '..Said'. Prove '..Said' where nothing that the law and all that it calls make is longer than what came in: it says more and counts as full. Else prove '..UptoSaid'. A law counts once. -/
mutual
def uptoBulk {H : Type} : DataW H → Nat
  | .lit (.string bytes) => bytes.length + 1
  | .lit _ => 1
  | .nil => 1
  | .ptr d => uptoBulk d + 1
  | .slice elems spare => uptoBulkAll elems + uptoBulkAll spare + 1
  | .agg parts => uptoBulkAll parts + 1
  | .iface _ d => uptoBulk d + 1
  | .map entries => uptoBulkEntries entries + 1
  | .held _ => 1
def uptoBulkAll {H : Type} : List (DataW H) → Nat
  | [] => 0
  | d :: r => uptoBulk d + uptoBulkAll r
def uptoBulkEntries {H : Type} : List (Lit × DataW H) → Nat
  | [] => 0
  | x :: r => uptoBulkEntry x + uptoBulkEntries r
def uptoBulkEntry {H : Type} : Lit × DataW H → Nat
  | (.string bytes, d) => bytes.length + uptoBulk d + 1
  | (_, d) => uptoBulk d + 1
 end
def uptoSmall : (H : Type) → List (DataW H) → Bool := fun _ ds => decide (uptoBulkAll ds ≤ 1048576)
def OpenSpec.upto (s : _root_.Go.ChangeSpec) : _root_.Go.OpenSpec := { _root_.Go.OpenSpec.ofChange s with cond := some uptoSmall }

/-- 'tombolalaw31.CheckShrinks', WHERE WHAT IT READS IS OF BULK AT MOST 1048576: true; the input reads as it did. -/
def checkShrinksUptoRow : OpenClaim := { program := "ytojjdneicmbfjaagreatdoor", sum := "cddd92fce901b313a4c7e3a6d6c4c96d688c3993602cc4e1f36e958ceb9b91fc", func := "tombola/tombolalaw31.CheckShrinks", spec := "checkShrinks", inPlace := ["internal/abi.NoEscape", "internal/bytealg.MakeNoZero"], unfollowed := true, recurses := true, named := ["tombola/cand.widths"], loops := true, apart := false, laid := [("tombola/cand.widths", laid_tombola_cand_widths)], narrowed := true }
def CheckShrinksUptoSaid : Prop := checkShrinksUptoRow.holds Tryz.pinned (OpenSpec.upto checkShrinksSpec)

/-- 'tombolalaw31.CheckRuns', WHERE WHAT IT READS IS OF BULK AT MOST 1048576: true; the input reads as it did. -/
def checkRunsUptoRow : OpenClaim := { program := "ytojjdneicmbfjaagreatdoor", sum := "cddd92fce901b313a4c7e3a6d6c4c96d688c3993602cc4e1f36e958ceb9b91fc", func := "tombola/tombolalaw31.CheckRuns", spec := "checkRuns", inPlace := ["internal/abi.NoEscape", "internal/bytealg.MakeNoZero"], unfollowed := true, recurses := true, named := ["tombola/cand.widths"], loops := true, apart := false, laid := [("tombola/cand.widths", laid_tombola_cand_widths)], narrowed := true }
def CheckRunsUptoSaid : Prop := checkRunsUptoRow.holds Tryz.pinned (OpenSpec.upto checkRunsSpec)

/-- 'tombolalaw31.CheckNames', WHERE WHAT IT READS IS OF BULK AT MOST 1048576: true; the input reads as it did. -/
def checkNamesUptoRow : OpenClaim := { program := "ytojjdneicmbfjaagreatdoor", sum := "cddd92fce901b313a4c7e3a6d6c4c96d688c3993602cc4e1f36e958ceb9b91fc", func := "tombola/tombolalaw31.CheckNames", spec := "checkNames", inPlace := ["internal/abi.NoEscape", "internal/bytealg.MakeNoZero"], unfollowed := true, recurses := true, named := ["tombola/cand.widths"], apart := false, laid := [("tombola/cand.widths", laid_tombola_cand_widths)], narrowed := true }
def CheckNamesUptoSaid : Prop := checkNamesUptoRow.holds Tryz.pinned (OpenSpec.upto checkNamesSpec)

/-- 'tombolalaw31.CheckNumber', WHERE WHAT IT READS IS OF BULK AT MOST 1048576: true; the input reads as it did. -/
def checkNumberUptoRow : OpenClaim := { program := "ytojjdneicmbfjaagreatdoor", sum := "cddd92fce901b313a4c7e3a6d6c4c96d688c3993602cc4e1f36e958ceb9b91fc", func := "tombola/tombolalaw31.CheckNumber", spec := "checkNumber", inPlace := ["internal/abi.NoEscape", "internal/bytealg.MakeNoZero"], unfollowed := true, recurses := true, named := ["tombola/cand.widths"], apart := false, laid := [("tombola/cand.widths", laid_tombola_cand_widths)], narrowed := true }
def CheckNumberUptoSaid : Prop := checkNumberUptoRow.holds Tryz.pinned (OpenSpec.upto checkNumberSpec)

/-- 'tombolalaw31.CheckLeast', WHERE WHAT IT READS IS OF BULK AT MOST 1048576: true; the input reads as it did. -/
def checkLeastUptoRow : OpenClaim := { program := "ytojjdneicmbfjaagreatdoor", sum := "cddd92fce901b313a4c7e3a6d6c4c96d688c3993602cc4e1f36e958ceb9b91fc", func := "tombola/tombolalaw31.CheckLeast", spec := "checkLeast", inPlace := ["internal/abi.NoEscape", "internal/bytealg.MakeNoZero", "internal/bytealg.abigen_runtime_cmpstring"], unfollowed := true, recurses := true, named := ["tombola/cand.widths"], loops := true, apart := false, laid := [("tombola/cand.widths", laid_tombola_cand_widths)], narrowed := true }
def CheckLeastUptoSaid : Prop := checkLeastUptoRow.holds Tryz.pinned (OpenSpec.upto checkLeastSpec)

/-- 'tombolalaw31.CheckSteps', WHERE WHAT IT READS IS OF BULK AT MOST 1048576: true; the input reads as it did. -/
def checkStepsUptoRow : OpenClaim := { program := "ytojjdneicmbfjaagreatdoor", sum := "cddd92fce901b313a4c7e3a6d6c4c96d688c3993602cc4e1f36e958ceb9b91fc", func := "tombola/tombolalaw31.CheckSteps", spec := "checkSteps", inPlace := ["internal/abi.NoEscape", "internal/bytealg.MakeNoZero", "internal/bytealg.abigen_runtime_cmpstring"], unfollowed := true, recurses := true, named := ["tombola/cand.widths"], loops := true, apart := false, laid := [("tombola/cand.widths", laid_tombola_cand_widths)], narrowed := true }
def CheckStepsUptoSaid : Prop := checkStepsUptoRow.holds Tryz.pinned (OpenSpec.upto checkStepsSpec)

/-- 'tombolalaw31.CheckPasses', WHERE WHAT IT READS IS OF BULK AT MOST 1048576: true; the input reads as it did. -/
def checkPassesUptoRow : OpenClaim := { program := "ytojjdneicmbfjaagreatdoor", sum := "cddd92fce901b313a4c7e3a6d6c4c96d688c3993602cc4e1f36e958ceb9b91fc", func := "tombola/tombolalaw31.CheckPasses", spec := "checkPasses", inPlace := ["internal/abi.NoEscape", "internal/bytealg.MakeNoZero", "internal/bytealg.abigen_runtime_cmpstring"], unfollowed := true, recurses := true, named := ["tombola/cand.widths"], loops := true, apart := false, laid := [("tombola/cand.widths", laid_tombola_cand_widths)], narrowed := true }
def CheckPassesUptoSaid : Prop := checkPassesUptoRow.holds Tryz.pinned (OpenSpec.upto checkPassesSpec)

/-- 'tombolalaw31.CheckYes', WHERE WHAT IT READS IS OF BULK AT MOST 1048576: true; the input reads as it did. -/
def checkYesUptoRow : OpenClaim := { program := "ytojjdneicmbfjaagreatdoor", sum := "cddd92fce901b313a4c7e3a6d6c4c96d688c3993602cc4e1f36e958ceb9b91fc", func := "tombola/tombolalaw31.CheckYes", spec := "checkYes", inPlace := ["internal/abi.NoEscape", "internal/bytealg.MakeNoZero"], unfollowed := true, recurses := true, named := ["tombola/cand.widths"], loops := true, apart := false, laid := [("tombola/cand.widths", laid_tombola_cand_widths)], narrowed := true }
def CheckYesUptoSaid : Prop := checkYesUptoRow.holds Tryz.pinned (OpenSpec.upto checkYesSpec)

end Rows
end Go.Proofs.YtojjdneicmbfjaaGreatDoor
