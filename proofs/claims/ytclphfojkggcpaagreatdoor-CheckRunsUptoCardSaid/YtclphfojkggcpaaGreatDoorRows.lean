/-
  NARROWER THAN 'FOR EVERY INPUT', by the rows' own cells (each row's printed sentence says how): CheckShrinks: loops, laid · CheckRuns: loops, laid.
  DERIVED. THE GIVEN ROWS OF THIS SEAT. 2 by the template 'for every input the law returns true; each argument reads behind the call as it read before'; 0 by the template 'total and deterministic' (their statements: YtclphfojkggcpaaGreatDoorTotals.lean).
  GIVEN WITH THE SEED: the statements are not yours to turn. If you find one false, say at which input.
  Laid BY PROGRAM, IN A SANDBOX (cutbox-rows.mjs): the forced cells as the released guide's own fill.sh prints them over the translation cc6daaea0b510b38… (all of the seat's roots in one cut). By AI agents, Wed Nov 11 2026. No macro, syntax, notation, axiom, sorry.
-/
import Derived.Test.YtclphfojkggcpaaGreatDoorChecked
import GoSem.Claim
import GoSem.ClaimJoined
import GoSem.ClaimMapViews
import Derived.JoinedTies
import Derived.KernelRfl
namespace Go.Proofs.YtclphfojkggcpaaGreatDoor
/- THE CELL 'sum', in the pinned program and in every row, IS THE sha256 OF THE DUMP (.gsa) THAT YtclphfojkggcpaaGreatDoorProg.lean LOADS. Nothing in Lean hashes anything: it is a label: what it is worth is what the hold of that sum in a sandbox is worth. -/
noncomputable def Tryz.pinned : Pinned := { name := "ytclphfojkggcpaagreatdoor", sum := "cc6daaea0b510b38650b06dece3b760a48b75da148097a73af7849eb1f5cbcc2", checked := Tryz.checked }
namespace Rows
def none {H : Type} : Left H := { results := [], args := [] }

/- WHAT THE LISTED PACKAGE-LEVEL VARIABLES READ AS WHEN THE CALL BEGINS. Each datum BY PROGRAM (the guide's laid-datum.mjs) off the statement by which the dump's own 'gosem.cut.vars' lays the variable. In a bare row this is a premise. The card (YtclphfojkggcpaaGreatDoorCards.lean) ties it to the program's text. -/
def laid_tombola_cand_widths {H : Type} : DataW H := .agg [.lit (.int .i64 8), .lit (.int .i64 4), .lit (.int .i64 2), .lit (.int .i64 1)]

/-- 'tombolalaw31.CheckShrinks': WHATEVER THE INPUT: true; the input reads as it did. -/
def checkShrinksSpec : ChangeSpec := { name := "checkShrinks", fn := fun _ => fun
  | [d1, d2, d3] => { results := [.lit (.bool true)], args := [d1, d2, d3] }
  | _ => none }
def checkShrinksRow : OpenClaim := { program := "ytclphfojkggcpaagreatdoor", sum := "cc6daaea0b510b38650b06dece3b760a48b75da148097a73af7849eb1f5cbcc2", func := "tombola/tombolalaw31.CheckShrinks", spec := "checkShrinks", inPlace := ["internal/abi.NoEscape", "internal/bytealg.MakeNoZero"], unfollowed := true, recurses := true, named := ["tombola/cand.widths"], loops := true, apart := false, laid := [("tombola/cand.widths", laid_tombola_cand_widths)] }
def CheckShrinksSaid : Prop := checkShrinksRow.holds Tryz.pinned (OpenSpec.ofChange checkShrinksSpec)

/-- ITS FALSE NEIGHBOUR: 'it returns false'. Refute it at one input. -/
def checkShrinksWrong : ChangeSpec := { name := "checkShrinks", fn := fun _ => fun
  | [d1, d2, d3] => { results := [.lit (.bool false)], args := [d1, d2, d3] }
  | _ => none }
def CheckShrinksWrongFalsely : Prop := checkShrinksRow.holds Tryz.pinned (OpenSpec.ofChange checkShrinksWrong)

/-- 'tombolalaw31.CheckRuns': WHATEVER THE INPUT: true; the input reads as it did. -/
def checkRunsSpec : ChangeSpec := { name := "checkRuns", fn := fun _ => fun
  | [d1, d2, d3, d4] => { results := [.lit (.bool true)], args := [d1, d2, d3, d4] }
  | _ => none }
def checkRunsRow : OpenClaim := { program := "ytclphfojkggcpaagreatdoor", sum := "cc6daaea0b510b38650b06dece3b760a48b75da148097a73af7849eb1f5cbcc2", func := "tombola/tombolalaw31.CheckRuns", spec := "checkRuns", inPlace := ["internal/abi.NoEscape", "internal/bytealg.MakeNoZero"], unfollowed := true, recurses := true, named := ["tombola/cand.widths"], loops := true, apart := false, laid := [("tombola/cand.widths", laid_tombola_cand_widths)] }
def CheckRunsSaid : Prop := checkRunsRow.holds Tryz.pinned (OpenSpec.ofChange checkRunsSpec)

/-- ITS FALSE NEIGHBOUR: 'it returns false'. Refute it at one input. -/
def checkRunsWrong : ChangeSpec := { name := "checkRuns", fn := fun _ => fun
  | [d1, d2, d3, d4] => { results := [.lit (.bool false)], args := [d1, d2, d3, d4] }
  | _ => none }
def CheckRunsWrongFalsely : Prop := checkRunsRow.holds Tryz.pinned (OpenSpec.ofChange checkRunsWrong)

/- THE SECOND FORM. 'bulk': how many values and letters a reading holds, each counted each time it is reached (what is shared counts as often as it is met; a slice's spare places count too). A statement '..UptoSaid' is the law's where the arguments, and the package variables that the reading takes, are together of bulk at most 1048576: NARROWER than '..Said'. Prove '..Said' where nothing that the law and all that it calls make is longer than what came in: it says more and counts as full. Else prove '..UptoSaid'. A law counts once. -/
mutual
def uptoBulk {H : Type} : DataW H → Nat
  | .lit (.string bytes) => bytes.length + 1
  | .lit _ => 1
  | .nil => 1
  | .ptr d => uptoBulk d + 1
  | .slice elems spare => uptoBulkAll elems + uptoBulkAll spare + 1
  | .agg parts => uptoBulkAll parts + 1
  | .iface _ d => uptoBulk d + 1
  | .map entries => uptoBulkEntries entries + 1
  | .held _ => 1
def uptoBulkAll {H : Type} : List (DataW H) → Nat
  | [] => 0
  | d :: r => uptoBulk d + uptoBulkAll r
def uptoBulkEntries {H : Type} : List (Lit × DataW H) → Nat
  | [] => 0
  | x :: r => uptoBulkEntry x + uptoBulkEntries r
def uptoBulkEntry {H : Type} : Lit × DataW H → Nat
  | (.string bytes, d) => bytes.length + uptoBulk d + 1
  | (_, d) => uptoBulk d + 1
 end
def uptoSmall : (H : Type) → List (DataW H) → Bool := fun _ ds => decide (uptoBulkAll ds ≤ 1048576)
def OpenSpec.upto (s : _root_.Go.ChangeSpec) : _root_.Go.OpenSpec := { _root_.Go.OpenSpec.ofChange s with cond := some uptoSmall }

/-- 'tombolalaw31.CheckShrinks', WHERE WHAT IT READS IS OF BULK AT MOST 1048576: true; the input reads as it did. -/
def checkShrinksUptoRow : OpenClaim := { program := "ytclphfojkggcpaagreatdoor", sum := "cc6daaea0b510b38650b06dece3b760a48b75da148097a73af7849eb1f5cbcc2", func := "tombola/tombolalaw31.CheckShrinks", spec := "checkShrinks", inPlace := ["internal/abi.NoEscape", "internal/bytealg.MakeNoZero"], unfollowed := true, recurses := true, named := ["tombola/cand.widths"], loops := true, apart := false, laid := [("tombola/cand.widths", laid_tombola_cand_widths)], narrowed := true }
def CheckShrinksUptoSaid : Prop := checkShrinksUptoRow.holds Tryz.pinned (OpenSpec.upto checkShrinksSpec)

/-- 'tombolalaw31.CheckRuns', WHERE WHAT IT READS IS OF BULK AT MOST 1048576: true; the input reads as it did. -/
def checkRunsUptoRow : OpenClaim := { program := "ytclphfojkggcpaagreatdoor", sum := "cc6daaea0b510b38650b06dece3b760a48b75da148097a73af7849eb1f5cbcc2", func := "tombola/tombolalaw31.CheckRuns", spec := "checkRuns", inPlace := ["internal/abi.NoEscape", "internal/bytealg.MakeNoZero"], unfollowed := true, recurses := true, named := ["tombola/cand.widths"], loops := true, apart := false, laid := [("tombola/cand.widths", laid_tombola_cand_widths)], narrowed := true }
def CheckRunsUptoSaid : Prop := checkRunsUptoRow.holds Tryz.pinned (OpenSpec.upto checkRunsSpec)

end Rows
end Go.Proofs.YtclphfojkggcpaaGreatDoor
