/-
  NARROWER THAN 'FOR EVERY INPUT', by the rows' own cells (each row's printed sentence says how): TrialCuts: loops · TrialRow: loops · TrialMore: loops · TrialBits: loops · TrialTwo: loops · TrialYes: loops.
  DERIVED. THE GIVEN ROWS OF THIS SEAT. 7 by the template 'for every input the law returns true; each argument reads behind the call as it read before'; 0 by the template 'total and deterministic' (their statements: YtcbdfjeehimcfaaGreatTotals.lean).
  GIVEN WITH THE SEED: the statements are not yours to turn. If you find one false, say at which input.
  Laid BY PROGRAM, IN A SANDBOX (cutbox-rows.mjs): the forced cells as the released guide's own fill.sh prints them over the translation c05a4516ed23d642… (all of the seat's roots in one cut). By AI agents, Wed Nov 11 2026. No macro, syntax, notation, axiom, sorry.
-/
import Derived.Test.YtcbdfjeehimcfaaGreatChecked
import GoSem.Claim
import GoSem.ClaimJoined
import GoSem.ClaimMapViews
import Derived.JoinedTies
import Derived.KernelRfl
namespace Go.Proofs.YtcbdfjeehimcfaaGreat
/- THE CELL 'sum', in the pinned program and in every row, IS THE sha256 OF THE DUMP (.gsa) THAT YtcbdfjeehimcfaaGreatProg.lean LOADS. Nothing in Lean hashes anything: it is a label: what it is worth is what the hold of that sum in a sandbox is worth. -/
noncomputable def Tryz.pinned : Pinned := { name := "ytcbdfjeehimcfaagreat", sum := "c05a4516ed23d6424fc77472dc05837bb617a0bf923e86264ae012dc29cc0ff3", checked := Tryz.checked }
namespace Rows
def none {H : Type} : Left H := { results := [], args := [] }

/-- 'tombolalaw29.TrialCuts': WHATEVER THE INPUT: true; the input reads as it did. -/
def trialCutsSpec : ChangeSpec := { name := "trialCuts", fn := fun _ => fun
  | [d1, d2, d3, d4] => { results := [.lit (.bool true)], args := [d1, d2, d3, d4] }
  | _ => none }
def trialCutsRow : OpenClaim := { program := "ytcbdfjeehimcfaagreat", sum := "c05a4516ed23d6424fc77472dc05837bb617a0bf923e86264ae012dc29cc0ff3", func := "tombola/tombolalaw29.TrialCuts", spec := "trialCuts", unfollowed := true, recurses := true, loops := true, apart := false }
def TrialCutsSaid : Prop := trialCutsRow.holds Tryz.pinned (OpenSpec.ofChange trialCutsSpec)

/-- ITS FALSE NEIGHBOUR: 'it returns false'. Refute it at one input. -/
def trialCutsWrong : ChangeSpec := { name := "trialCuts", fn := fun _ => fun
  | [d1, d2, d3, d4] => { results := [.lit (.bool false)], args := [d1, d2, d3, d4] }
  | _ => none }
def TrialCutsWrongFalsely : Prop := trialCutsRow.holds Tryz.pinned (OpenSpec.ofChange trialCutsWrong)

/-- 'tombolalaw29.TrialNames': WHATEVER THE INPUT: true; the input reads as it did. -/
def trialNamesSpec : ChangeSpec := { name := "trialNames", fn := fun _ => fun
  | [] => { results := [.lit (.bool true)], args := [] }
  | _ => none }
def trialNamesRow : OpenClaim := { program := "ytcbdfjeehimcfaagreat", sum := "c05a4516ed23d6424fc77472dc05837bb617a0bf923e86264ae012dc29cc0ff3", func := "tombola/tombolalaw29.TrialNames", spec := "trialNames", unfollowed := true, recurses := true, apart := false }
def TrialNamesSaid : Prop := trialNamesRow.holds Tryz.pinned (OpenSpec.ofChange trialNamesSpec)

/-- ITS FALSE NEIGHBOUR: 'it returns false'. Refute it at one input. -/
def trialNamesWrong : ChangeSpec := { name := "trialNames", fn := fun _ => fun
  | [] => { results := [.lit (.bool false)], args := [] }
  | _ => none }
def TrialNamesWrongFalsely : Prop := trialNamesRow.holds Tryz.pinned (OpenSpec.ofChange trialNamesWrong)

/-- 'tombolalaw29.TrialRow': WHATEVER THE INPUT: true; the input reads as it did. -/
def trialRowSpec : ChangeSpec := { name := "trialRow", fn := fun _ => fun
  | [d1, d2, d3, d4] => { results := [.lit (.bool true)], args := [d1, d2, d3, d4] }
  | _ => none }
def trialRowRow : OpenClaim := { program := "ytcbdfjeehimcfaagreat", sum := "c05a4516ed23d6424fc77472dc05837bb617a0bf923e86264ae012dc29cc0ff3", func := "tombola/tombolalaw29.TrialRow", spec := "trialRow", unfollowed := true, recurses := true, loops := true, apart := false }
def TrialRowSaid : Prop := trialRowRow.holds Tryz.pinned (OpenSpec.ofChange trialRowSpec)

/-- ITS FALSE NEIGHBOUR: 'it returns false'. Refute it at one input. -/
def trialRowWrong : ChangeSpec := { name := "trialRow", fn := fun _ => fun
  | [d1, d2, d3, d4] => { results := [.lit (.bool false)], args := [d1, d2, d3, d4] }
  | _ => none }
def TrialRowWrongFalsely : Prop := trialRowRow.holds Tryz.pinned (OpenSpec.ofChange trialRowWrong)

/-- 'tombolalaw29.TrialMore': WHATEVER THE INPUT: true; the input reads as it did. -/
def trialMoreSpec : ChangeSpec := { name := "trialMore", fn := fun _ => fun
  | [d1, d2, d3, d4, d5] => { results := [.lit (.bool true)], args := [d1, d2, d3, d4, d5] }
  | _ => none }
def trialMoreRow : OpenClaim := { program := "ytcbdfjeehimcfaagreat", sum := "c05a4516ed23d6424fc77472dc05837bb617a0bf923e86264ae012dc29cc0ff3", func := "tombola/tombolalaw29.TrialMore", spec := "trialMore", unfollowed := true, recurses := true, loops := true, apart := false }
def TrialMoreSaid : Prop := trialMoreRow.holds Tryz.pinned (OpenSpec.ofChange trialMoreSpec)

/-- ITS FALSE NEIGHBOUR: 'it returns false'. Refute it at one input. -/
def trialMoreWrong : ChangeSpec := { name := "trialMore", fn := fun _ => fun
  | [d1, d2, d3, d4, d5] => { results := [.lit (.bool false)], args := [d1, d2, d3, d4, d5] }
  | _ => none }
def TrialMoreWrongFalsely : Prop := trialMoreRow.holds Tryz.pinned (OpenSpec.ofChange trialMoreWrong)

/-- 'tombolalaw29.TrialBits': WHATEVER THE INPUT: true; the input reads as it did. -/
def trialBitsSpec : ChangeSpec := { name := "trialBits", fn := fun _ => fun
  | [d1, d2, d3, d4, d5] => { results := [.lit (.bool true)], args := [d1, d2, d3, d4, d5] }
  | _ => none }
def trialBitsRow : OpenClaim := { program := "ytcbdfjeehimcfaagreat", sum := "c05a4516ed23d6424fc77472dc05837bb617a0bf923e86264ae012dc29cc0ff3", func := "tombola/tombolalaw29.TrialBits", spec := "trialBits", unfollowed := true, recurses := true, loops := true, apart := false }
def TrialBitsSaid : Prop := trialBitsRow.holds Tryz.pinned (OpenSpec.ofChange trialBitsSpec)

/-- ITS FALSE NEIGHBOUR: 'it returns false'. Refute it at one input. -/
def trialBitsWrong : ChangeSpec := { name := "trialBits", fn := fun _ => fun
  | [d1, d2, d3, d4, d5] => { results := [.lit (.bool false)], args := [d1, d2, d3, d4, d5] }
  | _ => none }
def TrialBitsWrongFalsely : Prop := trialBitsRow.holds Tryz.pinned (OpenSpec.ofChange trialBitsWrong)

/-- 'tombolalaw29.TrialTwo': WHATEVER THE INPUT: true; the input reads as it did. -/
def trialTwoSpec : ChangeSpec := { name := "trialTwo", fn := fun _ => fun
  | [d1, d2, d3, d4, d5] => { results := [.lit (.bool true)], args := [d1, d2, d3, d4, d5] }
  | _ => none }
def trialTwoRow : OpenClaim := { program := "ytcbdfjeehimcfaagreat", sum := "c05a4516ed23d6424fc77472dc05837bb617a0bf923e86264ae012dc29cc0ff3", func := "tombola/tombolalaw29.TrialTwo", spec := "trialTwo", unfollowed := true, recurses := true, loops := true, apart := false }
def TrialTwoSaid : Prop := trialTwoRow.holds Tryz.pinned (OpenSpec.ofChange trialTwoSpec)

/-- ITS FALSE NEIGHBOUR: 'it returns false'. Refute it at one input. -/
def trialTwoWrong : ChangeSpec := { name := "trialTwo", fn := fun _ => fun
  | [d1, d2, d3, d4, d5] => { results := [.lit (.bool false)], args := [d1, d2, d3, d4, d5] }
  | _ => none }
def TrialTwoWrongFalsely : Prop := trialTwoRow.holds Tryz.pinned (OpenSpec.ofChange trialTwoWrong)

/-- 'tombolalaw29.TrialYes': WHATEVER THE INPUT: true; the input reads as it did. -/
def trialYesSpec : ChangeSpec := { name := "trialYes", fn := fun _ => fun
  | [d1, d2, d3, d4] => { results := [.lit (.bool true)], args := [d1, d2, d3, d4] }
  | _ => none }
def trialYesRow : OpenClaim := { program := "ytcbdfjeehimcfaagreat", sum := "c05a4516ed23d6424fc77472dc05837bb617a0bf923e86264ae012dc29cc0ff3", func := "tombola/tombolalaw29.TrialYes", spec := "trialYes", unfollowed := true, recurses := true, loops := true, apart := false }
def TrialYesSaid : Prop := trialYesRow.holds Tryz.pinned (OpenSpec.ofChange trialYesSpec)

/-- ITS FALSE NEIGHBOUR: 'it returns false'. Refute it at one input. -/
def trialYesWrong : ChangeSpec := { name := "trialYes", fn := fun _ => fun
  | [d1, d2, d3, d4] => { results := [.lit (.bool false)], args := [d1, d2, d3, d4] }
  | _ => none }
def TrialYesWrongFalsely : Prop := trialYesRow.holds Tryz.pinned (OpenSpec.ofChange trialYesWrong)

/- THE SECOND FORM. 'bulk': how many values and letters a reading holds, each counted each time it is reached (what is shared counts as often as it is met; a slice's spare places count too). A statement '..UptoSaid' is the law's where the arguments, and the package variables that the reading takes, are together of bulk at most 1048576: NARROWER than '..Said'. Prove '..Said' where nothing that the law and all that it calls make is longer than what came in: it says more and counts as full. Else prove '..UptoSaid'. A law counts once. -/
mutual
def uptoBulk {H : Type} : DataW H → Nat
  | .lit (.string bytes) => bytes.length + 1
  | .lit _ => 1
  | .nil => 1
  | .ptr d => uptoBulk d + 1
  | .slice elems spare => uptoBulkAll elems + uptoBulkAll spare + 1
  | .agg parts => uptoBulkAll parts + 1
  | .iface _ d => uptoBulk d + 1
  | .map entries => uptoBulkEntries entries + 1
  | .held _ => 1
def uptoBulkAll {H : Type} : List (DataW H) → Nat
  | [] => 0
  | d :: r => uptoBulk d + uptoBulkAll r
def uptoBulkEntries {H : Type} : List (Lit × DataW H) → Nat
  | [] => 0
  | x :: r => uptoBulkEntry x + uptoBulkEntries r
def uptoBulkEntry {H : Type} : Lit × DataW H → Nat
  | (.string bytes, d) => bytes.length + uptoBulk d + 1
  | (_, d) => uptoBulk d + 1
 end
def uptoSmall : (H : Type) → List (DataW H) → Bool := fun _ ds => decide (uptoBulkAll ds ≤ 1048576)
def OpenSpec.upto (s : _root_.Go.ChangeSpec) : _root_.Go.OpenSpec := { _root_.Go.OpenSpec.ofChange s with cond := some uptoSmall }

/-- 'tombolalaw29.TrialCuts', WHERE WHAT IT READS IS OF BULK AT MOST 1048576: true; the input reads as it did. -/
def trialCutsUptoRow : OpenClaim := { program := "ytcbdfjeehimcfaagreat", sum := "c05a4516ed23d6424fc77472dc05837bb617a0bf923e86264ae012dc29cc0ff3", func := "tombola/tombolalaw29.TrialCuts", spec := "trialCuts", unfollowed := true, recurses := true, loops := true, apart := false, narrowed := true }
def TrialCutsUptoSaid : Prop := trialCutsUptoRow.holds Tryz.pinned (OpenSpec.upto trialCutsSpec)

/-- 'tombolalaw29.TrialNames', WHERE WHAT IT READS IS OF BULK AT MOST 1048576: true; the input reads as it did. -/
def trialNamesUptoRow : OpenClaim := { program := "ytcbdfjeehimcfaagreat", sum := "c05a4516ed23d6424fc77472dc05837bb617a0bf923e86264ae012dc29cc0ff3", func := "tombola/tombolalaw29.TrialNames", spec := "trialNames", unfollowed := true, recurses := true, apart := false, narrowed := true }
def TrialNamesUptoSaid : Prop := trialNamesUptoRow.holds Tryz.pinned (OpenSpec.upto trialNamesSpec)

/-- 'tombolalaw29.TrialRow', WHERE WHAT IT READS IS OF BULK AT MOST 1048576: true; the input reads as it did. -/
def trialRowUptoRow : OpenClaim := { program := "ytcbdfjeehimcfaagreat", sum := "c05a4516ed23d6424fc77472dc05837bb617a0bf923e86264ae012dc29cc0ff3", func := "tombola/tombolalaw29.TrialRow", spec := "trialRow", unfollowed := true, recurses := true, loops := true, apart := false, narrowed := true }
def TrialRowUptoSaid : Prop := trialRowUptoRow.holds Tryz.pinned (OpenSpec.upto trialRowSpec)

/-- 'tombolalaw29.TrialMore', WHERE WHAT IT READS IS OF BULK AT MOST 1048576: true; the input reads as it did. -/
def trialMoreUptoRow : OpenClaim := { program := "ytcbdfjeehimcfaagreat", sum := "c05a4516ed23d6424fc77472dc05837bb617a0bf923e86264ae012dc29cc0ff3", func := "tombola/tombolalaw29.TrialMore", spec := "trialMore", unfollowed := true, recurses := true, loops := true, apart := false, narrowed := true }
def TrialMoreUptoSaid : Prop := trialMoreUptoRow.holds Tryz.pinned (OpenSpec.upto trialMoreSpec)

/-- 'tombolalaw29.TrialBits', WHERE WHAT IT READS IS OF BULK AT MOST 1048576: true; the input reads as it did. -/
def trialBitsUptoRow : OpenClaim := { program := "ytcbdfjeehimcfaagreat", sum := "c05a4516ed23d6424fc77472dc05837bb617a0bf923e86264ae012dc29cc0ff3", func := "tombola/tombolalaw29.TrialBits", spec := "trialBits", unfollowed := true, recurses := true, loops := true, apart := false, narrowed := true }
def TrialBitsUptoSaid : Prop := trialBitsUptoRow.holds Tryz.pinned (OpenSpec.upto trialBitsSpec)

/-- 'tombolalaw29.TrialTwo', WHERE WHAT IT READS IS OF BULK AT MOST 1048576: true; the input reads as it did. -/
def trialTwoUptoRow : OpenClaim := { program := "ytcbdfjeehimcfaagreat", sum := "c05a4516ed23d6424fc77472dc05837bb617a0bf923e86264ae012dc29cc0ff3", func := "tombola/tombolalaw29.TrialTwo", spec := "trialTwo", unfollowed := true, recurses := true, loops := true, apart := false, narrowed := true }
def TrialTwoUptoSaid : Prop := trialTwoUptoRow.holds Tryz.pinned (OpenSpec.upto trialTwoSpec)

/-- 'tombolalaw29.TrialYes', WHERE WHAT IT READS IS OF BULK AT MOST 1048576: true; the input reads as it did. -/
def trialYesUptoRow : OpenClaim := { program := "ytcbdfjeehimcfaagreat", sum := "c05a4516ed23d6424fc77472dc05837bb617a0bf923e86264ae012dc29cc0ff3", func := "tombola/tombolalaw29.TrialYes", spec := "trialYes", unfollowed := true, recurses := true, loops := true, apart := false, narrowed := true }
def TrialYesUptoSaid : Prop := trialYesUptoRow.holds Tryz.pinned (OpenSpec.upto trialYesSpec)

end Rows
end Go.Proofs.YtcbdfjeehimcfaaGreat
