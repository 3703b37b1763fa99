/-
  NARROWER THAN 'FOR EVERY INPUT', by the rows' own cells (each row's printed sentence says how): HaltAlls: loops · HaltParts: loops · HaltPairs: loops · HaltFree: loops · HaltWhole: loops · HaltRises: loops.
  DERIVED. THE GIVEN ROWS OF THIS SEAT. 7 by the template 'for every input the law returns true; each argument reads behind the call as it read before'; 0 by the template 'total and deterministic' (their statements: YtkdffbdnjfgpeaaGreatTotals.lean).
  GIVEN WITH THE SEED: the statements are not yours to turn. If you find one false, say at which input.
  Laid BY PROGRAM, IN A SANDBOX (cutbox-rows.mjs): the forced cells as the released guide's own fill.sh prints them over the translation dbc5dbe9c7c6f743… (all of the seat's roots in one cut). By AI agents, Wed Nov 11 2026. No macro, syntax, notation, axiom, sorry.
-/
import Derived.Test.YtkdffbdnjfgpeaaGreatChecked
import GoSem.Claim
import GoSem.ClaimJoined
import GoSem.ClaimMapViews
import Derived.JoinedTies
import Derived.KernelRfl
namespace Go.Proofs.YtkdffbdnjfgpeaaGreat
/- THE CELL 'sum', in the pinned program and in every row, IS THE sha256 OF THE DUMP (.gsa) THAT YtkdffbdnjfgpeaaGreatProg.lean LOADS. Nothing in Lean hashes anything: it is a label: what it is worth is what the hold of that sum in a sandbox is worth. -/
noncomputable def Tryz.pinned : Pinned := { name := "ytkdffbdnjfgpeaagreat", sum := "dbc5dbe9c7c6f7431214cda009d90ddf244aea6a14fdcca4c97588a16b543f41", checked := Tryz.checked }
namespace Rows
def none {H : Type} : Left H := { results := [], args := [] }

/-- 'tombolalaw23.HaltAlls': WHATEVER THE INPUT: true; the input reads as it did. -/
def haltAllsSpec : ChangeSpec := { name := "haltAlls", fn := fun _ => fun
  | [d1, d2] => { results := [.lit (.bool true)], args := [d1, d2] }
  | _ => none }
def haltAllsRow : OpenClaim := { program := "ytkdffbdnjfgpeaagreat", sum := "dbc5dbe9c7c6f7431214cda009d90ddf244aea6a14fdcca4c97588a16b543f41", func := "tombola/tombolalaw23.HaltAlls", spec := "haltAlls", inPlace := ["internal/bytealg.abigen_runtime_cmpstring", "math/bits.Add64", "math/bits.Sub64"], unfollowed := true, recurses := true, named := ["math/bits.divideError", "math/bits.overflowError"], loops := true, apart := false }
def HaltAllsSaid : Prop := haltAllsRow.holds Tryz.pinned (OpenSpec.ofChange haltAllsSpec)

/-- ITS FALSE NEIGHBOUR: 'it returns false'. Refute it at one input. -/
def haltAllsWrong : ChangeSpec := { name := "haltAlls", fn := fun _ => fun
  | [d1, d2] => { results := [.lit (.bool false)], args := [d1, d2] }
  | _ => none }
def HaltAllsWrongFalsely : Prop := haltAllsRow.holds Tryz.pinned (OpenSpec.ofChange haltAllsWrong)

/-- 'tombolalaw23.HaltParts': WHATEVER THE INPUT: true; the input reads as it did. -/
def haltPartsSpec : ChangeSpec := { name := "haltParts", fn := fun _ => fun
  | [d1, d2, d3] => { results := [.lit (.bool true)], args := [d1, d2, d3] }
  | _ => none }
def haltPartsRow : OpenClaim := { program := "ytkdffbdnjfgpeaagreat", sum := "dbc5dbe9c7c6f7431214cda009d90ddf244aea6a14fdcca4c97588a16b543f41", func := "tombola/tombolalaw23.HaltParts", spec := "haltParts", inPlace := ["internal/bytealg.abigen_runtime_cmpstring", "math/bits.Add64", "math/bits.Sub64"], unfollowed := true, recurses := true, named := ["math/bits.divideError", "math/bits.overflowError"], loops := true, apart := false }
def HaltPartsSaid : Prop := haltPartsRow.holds Tryz.pinned (OpenSpec.ofChange haltPartsSpec)

/-- ITS FALSE NEIGHBOUR: 'it returns false'. Refute it at one input. -/
def haltPartsWrong : ChangeSpec := { name := "haltParts", fn := fun _ => fun
  | [d1, d2, d3] => { results := [.lit (.bool false)], args := [d1, d2, d3] }
  | _ => none }
def HaltPartsWrongFalsely : Prop := haltPartsRow.holds Tryz.pinned (OpenSpec.ofChange haltPartsWrong)

/-- 'tombolalaw23.HaltNames': WHATEVER THE INPUT: true; the input reads as it did. -/
def haltNamesSpec : ChangeSpec := { name := "haltNames", fn := fun _ => fun
  | [] => { results := [.lit (.bool true)], args := [] }
  | _ => none }
def haltNamesRow : OpenClaim := { program := "ytkdffbdnjfgpeaagreat", sum := "dbc5dbe9c7c6f7431214cda009d90ddf244aea6a14fdcca4c97588a16b543f41", func := "tombola/tombolalaw23.HaltNames", spec := "haltNames", inPlace := ["internal/bytealg.abigen_runtime_cmpstring", "math/bits.Add64", "math/bits.Sub64"], unfollowed := true, recurses := true, named := ["math/bits.divideError", "math/bits.overflowError"], apart := false }
def HaltNamesSaid : Prop := haltNamesRow.holds Tryz.pinned (OpenSpec.ofChange haltNamesSpec)

/-- ITS FALSE NEIGHBOUR: 'it returns false'. Refute it at one input. -/
def haltNamesWrong : ChangeSpec := { name := "haltNames", fn := fun _ => fun
  | [] => { results := [.lit (.bool false)], args := [] }
  | _ => none }
def HaltNamesWrongFalsely : Prop := haltNamesRow.holds Tryz.pinned (OpenSpec.ofChange haltNamesWrong)

/-- 'tombolalaw23.HaltPairs': WHATEVER THE INPUT: true; the input reads as it did. -/
def haltPairsSpec : ChangeSpec := { name := "haltPairs", fn := fun _ => fun
  | [d1, d2, d3] => { results := [.lit (.bool true)], args := [d1, d2, d3] }
  | _ => none }
def haltPairsRow : OpenClaim := { program := "ytkdffbdnjfgpeaagreat", sum := "dbc5dbe9c7c6f7431214cda009d90ddf244aea6a14fdcca4c97588a16b543f41", func := "tombola/tombolalaw23.HaltPairs", spec := "haltPairs", inPlace := ["internal/bytealg.abigen_runtime_cmpstring", "math/bits.Add64", "math/bits.Sub64"], unfollowed := true, recurses := true, named := ["math/bits.divideError", "math/bits.overflowError"], loops := true, apart := false }
def HaltPairsSaid : Prop := haltPairsRow.holds Tryz.pinned (OpenSpec.ofChange haltPairsSpec)

/-- ITS FALSE NEIGHBOUR: 'it returns false'. Refute it at one input. -/
def haltPairsWrong : ChangeSpec := { name := "haltPairs", fn := fun _ => fun
  | [d1, d2, d3] => { results := [.lit (.bool false)], args := [d1, d2, d3] }
  | _ => none }
def HaltPairsWrongFalsely : Prop := haltPairsRow.holds Tryz.pinned (OpenSpec.ofChange haltPairsWrong)

/-- 'tombolalaw23.HaltFree': WHATEVER THE INPUT: true; the input reads as it did. -/
def haltFreeSpec : ChangeSpec := { name := "haltFree", fn := fun _ => fun
  | [d1, d2, d3] => { results := [.lit (.bool true)], args := [d1, d2, d3] }
  | _ => none }
def haltFreeRow : OpenClaim := { program := "ytkdffbdnjfgpeaagreat", sum := "dbc5dbe9c7c6f7431214cda009d90ddf244aea6a14fdcca4c97588a16b543f41", func := "tombola/tombolalaw23.HaltFree", spec := "haltFree", inPlace := ["internal/bytealg.abigen_runtime_cmpstring", "math/bits.Add64", "math/bits.Sub64"], unfollowed := true, recurses := true, named := ["math/bits.divideError", "math/bits.overflowError"], loops := true, apart := false }
def HaltFreeSaid : Prop := haltFreeRow.holds Tryz.pinned (OpenSpec.ofChange haltFreeSpec)

/-- ITS FALSE NEIGHBOUR: 'it returns false'. Refute it at one input. -/
def haltFreeWrong : ChangeSpec := { name := "haltFree", fn := fun _ => fun
  | [d1, d2, d3] => { results := [.lit (.bool false)], args := [d1, d2, d3] }
  | _ => none }
def HaltFreeWrongFalsely : Prop := haltFreeRow.holds Tryz.pinned (OpenSpec.ofChange haltFreeWrong)

/-- 'tombolalaw23.HaltWhole': WHATEVER THE INPUT: true; the input reads as it did. -/
def haltWholeSpec : ChangeSpec := { name := "haltWhole", fn := fun _ => fun
  | [d1, d2, d3] => { results := [.lit (.bool true)], args := [d1, d2, d3] }
  | _ => none }
def haltWholeRow : OpenClaim := { program := "ytkdffbdnjfgpeaagreat", sum := "dbc5dbe9c7c6f7431214cda009d90ddf244aea6a14fdcca4c97588a16b543f41", func := "tombola/tombolalaw23.HaltWhole", spec := "haltWhole", inPlace := ["internal/bytealg.abigen_runtime_cmpstring", "math/bits.Add64", "math/bits.Sub64"], unfollowed := true, recurses := true, named := ["math/bits.divideError", "math/bits.overflowError"], loops := true, apart := false }
def HaltWholeSaid : Prop := haltWholeRow.holds Tryz.pinned (OpenSpec.ofChange haltWholeSpec)

/-- ITS FALSE NEIGHBOUR: 'it returns false'. Refute it at one input. -/
def haltWholeWrong : ChangeSpec := { name := "haltWhole", fn := fun _ => fun
  | [d1, d2, d3] => { results := [.lit (.bool false)], args := [d1, d2, d3] }
  | _ => none }
def HaltWholeWrongFalsely : Prop := haltWholeRow.holds Tryz.pinned (OpenSpec.ofChange haltWholeWrong)

/-- 'tombolalaw23.HaltRises': WHATEVER THE INPUT: true; the input reads as it did. -/
def haltRisesSpec : ChangeSpec := { name := "haltRises", fn := fun _ => fun
  | [d1, d2, d3] => { results := [.lit (.bool true)], args := [d1, d2, d3] }
  | _ => none }
def haltRisesRow : OpenClaim := { program := "ytkdffbdnjfgpeaagreat", sum := "dbc5dbe9c7c6f7431214cda009d90ddf244aea6a14fdcca4c97588a16b543f41", func := "tombola/tombolalaw23.HaltRises", spec := "haltRises", inPlace := ["internal/bytealg.abigen_runtime_cmpstring", "math/bits.Add64", "math/bits.Sub64"], unfollowed := true, recurses := true, named := ["math/bits.divideError", "math/bits.overflowError"], loops := true, apart := false }
def HaltRisesSaid : Prop := haltRisesRow.holds Tryz.pinned (OpenSpec.ofChange haltRisesSpec)

/-- ITS FALSE NEIGHBOUR: 'it returns false'. Refute it at one input. -/
def haltRisesWrong : ChangeSpec := { name := "haltRises", fn := fun _ => fun
  | [d1, d2, d3] => { results := [.lit (.bool false)], args := [d1, d2, d3] }
  | _ => none }
def HaltRisesWrongFalsely : Prop := haltRisesRow.holds Tryz.pinned (OpenSpec.ofChange haltRisesWrong)

/- THE SECOND FORM. 'bulk': how many values and letters a reading holds, each counted each time it is reached (what is shared counts as often as it is met; a slice's spare places count too). A statement '..UptoSaid' is the law's where the arguments, and the package variables that the reading takes, are together of bulk at most 1048576: NARROWER than '..Said'. Prove '..Said' where nothing that the law and all that it calls make is longer than what came in: it says more and counts as full. Else prove '..UptoSaid'. A law counts once. -/
mutual
def uptoBulk {H : Type} : DataW H → Nat
  | .lit (.string bytes) => bytes.length + 1
  | .lit _ => 1
  | .nil => 1
  | .ptr d => uptoBulk d + 1
  | .slice elems spare => uptoBulkAll elems + uptoBulkAll spare + 1
  | .agg parts => uptoBulkAll parts + 1
  | .iface _ d => uptoBulk d + 1
  | .map entries => uptoBulkEntries entries + 1
  | .held _ => 1
def uptoBulkAll {H : Type} : List (DataW H) → Nat
  | [] => 0
  | d :: r => uptoBulk d + uptoBulkAll r
def uptoBulkEntries {H : Type} : List (Lit × DataW H) → Nat
  | [] => 0
  | x :: r => uptoBulkEntry x + uptoBulkEntries r
def uptoBulkEntry {H : Type} : Lit × DataW H → Nat
  | (.string bytes, d) => bytes.length + uptoBulk d + 1
  | (_, d) => uptoBulk d + 1
 end
def uptoSmall : (H : Type) → List (DataW H) → Bool := fun _ ds => decide (uptoBulkAll ds ≤ 1048576)
def OpenSpec.upto (s : _root_.Go.ChangeSpec) : _root_.Go.OpenSpec := { _root_.Go.OpenSpec.ofChange s with cond := some uptoSmall }

/-- 'tombolalaw23.HaltAlls', WHERE WHAT IT READS IS OF BULK AT MOST 1048576: true; the input reads as it did. -/
def haltAllsUptoRow : OpenClaim := { program := "ytkdffbdnjfgpeaagreat", sum := "dbc5dbe9c7c6f7431214cda009d90ddf244aea6a14fdcca4c97588a16b543f41", func := "tombola/tombolalaw23.HaltAlls", spec := "haltAlls", inPlace := ["internal/bytealg.abigen_runtime_cmpstring", "math/bits.Add64", "math/bits.Sub64"], unfollowed := true, recurses := true, named := ["math/bits.divideError", "math/bits.overflowError"], loops := true, apart := false, narrowed := true }
def HaltAllsUptoSaid : Prop := haltAllsUptoRow.holds Tryz.pinned (OpenSpec.upto haltAllsSpec)

/-- 'tombolalaw23.HaltParts', WHERE WHAT IT READS IS OF BULK AT MOST 1048576: true; the input reads as it did. -/
def haltPartsUptoRow : OpenClaim := { program := "ytkdffbdnjfgpeaagreat", sum := "dbc5dbe9c7c6f7431214cda009d90ddf244aea6a14fdcca4c97588a16b543f41", func := "tombola/tombolalaw23.HaltParts", spec := "haltParts", inPlace := ["internal/bytealg.abigen_runtime_cmpstring", "math/bits.Add64", "math/bits.Sub64"], unfollowed := true, recurses := true, named := ["math/bits.divideError", "math/bits.overflowError"], loops := true, apart := false, narrowed := true }
def HaltPartsUptoSaid : Prop := haltPartsUptoRow.holds Tryz.pinned (OpenSpec.upto haltPartsSpec)

/-- 'tombolalaw23.HaltNames', WHERE WHAT IT READS IS OF BULK AT MOST 1048576: true; the input reads as it did. -/
def haltNamesUptoRow : OpenClaim := { program := "ytkdffbdnjfgpeaagreat", sum := "dbc5dbe9c7c6f7431214cda009d90ddf244aea6a14fdcca4c97588a16b543f41", func := "tombola/tombolalaw23.HaltNames", spec := "haltNames", inPlace := ["internal/bytealg.abigen_runtime_cmpstring", "math/bits.Add64", "math/bits.Sub64"], unfollowed := true, recurses := true, named := ["math/bits.divideError", "math/bits.overflowError"], apart := false, narrowed := true }
def HaltNamesUptoSaid : Prop := haltNamesUptoRow.holds Tryz.pinned (OpenSpec.upto haltNamesSpec)

/-- 'tombolalaw23.HaltPairs', WHERE WHAT IT READS IS OF BULK AT MOST 1048576: true; the input reads as it did. -/
def haltPairsUptoRow : OpenClaim := { program := "ytkdffbdnjfgpeaagreat", sum := "dbc5dbe9c7c6f7431214cda009d90ddf244aea6a14fdcca4c97588a16b543f41", func := "tombola/tombolalaw23.HaltPairs", spec := "haltPairs", inPlace := ["internal/bytealg.abigen_runtime_cmpstring", "math/bits.Add64", "math/bits.Sub64"], unfollowed := true, recurses := true, named := ["math/bits.divideError", "math/bits.overflowError"], loops := true, apart := false, narrowed := true }
def HaltPairsUptoSaid : Prop := haltPairsUptoRow.holds Tryz.pinned (OpenSpec.upto haltPairsSpec)

/-- 'tombolalaw23.HaltFree', WHERE WHAT IT READS IS OF BULK AT MOST 1048576: true; the input reads as it did. -/
def haltFreeUptoRow : OpenClaim := { program := "ytkdffbdnjfgpeaagreat", sum := "dbc5dbe9c7c6f7431214cda009d90ddf244aea6a14fdcca4c97588a16b543f41", func := "tombola/tombolalaw23.HaltFree", spec := "haltFree", inPlace := ["internal/bytealg.abigen_runtime_cmpstring", "math/bits.Add64", "math/bits.Sub64"], unfollowed := true, recurses := true, named := ["math/bits.divideError", "math/bits.overflowError"], loops := true, apart := false, narrowed := true }
def HaltFreeUptoSaid : Prop := haltFreeUptoRow.holds Tryz.pinned (OpenSpec.upto haltFreeSpec)

/-- 'tombolalaw23.HaltWhole', WHERE WHAT IT READS IS OF BULK AT MOST 1048576: true; the input reads as it did. -/
def haltWholeUptoRow : OpenClaim := { program := "ytkdffbdnjfgpeaagreat", sum := "dbc5dbe9c7c6f7431214cda009d90ddf244aea6a14fdcca4c97588a16b543f41", func := "tombola/tombolalaw23.HaltWhole", spec := "haltWhole", inPlace := ["internal/bytealg.abigen_runtime_cmpstring", "math/bits.Add64", "math/bits.Sub64"], unfollowed := true, recurses := true, named := ["math/bits.divideError", "math/bits.overflowError"], loops := true, apart := false, narrowed := true }
def HaltWholeUptoSaid : Prop := haltWholeUptoRow.holds Tryz.pinned (OpenSpec.upto haltWholeSpec)

/-- 'tombolalaw23.HaltRises', WHERE WHAT IT READS IS OF BULK AT MOST 1048576: true; the input reads as it did. -/
def haltRisesUptoRow : OpenClaim := { program := "ytkdffbdnjfgpeaagreat", sum := "dbc5dbe9c7c6f7431214cda009d90ddf244aea6a14fdcca4c97588a16b543f41", func := "tombola/tombolalaw23.HaltRises", spec := "haltRises", inPlace := ["internal/bytealg.abigen_runtime_cmpstring", "math/bits.Add64", "math/bits.Sub64"], unfollowed := true, recurses := true, named := ["math/bits.divideError", "math/bits.overflowError"], loops := true, apart := false, narrowed := true }
def HaltRisesUptoSaid : Prop := haltRisesUptoRow.holds Tryz.pinned (OpenSpec.upto haltRisesSpec)

end Rows
end Go.Proofs.YtkdffbdnjfgpeaaGreat
