/- What the proofs of the Trial statements need: part 46. -/
import Derived.ProofKit
import Derived.Test.YtojjdneicmbfjaaGreatQ17
import Derived.Test.YtojjdneicmbfjaaGreatQ21
import Derived.Test.YtojjdneicmbfjaaGreatQ43
set_option linter.unusedVariables false
set_option linter.unusedSimpArgs false
namespace Go.Proofs.YtojjdneicmbfjaaGreat
open Go Go.RowKit
def b6 (a b c d e f : UInt8) : ByteArray := ⟨#[a, b, c, d, e, f]⟩
def tr1 : List GR := [⟨0, 3, ⟨1, 0, []⟩⟩, ⟨3, 6, ⟨1, 7, []⟩⟩]
set_option maxRecDepth 1000000 in
theorem ev1 : cutE (spanT 0 7) (lessP 5) (b6 48 48 48 49 49 49) 5 = 0 := by decide +kernel
theorem ev2 : cutT (b6 48 48 48 49 49 49) (spanT 0 7) (lessP 5) 5 0 = (tr1, 1) := by kernel_rfl
set_option maxRecDepth 1000000 in
theorem ev3 : cutE (spanT 0 7) (lessP 5) ByteArray.empty 1001 = 1 := by decide +kernel
set_option maxRecDepth 1000000 in
theorem ev4 : sameRs 0 tr1 tr1 = true := by decide +kernel
set_option maxRecDepth 1000000 in
theorem ev5 : cutE (spanT 0 7) (lessP 5) (b6 48 48 48 48 48 49) 5 = 0 ∧ cutE (spanT 0 7) (lessP 5) (b6 48 48 48 49 49 49) 1 = 0 ∧ cutE (spanT 0 7) (lessP 5) (b6 48 48 48 49 49 49) 0 = 0 ∧ cutE (numT 1) yesP ByteArray.empty 3 = 0 := by decide +kernel
def tr2 : List GR := [⟨0, 3, ⟨1, 0, []⟩⟩, ⟨3, 6, ⟨1, 1, []⟩⟩]
theorem ev6 : cutT (b6 48 48 48 48 48 49) (spanT 0 7) (lessP 5) 5 0 = (tr2, 3) := by kernel_rfl
def tr3 : List GR := [⟨0, 3, ⟨1, 0, []⟩⟩]
theorem ev7 : cutT (b6 48 48 48 49 49 49) (spanT 0 7) (lessP 5) 1 0 = (tr3, 2) := by kernel_rfl
theorem ev8 : cutT (b6 48 48 48 49 49 49) (spanT 0 7) (lessP 5) 0 0 = ([], 2) := by kernel_rfl
def tr4 : List GR := [⟨0, 0, ⟨1, 1, []⟩⟩, ⟨0, 0, ⟨1, 1, []⟩⟩, ⟨0, 0, ⟨1, 1, []⟩⟩]
theorem ev9 : cutT ByteArray.empty (numT 1) yesP 3 0 = (tr4, 2) := by kernel_rfl
end Go.Proofs.YtojjdneicmbfjaaGreat
namespace Go.Proofs.YtojjdneicmbfjaaGreat
open Go Go.RowKit
def nP : GP := ⟨2, noV, 0, []⟩
def kP (k : Int) : GP := ⟨k, noV, 0, []⟩
def stuckT : GT := ⟨9, noV, [], 0, 0, [], nP, [numT 1]⟩
def halfT : GT := ⟨3, noV, [], 0, 0, [1, 1], noP, [stuckT, numT 1]⟩
def kT (k : Int) : GT := ⟨k, noV, [], 0, 0, [], noP, []⟩
def b2 (a b : UInt8) : ByteArray := ⟨#[a, b]⟩
def b1 (a : UInt8) : ByteArray := ⟨#[a]⟩
/-- of a run of trials: none is wrong, so many, such an end, and the last one's end -/
def Ex (t : GT) (p : GP) (s : ByteArray) (N : Nat) (en : Int) (many : Nat) (to : Int) : Prop :=
 cutE t p s N = 0 ∧ (cutT s t p N 0).2 = en ∧ (cutT s t p N 0).1.length = many ∧ (many ≠ 0 → ((cutT s t p N 0).1.map GR.t)[many - 1]? = some to)
set_option maxRecDepth 1000000 in
theorem ex1 : Ex stuckT yesP ByteArray.empty 5 4 0 0 := ⟨by decide +kernel, by kernel_rfl, by kernel_rfl, fun h => absurd rfl h⟩
set_option maxRecDepth 1000000 in
theorem ex2 : Ex stuckT yesP ByteArray.empty 0 2 0 0 := ⟨by decide +kernel, by kernel_rfl, by kernel_rfl, fun h => absurd rfl h⟩
set_option maxRecDepth 1000000 in
theorem ex3 : Ex halfT yesP ⟨#[49, 49, 48, 49]⟩ 5 4 2 2 := ⟨by decide +kernel, by kernel_rfl, by kernel_rfl, fun _ => by kernel_rfl⟩
set_option maxRecDepth 1000000 in
theorem ex4 : Ex halfT yesP ⟨#[49, 49]⟩ 5 3 2 2 := ⟨by decide +kernel, by kernel_rfl, by kernel_rfl, fun _ => by kernel_rfl⟩
set_option maxRecDepth 1000000 in
theorem ex5 : Ex halfT yesP ⟨#[49, 49]⟩ 2 2 2 2 := ⟨by decide +kernel, by kernel_rfl, by kernel_rfl, fun _ => by kernel_rfl⟩
set_option maxRecDepth 1000000 in
theorem ex6 : Ex halfT nP ⟨#[49, 49]⟩ 2 1 1 1 := ⟨by decide +kernel, by kernel_rfl, by kernel_rfl, fun _ => by kernel_rfl⟩
set_option maxRecDepth 1000000 in
theorem ex7 : Ex halfT nP ByteArray.empty 2 3 0 0 := ⟨by decide +kernel, by kernel_rfl, by kernel_rfl, fun h => absurd rfl h⟩
set_option maxRecDepth 1000000 in
theorem ex8 : Ex (numT 1) yesP ⟨#[48, 49]⟩ 1000 2 1000 0 := ⟨by decide +kernel, by kernel_rfl, by kernel_rfl, fun _ => by kernel_rfl⟩
set_option maxRecDepth 1000000 in
theorem ex9 : Ex (numT 1) nP ByteArray.empty 1000 1 1 0 := ⟨by decide +kernel, by kernel_rfl, by kernel_rfl, fun _ => by kernel_rfl⟩
set_option maxRecDepth 1000000 in
theorem er1 : cutE (kT 0) (kP 99) ⟨#[50]⟩ (-1) = 11 := by decide +kernel
set_option maxRecDepth 1000000 in
theorem er2 : cutE (numT 1) (kP 99) ⟨#[50]⟩ (-1) = 3 := by decide +kernel
set_option maxRecDepth 1000000 in
theorem er3 : cutE (numT 1) (kP 5) ⟨#[49]⟩ (-1) = 4 := by decide +kernel
set_option maxRecDepth 1000000 in
theorem er4 : cutE (numT 1) yesP ⟨#[49]⟩ (-1) = 1 := by decide +kernel
set_option maxRecDepth 1000000 in
theorem er5 : cutE (numT 1) yesP ⟨#[49]⟩ 1001 = 1 := by decide +kernel
set_option maxRecDepth 1000000 in
theorem er6 : cutE (kT 11) yesP ByteArray.empty 0 = 10 := by decide +kernel
end Go.Proofs.YtojjdneicmbfjaaGreat
