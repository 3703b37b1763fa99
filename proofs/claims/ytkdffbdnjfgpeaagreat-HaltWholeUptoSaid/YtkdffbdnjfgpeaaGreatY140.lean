/- Supplement. -/
import Derived.Test.YtkdffbdnjfgpeaaGreatY40
set_option linter.all false
namespace Go.Proofs.YtkdffbdnjfgpeaaGreat
open Go Go.RowKit
theorem getD_limbs (x : Nat) : (W7 x).getD 0 0 = x := by
  unfold W7
  split
  · rename_i h; rw [h]; rfl
  · rfl
end Go.Proofs.YtkdffbdnjfgpeaaGreat
