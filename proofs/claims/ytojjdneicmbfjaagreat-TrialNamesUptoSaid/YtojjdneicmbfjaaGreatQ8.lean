/- What the proofs of the Trial statements need: part 9. -/
import Derived.IntWalk
import Derived.Test.YtojjdneicmbfjaaGreatQ7
set_option linter.unusedVariables false
set_option linter.unusedSimpArgs false
namespace Go.Proofs.YtojjdneicmbfjaaGreat
open Go Go.RowKit
/-- how many bits are read for a number below n -/
def widthN (n : Nat) : Nat := if n = 0 then 0 else lenN (n - 1)
theorem width_any (n : Nat) (w : World) (hn : n < 18446744073709551616) :
  Calls Tryz.prog 167 #[.int .u64 n] w fun e w' => e = .returned (.int .i64 (widthN n)) ∧ Below w.heap.size w w' := by
 unfold widthN
 by_cases h : n = 0
 ·subst h
  rw [if_pos rfl]
  go_enter Tryz.func167, Tryz.ntmps167
  go_wp2_with fail
  go_ret
  exact ⟨rfl, Below.z⟩
 ·rw [if_neg h]
  have h1 : ((n : Int) == 0) = false := by simp; omega
  have h2 : IntKind.u64.wrap ((n : Int) - 1) = ((n - 1 : Nat) : Int) := by rw [IntKind.wrap_u64]; omega
  have hn1 : n - 1 < 18446744073709551616 := by omega
  generalize n - 1 = m at *
  clear h
  go_enter Tryz.func167, Tryz.ntmps167
  go_wp2_with (go_at_call 171; refine (wordLen_any m _ hn1).mono ?_; rintro e w1 ⟨rfl, hb⟩; have hB1 := hb; clear hb; obtain ⟨hc1, hf1⟩ := bcells hB1)
  go_ret
  exact ⟨rfl, Below.z⟩
end Go.Proofs.YtojjdneicmbfjaaGreat
