/- What the proofs of the Trial statements need: part 8. -/
import Derived.Scope
import Derived.ScopeJumps
import Derived.WalkMore
import Derived.Test.YtojjdneicmbfjaaGreatQ0
import Derived.Test.YtojjdneicmbfjaaGreatQ4
set_option linter.unusedVariables false
set_option linter.unusedSimpArgs false
namespace Go.Proofs.YtojjdneicmbfjaaGreat
open Go Go.RowKit
def lenOk (n m acc s : Nat) : Prop := lenN n = acc + lenN m ∧ acc + 2 * s ≤ 64 ∧ (s = 32 ∨ s = 16 ∨ s = 8 ∨ s = 4 ∨ s = 2 ∨ s = 1 ∨ s = 0) ∧ m < 2 ^ (2 * s) + (1 - s) ∧ m < 18446744073709551616
set_option maxRecDepth 100000 in
theorem wordLen_any (n : Nat) (w : World) (hn : n < 18446744073709551616) :
  Calls Tryz.prog 171 #[.int .u64 n] w fun e w' => e = .returned (.int .i64 (lenN n)) ∧ Below w.heap.size w w' := by
 go_enter Tryz.func171, Tryz.ntmps171
 go_wp2_with fail
 refine wp_scope_straight ?_
 go_wp2_with fail
 go_step3
 go_wp2_with fail
 go_loopg [0, 3, 4] 33 (fun gk t0 t3 t4 wr => ∃ m acc s : Nat, gk = s + 1 ∧ t0 = .int .u64 m ∧ t3 = .int .i64 acc ∧ t4 = .int .i64 s ∧ lenOk n m acc s ∧ wr = w)
 case atStart => exact ⟨n, 0, 32, by omega, rfl, rfl, rfl, ⟨by omega, by omega, by omega, by omega, hn⟩, rfl⟩
 case round =>
  obtain ⟨m, acc, s, rfl, rfl, rfl, rfl, ⟨h1, h2, h3, h4, h5⟩, rfl⟩ := hrel
  rcases h3 with rfl | rfl | rfl | rfl | rfl | rfl | rfl
  ·go_wp2_with fail
   ·have hd : m / 4294967296 ≠ 0 := by
     have h6 := ‹((m : Int) / 4294967296 != 0) = true›
     simp at h6
     omega
    have he := lenN_shift m 32 hd
    simp only [Nat.reducePow] at he h4
    go_roundg (16 + 1)
    case measure => omega
    case rel => exact ⟨m / 4294967296, acc + 32, 16, by omega, by go_num, by go_num, by go_num, ⟨by omega, by omega, by omega, by simp only [Nat.reduceMul, Nat.reducePow, Nat.reduceSub] at h4 ⊢; omega, by omega⟩, rfl⟩
   ·have hd : m / 4294967296 = 0 := by
     have h6 := ‹((m : Int) / 4294967296 != 0) = false›
     simp at h6
     omega
    go_roundg (16 + 1)
    case measure => omega
    case rel => exact ⟨m, acc, 16, by omega, by go_num, by go_num, by go_num, ⟨by omega, by omega, by omega, by simp only [Nat.reduceMul, Nat.reducePow, Nat.reduceSub] at h4 ⊢; omega, by omega⟩, rfl⟩
  ·go_wp2_with fail
   ·have hd : m / 65536 ≠ 0 := by
     have h6 := ‹((m : Int) / 65536 != 0) = true›
     simp at h6
     omega
    have he := lenN_shift m 16 hd
    simp only [Nat.reducePow] at he h4
    go_roundg (8 + 1)
    case measure => omega
    case rel => exact ⟨m / 65536, acc + 16, 8, by omega, by go_num, by go_num, by go_num, ⟨by omega, by omega, by omega, by simp only [Nat.reduceMul, Nat.reducePow, Nat.reduceSub] at h4 ⊢; omega, by omega⟩, rfl⟩
   ·have hd : m / 65536 = 0 := by
     have h6 := ‹((m : Int) / 65536 != 0) = false›
     simp at h6
     omega
    go_roundg (8 + 1)
    case measure => omega
    case rel => exact ⟨m, acc, 8, by omega, by go_num, by go_num, by go_num, ⟨by omega, by omega, by omega, by simp only [Nat.reduceMul, Nat.reducePow, Nat.reduceSub] at h4 ⊢; omega, by omega⟩, rfl⟩
  ·go_wp2_with fail
   ·have hd : m / 256 ≠ 0 := by
     have h6 := ‹((m : Int) / 256 != 0) = true›
     simp at h6
     omega
    have he := lenN_shift m 8 hd
    simp only [Nat.reducePow] at he h4
    go_roundg (4 + 1)
    case measure => omega
    case rel => exact ⟨m / 256, acc + 8, 4, by omega, by go_num, by go_num, by go_num, ⟨by omega, by omega, by omega, by simp only [Nat.reduceMul, Nat.reducePow, Nat.reduceSub] at h4 ⊢; omega, by omega⟩, rfl⟩
   ·have hd : m / 256 = 0 := by
     have h6 := ‹((m : Int) / 256 != 0) = false›
     simp at h6
     omega
    go_roundg (4 + 1)
    case measure => omega
    case rel => exact ⟨m, acc, 4, by omega, by go_num, by go_num, by go_num, ⟨by omega, by omega, by omega, by simp only [Nat.reduceMul, Nat.reducePow, Nat.reduceSub] at h4 ⊢; omega, by omega⟩, rfl⟩
  ·go_wp2_with fail
   ·have hd : m / 16 ≠ 0 := by
     have h6 := ‹((m : Int) / 16 != 0) = true›
     simp at h6
     omega
    have he := lenN_shift m 4 hd
    simp only [Nat.reducePow] at he h4
    go_roundg (2 + 1)
    case measure => omega
    case rel => exact ⟨m / 16, acc + 4, 2, by omega, by go_num, by go_num, by go_num, ⟨by omega, by omega, by omega, by simp only [Nat.reduceMul, Nat.reducePow, Nat.reduceSub] at h4 ⊢; omega, by omega⟩, rfl⟩
   ·have hd : m / 16 = 0 := by
     have h6 := ‹((m : Int) / 16 != 0) = false›
     simp at h6
     omega
    go_roundg (2 + 1)
    case measure => omega
    case rel => exact ⟨m, acc, 2, by omega, by go_num, by go_num, by go_num, ⟨by omega, by omega, by omega, by simp only [Nat.reduceMul, Nat.reducePow, Nat.reduceSub] at h4 ⊢; omega, by omega⟩, rfl⟩
  ·go_wp2_with fail
   ·have hd : m / 4 ≠ 0 := by
     have h6 := ‹((m : Int) / 4 != 0) = true›
     simp at h6
     omega
    have he := lenN_shift m 2 hd
    simp only [Nat.reducePow] at he h4
    go_roundg (1 + 1)
    case measure => omega
    case rel => exact ⟨m / 4, acc + 2, 1, by omega, by go_num, by go_num, by go_num, ⟨by omega, by omega, by omega, by simp only [Nat.reduceMul, Nat.reducePow, Nat.reduceSub] at h4 ⊢; omega, by omega⟩, rfl⟩
   ·have hd : m / 4 = 0 := by
     have h6 := ‹((m : Int) / 4 != 0) = false›
     simp at h6
     omega
    go_roundg (1 + 1)
    case measure => omega
    case rel => exact ⟨m, acc, 1, by omega, by go_num, by go_num, by go_num, ⟨by omega, by omega, by omega, by simp only [Nat.reduceMul, Nat.reducePow, Nat.reduceSub] at h4 ⊢; omega, by omega⟩, rfl⟩
  ·go_wp2_with fail
   ·have hd : m / 2 ≠ 0 := by
     have h6 := ‹((m : Int) / 2 != 0) = true›
     simp at h6
     omega
    have he := lenN_shift m 1 hd
    simp only [Nat.reducePow] at he h4
    go_roundg (0 + 1)
    case measure => omega
    case rel => exact ⟨m / 2, acc + 1, 0, by omega, by go_num, by go_num, by go_num, ⟨by omega, by omega, by omega, by simp only [Nat.reduceMul, Nat.reducePow, Nat.reduceSub] at h4 ⊢; omega, by omega⟩, rfl⟩
   ·have hd : m / 2 = 0 := by
     have h6 := ‹((m : Int) / 2 != 0) = false›
     simp at h6
     omega
    go_roundg (0 + 1)
    case measure => omega
    case rel => exact ⟨m, acc, 0, by omega, by go_num, by go_num, by go_num, ⟨by omega, by omega, by omega, by simp only [Nat.reduceMul, Nat.reducePow, Nat.reduceSub] at h4 ⊢; omega, by omega⟩, rfl⟩
  ·simp only [Nat.mul_zero, Nat.pow_zero] at h4
   have he := lenN_small m (by omega)
   go_wp2_with fail
   rw [Exit.noGoto_ret]
   go_ret
   exact ⟨ret_int (by omega), Below.z⟩
end Go.Proofs.YtojjdneicmbfjaaGreat
