/- Part 145. -/
import Derived.Laws.Bits64b
import Derived.Laws.Externs
import Derived.Test.YtkdffbdnjfgpeaaGreatY40
import Derived.Test.YtkdffbdnjfgpeaaGreatY140
set_option linter.all false
namespace Go.Proofs.YtkdffbdnjfgpeaaGreat
open Go Go.RowKit
theorem add64c (x y : Nat) (h : x + y < 18446744073709551616) (w : World) : (callFunc 175 #[.int .u64 x, .int .u64 y, .int .u64 0]).run Tryz.prog w = .ok (.value (.tuple #[.int .u64 (x + y : Nat), .int .u64 0])) w := by
  rw [run_callFunc_extern Tryz.func175 (by kernel_rfl) (by kernel_rfl) (by kernel_rfl) (e := add64Entry) (by kernel_rfl), run_add64 x y 0 (by omega) (by omega) (by omega) (by omega)]
  have e1 : ((x : Int) + (y : Int) + 0) % 18446744073709551616 = ((x + y : Nat) : Int) := by omega
  have e2 : ((x : Int) + (y : Int) + 0) / 18446744073709551616 = 0 := by omega
  simp only [Result.andThen, e1, e2]
theorem wone_any (w : World) : Calls Tryz.prog 176 #[.int .u64 0] w fun e w' => e = .returned (.int .u64 0) ∧ w = w' := by
  go_enter Tryz.func176, Tryz.ntmps176
  go_wp2_with fail
  go_ret
  exact ⟨rfl, rfl⟩
theorem wadd_any (x y : Nat) (w : World) (h : x + y < 18446744073709551616) :
    Calls Tryz.prog 104 #[.int .u64 x, .int .u64 y, .int .u64 0] w fun e w' => e = .returned (.tuple #[.int .u64 (x + y : Nat), .int .u64 0]) ∧ w = w' := by
  have HC := add64c x y h
  generalize x + y = z at *
  go_enter Tryz.func104, Tryz.ntmps104
  go_wp2_with (first
    | (go_at_call 176; refine (wone_any _).mono ?_; rintro e w1 ⟨rfl, rfl⟩)
    | simp only [HC])
  go_ret2
  exact ⟨rfl, rfl⟩
theorem and_low {x : Nat} (h : x < 4294967296) : x &&& 4294967295 = x := by
  have := Nat.and_two_pow_sub_one_of_lt_two_pow (n := 32) (x := x) (by omega)
  simpa using this
set_option maxRecDepth 100000 in
theorem mul64_any (x y : Nat) (w : World) (hx : x < 4294967296) (hy : y < 4294967296) (hm : x * y < 4294967296) :
    Calls Tryz.prog 174 #[.int .u64 x, .int .u64 y] w fun e w' => e = .returned (.tuple #[.int .u64 0, .int .u64 (x * y : Nat)]) ∧ w = w' := by
  have a1 : bits .and .u64 (x : Int) 4294967295 = (x : Int) := by rw [show (4294967295 : Int) = ((4294967295 : Nat) : Int) from rfl, bits_and_u64_nat x 4294967295 (by omega) (by omega), and_low hx]
  have a2 : bits .and .u64 (y : Int) 4294967295 = (y : Int) := by rw [show (4294967295 : Int) = ((4294967295 : Nat) : Int) from rfl, bits_and_u64_nat y 4294967295 (by omega) (by omega), and_low hy]
  obtain ⟨z, hz⟩ : ∃ z : Nat, z = x * y := ⟨_, rfl⟩
  have hzI : (x : Int) * (y : Int) = (z : Int) := by rw [hz]; simp
  rw [← hz] at hm ⊢
  clear hz
  have a0 : bits .and .u64 0 4294967295 = 0 := by rfl
  have q1 : (x : Int) / 4294967296 = 0 := by omega
  have q2 : (y : Int) / 4294967296 = 0 := by omega
  have q3 : (z : Int) / 4294967296 = 0 := by omega
  have zw : IntKind.u64.wrap (z : Int) = (z : Int) := IntWalk.u64_in _ (by omega)
  go_enter Tryz.func174, Tryz.ntmps174
  go_wp2_with fail
  go_ret2
  exact ⟨rfl, rfl⟩
theorem wmul_any (x y : Nat) (w : World) (hx : x < 4294967296) (hy : y < 4294967296) (hm : x * y < 4294967296) :
    Calls Tryz.prog 103 #[.int .u64 x, .int .u64 y] w fun e w' => e = .returned (.tuple #[.int .u64 0, .int .u64 (x * y : Nat)]) ∧ w = w' := by
  have HC := Lib.hid (fun W => mul64_any x y W hx hy hm)
  generalize x * y = z at *
  go_enter Tryz.func103, Tryz.ntmps103
  go_wp2_with (go_at_call 174; refine (HC.out _).mono ?_; rintro e w1 ⟨rfl, rfl⟩)
  go_ret2
  exact ⟨rfl, rfl⟩
theorem add1_any (x y B : Nat) (w : World) (h : x + y < 18446744073709551616) (h0 : w.cell? ⟨B, 0, none⟩ = some (.int .u64 0)) (hf : w.frozen? ⟨B, 0, none⟩ = false) :
    Calls Tryz.prog 235 #[.int .u64 x, .int .u64 y, .pointer (some ⟨B, 0, none⟩)] w fun e w' => e = .returned (.int .u64 (x + y : Nat)) ∧ w' = w.setCell ⟨B, 0, none⟩ (.int .u64 0) := by
  have HC := Lib.hid (fun W => wadd_any x y W h)
  generalize x + y = z at *
  go_enter Tryz.func235, Tryz.ntmps235
  go_wp2_with (go_at_call 104; refine (HC.out _).mono ?_; rintro e w1 ⟨rfl, rfl⟩)
  go_ret
  exact ⟨rfl, rfl⟩
theorem mkNat2 (w : World) : (Instr.makeSlice 45 (.int .i64 2) (.int .i64 2)).run Tryz.prog w = .ok (.slice (some ⟨w.heap.size, 0, none⟩) 2 2) (w.alloc (.cells #[.int .u64 0, .int .u64 0] 84)) := by
  have h := run_make_row' 45 84 (.int .u64 0) 8 Tryz.underlying45 ZpI rfl .i64 .i64 2 (by omega) (by omega) w
  rw [show madeCells #[Value.int .u64 0] 2 = #[Value.int .u64 0, Value.int .u64 0] by kernel_rfl] at h
  exact h
end Go.Proofs.YtkdffbdnjfgpeaaGreat
