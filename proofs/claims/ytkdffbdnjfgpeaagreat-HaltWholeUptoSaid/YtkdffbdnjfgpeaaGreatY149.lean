/- Part 150. -/
import Derived.Test.YtkdffbdnjfgpeaaGreatY148
import Derived.Test.YtkdffbdnjfgpeaaGreatY140
set_option linter.all false
namespace Go.Proofs.YtkdffbdnjfgpeaaGreat
open Go Go.RowKit
theorem nmay_any (m : Nat) (w : World) (hm : m ≤ 8) : Calls Tryz.prog 107 #[.int .i64 m] w fun e w' => e = .returned (.bool true) ∧ w = w' := by
  have h1 : (0 : Int) ≤ (m : Int) := by omega
  have h2 : (m : Int) ≤ 65536 := by omega
  go_enter Tryz.func107, Tryz.ntmps107
  go_wp2_with fail
  go_ret
  exact ⟨rfl, rfl⟩
def LB (a : Option Addr) (c : Nat) : Prop := ∀ W : World, RL W (fun _ => True) [1] a → (Calls Tryz.prog 179 #[.slice a 1 c, .int .i64 0] W fun e w' => e = .returned (.int .u64 1) ∧ W = w') ∧ (Calls Tryz.prog 179 #[.slice a 1 c, .int .i64 1] W fun e w' => e = .returned (.int .u64 0) ∧ W = w') ∧ (Calls Tryz.prog 179 #[.slice a 1 c, .int .i64 (-1)] W fun e w' => e = .returned (.int .u64 0) ∧ W = w') ∧ (Calls Tryz.prog 179 #[.slice a 1 c, .int .i64 2] W fun e w' => e = .returned (.int .u64 0) ∧ W = w')
theorem lb_any (a : Option Addr) (c : Nat) : LB a c := fun W h => by
  have l0 := ZpS [1] 0 W (fun _ => True) a c (by simp) (by unfold Zv; omega) h
  have l1 := ZpS [1] 1 W (fun _ => True) a c (by simp) (by unfold Zv; omega) h
  have l2 := ZpS [1] (-1) W (fun _ => True) a c (by simp) (by unfold Zv; omega) h
  have l3 := ZpS [1] 2 W (fun _ => True) a c (by simp) (by unfold Zv; omega) h
  exact ⟨l0, l1, l2, l3⟩
theorem from_0_0 (w : World) (a : Option Addr) (c : Nat) (hr : RL w (fun _ => True) [1] a) : Calls Tryz.prog 178 #[.slice a 1 c, .int .i64 (0)] w fun e w' => e = .returned (.int .u64 1) ∧ w = w' := by
  obtain ⟨h0, h1, h2, h3⟩ := lb_any a c w hr
  have H0 := Lib.hid h0
  have H1 := Lib.hid h1
  have H2 := Lib.hid h2
  have H3 := Lib.hid h3
  clear h0 h1 h2 h3 hr
  go_enter Tryz.func178, Tryz.ntmps178
  go_wp2_with (first
    | (go_at_call 179; (with_reducible refine (H0.out).mono ?_); rintro e w1 ⟨rfl, rfl⟩)
    | (go_at_call 179; (with_reducible refine (H1.out).mono ?_); rintro e w1 ⟨rfl, rfl⟩)
    | (go_at_call 179; (with_reducible refine (H2.out).mono ?_); rintro e w1 ⟨rfl, rfl⟩)
    | (go_at_call 179; (with_reducible refine (H3.out).mono ?_); rintro e w1 ⟨rfl, rfl⟩)
    | fail "no arm")
  go_ret
  exact ⟨rfl, rfl⟩
theorem from_1_0 (w : World) (a : Option Addr) (c : Nat) (hr : RL w (fun _ => True) [1] a) : Calls Tryz.prog 178 #[.slice a 1 c, .int .i64 (64)] w fun e w' => e = .returned (.int .u64 0) ∧ w = w' := by
  obtain ⟨h0, h1, h2, h3⟩ := lb_any a c w hr
  have H0 := Lib.hid h0
  have H1 := Lib.hid h1
  have H2 := Lib.hid h2
  have H3 := Lib.hid h3
  clear h0 h1 h2 h3 hr
  go_enter Tryz.func178, Tryz.ntmps178
  go_wp2_with (first
    | (go_at_call 179; (with_reducible refine (H0.out).mono ?_); rintro e w1 ⟨rfl, rfl⟩)
    | (go_at_call 179; (with_reducible refine (H1.out).mono ?_); rintro e w1 ⟨rfl, rfl⟩)
    | (go_at_call 179; (with_reducible refine (H2.out).mono ?_); rintro e w1 ⟨rfl, rfl⟩)
    | (go_at_call 179; (with_reducible refine (H3.out).mono ?_); rintro e w1 ⟨rfl, rfl⟩)
    | fail "no arm")
  go_ret
  exact ⟨rfl, rfl⟩
theorem from_0_1 (w : World) (a : Option Addr) (c : Nat) (hr : RL w (fun _ => True) [1] a) : Calls Tryz.prog 178 #[.slice a 1 c, .int .i64 (-1)] w fun e w' => e = .returned (.int .u64 2) ∧ w = w' := by
  obtain ⟨h0, h1, h2, h3⟩ := lb_any a c w hr
  have H0 := Lib.hid h0
  have H1 := Lib.hid h1
  have H2 := Lib.hid h2
  have H3 := Lib.hid h3
  clear h0 h1 h2 h3 hr
  go_enter Tryz.func178, Tryz.ntmps178
  go_wp2_with (first
    | (go_at_call 179; (with_reducible refine (H0.out).mono ?_); rintro e w1 ⟨rfl, rfl⟩)
    | (go_at_call 179; (with_reducible refine (H1.out).mono ?_); rintro e w1 ⟨rfl, rfl⟩)
    | (go_at_call 179; (with_reducible refine (H2.out).mono ?_); rintro e w1 ⟨rfl, rfl⟩)
    | (go_at_call 179; (with_reducible refine (H3.out).mono ?_); rintro e w1 ⟨rfl, rfl⟩)
    | fail "no arm")
  go_ret
  exact ⟨rfl, rfl⟩
theorem from_1_1 (w : World) (a : Option Addr) (c : Nat) (hr : RL w (fun _ => True) [1] a) : Calls Tryz.prog 178 #[.slice a 1 c, .int .i64 (63)] w fun e w' => e = .returned (.int .u64 0) ∧ w = w' := by
  obtain ⟨h0, h1, h2, h3⟩ := lb_any a c w hr
  have H0 := Lib.hid h0
  have H1 := Lib.hid h1
  have H2 := Lib.hid h2
  have H3 := Lib.hid h3
  clear h0 h1 h2 h3 hr
  go_enter Tryz.func178, Tryz.ntmps178
  go_wp2_with (first
    | (go_at_call 179; (with_reducible refine (H0.out).mono ?_); rintro e w1 ⟨rfl, rfl⟩)
    | (go_at_call 179; (with_reducible refine (H1.out).mono ?_); rintro e w1 ⟨rfl, rfl⟩)
    | (go_at_call 179; (with_reducible refine (H2.out).mono ?_); rintro e w1 ⟨rfl, rfl⟩)
    | (go_at_call 179; (with_reducible refine (H3.out).mono ?_); rintro e w1 ⟨rfl, rfl⟩)
    | fail "no arm")
  go_ret
  exact ⟨rfl, rfl⟩
theorem from_0_2 (w : World) (a : Option Addr) (c : Nat) (hr : RL w (fun _ => True) [1] a) : Calls Tryz.prog 178 #[.slice a 1 c, .int .i64 (-2)] w fun e w' => e = .returned (.int .u64 4) ∧ w = w' := by
  obtain ⟨h0, h1, h2, h3⟩ := lb_any a c w hr
  have H0 := Lib.hid h0
  have H1 := Lib.hid h1
  have H2 := Lib.hid h2
  have H3 := Lib.hid h3
  clear h0 h1 h2 h3 hr
  go_enter Tryz.func178, Tryz.ntmps178
  go_wp2_with (first
    | (go_at_call 179; (with_reducible refine (H0.out).mono ?_); rintro e w1 ⟨rfl, rfl⟩)
    | (go_at_call 179; (with_reducible refine (H1.out).mono ?_); rintro e w1 ⟨rfl, rfl⟩)
    | (go_at_call 179; (with_reducible refine (H2.out).mono ?_); rintro e w1 ⟨rfl, rfl⟩)
    | (go_at_call 179; (with_reducible refine (H3.out).mono ?_); rintro e w1 ⟨rfl, rfl⟩)
    | fail "no arm")
  go_ret
  exact ⟨rfl, rfl⟩
theorem from_1_2 (w : World) (a : Option Addr) (c : Nat) (hr : RL w (fun _ => True) [1] a) : Calls Tryz.prog 178 #[.slice a 1 c, .int .i64 (62)] w fun e w' => e = .returned (.int .u64 0) ∧ w = w' := by
  obtain ⟨h0, h1, h2, h3⟩ := lb_any a c w hr
  have H0 := Lib.hid h0
  have H1 := Lib.hid h1
  have H2 := Lib.hid h2
  have H3 := Lib.hid h3
  clear h0 h1 h2 h3 hr
  go_enter Tryz.func178, Tryz.ntmps178
  go_wp2_with (first
    | (go_at_call 179; (with_reducible refine (H0.out).mono ?_); rintro e w1 ⟨rfl, rfl⟩)
    | (go_at_call 179; (with_reducible refine (H1.out).mono ?_); rintro e w1 ⟨rfl, rfl⟩)
    | (go_at_call 179; (with_reducible refine (H2.out).mono ?_); rintro e w1 ⟨rfl, rfl⟩)
    | (go_at_call 179; (with_reducible refine (H3.out).mono ?_); rintro e w1 ⟨rfl, rfl⟩)
    | fail "no arm")
  go_ret
  exact ⟨rfl, rfl⟩
theorem from_0_3 (w : World) (a : Option Addr) (c : Nat) (hr : RL w (fun _ => True) [1] a) : Calls Tryz.prog 178 #[.slice a 1 c, .int .i64 (-3)] w fun e w' => e = .returned (.int .u64 8) ∧ w = w' := by
  obtain ⟨h0, h1, h2, h3⟩ := lb_any a c w hr
  have H0 := Lib.hid h0
  have H1 := Lib.hid h1
  have H2 := Lib.hid h2
  have H3 := Lib.hid h3
  clear h0 h1 h2 h3 hr
  go_enter Tryz.func178, Tryz.ntmps178
  go_wp2_with (first
    | (go_at_call 179; (with_reducible refine (H0.out).mono ?_); rintro e w1 ⟨rfl, rfl⟩)
    | (go_at_call 179; (with_reducible refine (H1.out).mono ?_); rintro e w1 ⟨rfl, rfl⟩)
    | (go_at_call 179; (with_reducible refine (H2.out).mono ?_); rintro e w1 ⟨rfl, rfl⟩)
    | (go_at_call 179; (with_reducible refine (H3.out).mono ?_); rintro e w1 ⟨rfl, rfl⟩)
    | fail "no arm")
  go_ret
  exact ⟨rfl, rfl⟩
theorem from_1_3 (w : World) (a : Option Addr) (c : Nat) (hr : RL w (fun _ => True) [1] a) : Calls Tryz.prog 178 #[.slice a 1 c, .int .i64 (61)] w fun e w' => e = .returned (.int .u64 0) ∧ w = w' := by
  obtain ⟨h0, h1, h2, h3⟩ := lb_any a c w hr
  have H0 := Lib.hid h0
  have H1 := Lib.hid h1
  have H2 := Lib.hid h2
  have H3 := Lib.hid h3
  clear h0 h1 h2 h3 hr
  go_enter Tryz.func178, Tryz.ntmps178
  go_wp2_with (first
    | (go_at_call 179; (with_reducible refine (H0.out).mono ?_); rintro e w1 ⟨rfl, rfl⟩)
    | (go_at_call 179; (with_reducible refine (H1.out).mono ?_); rintro e w1 ⟨rfl, rfl⟩)
    | (go_at_call 179; (with_reducible refine (H2.out).mono ?_); rintro e w1 ⟨rfl, rfl⟩)
    | (go_at_call 179; (with_reducible refine (H3.out).mono ?_); rintro e w1 ⟨rfl, rfl⟩)
    | fail "no arm")
  go_ret
  exact ⟨rfl, rfl⟩
theorem from_0_4 (w : World) (a : Option Addr) (c : Nat) (hr : RL w (fun _ => True) [1] a) : Calls Tryz.prog 178 #[.slice a 1 c, .int .i64 (-4)] w fun e w' => e = .returned (.int .u64 16) ∧ w = w' := by
  obtain ⟨h0, h1, h2, h3⟩ := lb_any a c w hr
  have H0 := Lib.hid h0
  have H1 := Lib.hid h1
  have H2 := Lib.hid h2
  have H3 := Lib.hid h3
  clear h0 h1 h2 h3 hr
  go_enter Tryz.func178, Tryz.ntmps178
  go_wp2_with (first
    | (go_at_call 179; (with_reducible refine (H0.out).mono ?_); rintro e w1 ⟨rfl, rfl⟩)
    | (go_at_call 179; (with_reducible refine (H1.out).mono ?_); rintro e w1 ⟨rfl, rfl⟩)
    | (go_at_call 179; (with_reducible refine (H2.out).mono ?_); rintro e w1 ⟨rfl, rfl⟩)
    | (go_at_call 179; (with_reducible refine (H3.out).mono ?_); rintro e w1 ⟨rfl, rfl⟩)
    | fail "no arm")
  go_ret
  exact ⟨rfl, rfl⟩
theorem from_1_4 (w : World) (a : Option Addr) (c : Nat) (hr : RL w (fun _ => True) [1] a) : Calls Tryz.prog 178 #[.slice a 1 c, .int .i64 (60)] w fun e w' => e = .returned (.int .u64 0) ∧ w = w' := by
  obtain ⟨h0, h1, h2, h3⟩ := lb_any a c w hr
  have H0 := Lib.hid h0
  have H1 := Lib.hid h1
  have H2 := Lib.hid h2
  have H3 := Lib.hid h3
  clear h0 h1 h2 h3 hr
  go_enter Tryz.func178, Tryz.ntmps178
  go_wp2_with (first
    | (go_at_call 179; (with_reducible refine (H0.out).mono ?_); rintro e w1 ⟨rfl, rfl⟩)
    | (go_at_call 179; (with_reducible refine (H1.out).mono ?_); rintro e w1 ⟨rfl, rfl⟩)
    | (go_at_call 179; (with_reducible refine (H2.out).mono ?_); rintro e w1 ⟨rfl, rfl⟩)
    | (go_at_call 179; (with_reducible refine (H3.out).mono ?_); rintro e w1 ⟨rfl, rfl⟩)
    | fail "no arm")
  go_ret
  exact ⟨rfl, rfl⟩
theorem from_0_5 (w : World) (a : Option Addr) (c : Nat) (hr : RL w (fun _ => True) [1] a) : Calls Tryz.prog 178 #[.slice a 1 c, .int .i64 (-5)] w fun e w' => e = .returned (.int .u64 32) ∧ w = w' := by
  obtain ⟨h0, h1, h2, h3⟩ := lb_any a c w hr
  have H0 := Lib.hid h0
  have H1 := Lib.hid h1
  have H2 := Lib.hid h2
  have H3 := Lib.hid h3
  clear h0 h1 h2 h3 hr
  go_enter Tryz.func178, Tryz.ntmps178
  go_wp2_with (first
    | (go_at_call 179; (with_reducible refine (H0.out).mono ?_); rintro e w1 ⟨rfl, rfl⟩)
    | (go_at_call 179; (with_reducible refine (H1.out).mono ?_); rintro e w1 ⟨rfl, rfl⟩)
    | (go_at_call 179; (with_reducible refine (H2.out).mono ?_); rintro e w1 ⟨rfl, rfl⟩)
    | (go_at_call 179; (with_reducible refine (H3.out).mono ?_); rintro e w1 ⟨rfl, rfl⟩)
    | fail "no arm")
  go_ret
  exact ⟨rfl, rfl⟩
theorem from_1_5 (w : World) (a : Option Addr) (c : Nat) (hr : RL w (fun _ => True) [1] a) : Calls Tryz.prog 178 #[.slice a 1 c, .int .i64 (59)] w fun e w' => e = .returned (.int .u64 0) ∧ w = w' := by
  obtain ⟨h0, h1, h2, h3⟩ := lb_any a c w hr
  have H0 := Lib.hid h0
  have H1 := Lib.hid h1
  have H2 := Lib.hid h2
  have H3 := Lib.hid h3
  clear h0 h1 h2 h3 hr
  go_enter Tryz.func178, Tryz.ntmps178
  go_wp2_with (first
    | (go_at_call 179; (with_reducible refine (H0.out).mono ?_); rintro e w1 ⟨rfl, rfl⟩)
    | (go_at_call 179; (with_reducible refine (H1.out).mono ?_); rintro e w1 ⟨rfl, rfl⟩)
    | (go_at_call 179; (with_reducible refine (H2.out).mono ?_); rintro e w1 ⟨rfl, rfl⟩)
    | (go_at_call 179; (with_reducible refine (H3.out).mono ?_); rintro e w1 ⟨rfl, rfl⟩)
    | fail "no arm")
  go_ret
  exact ⟨rfl, rfl⟩
theorem from_0_6 (w : World) (a : Option Addr) (c : Nat) (hr : RL w (fun _ => True) [1] a) : Calls Tryz.prog 178 #[.slice a 1 c, .int .i64 (-6)] w fun e w' => e = .returned (.int .u64 64) ∧ w = w' := by
  obtain ⟨h0, h1, h2, h3⟩ := lb_any a c w hr
  have H0 := Lib.hid h0
  have H1 := Lib.hid h1
  have H2 := Lib.hid h2
  have H3 := Lib.hid h3
  clear h0 h1 h2 h3 hr
  go_enter Tryz.func178, Tryz.ntmps178
  go_wp2_with (first
    | (go_at_call 179; (with_reducible refine (H0.out).mono ?_); rintro e w1 ⟨rfl, rfl⟩)
    | (go_at_call 179; (with_reducible refine (H1.out).mono ?_); rintro e w1 ⟨rfl, rfl⟩)
    | (go_at_call 179; (with_reducible refine (H2.out).mono ?_); rintro e w1 ⟨rfl, rfl⟩)
    | (go_at_call 179; (with_reducible refine (H3.out).mono ?_); rintro e w1 ⟨rfl, rfl⟩)
    | fail "no arm")
  go_ret
  exact ⟨rfl, rfl⟩
theorem from_1_6 (w : World) (a : Option Addr) (c : Nat) (hr : RL w (fun _ => True) [1] a) : Calls Tryz.prog 178 #[.slice a 1 c, .int .i64 (58)] w fun e w' => e = .returned (.int .u64 0) ∧ w = w' := by
  obtain ⟨h0, h1, h2, h3⟩ := lb_any a c w hr
  have H0 := Lib.hid h0
  have H1 := Lib.hid h1
  have H2 := Lib.hid h2
  have H3 := Lib.hid h3
  clear h0 h1 h2 h3 hr
  go_enter Tryz.func178, Tryz.ntmps178
  go_wp2_with (first
    | (go_at_call 179; (with_reducible refine (H0.out).mono ?_); rintro e w1 ⟨rfl, rfl⟩)
    | (go_at_call 179; (with_reducible refine (H1.out).mono ?_); rintro e w1 ⟨rfl, rfl⟩)
    | (go_at_call 179; (with_reducible refine (H2.out).mono ?_); rintro e w1 ⟨rfl, rfl⟩)
    | (go_at_call 179; (with_reducible refine (H3.out).mono ?_); rintro e w1 ⟨rfl, rfl⟩)
    | fail "no arm")
  go_ret
  exact ⟨rfl, rfl⟩
theorem from_0_7 (w : World) (a : Option Addr) (c : Nat) (hr : RL w (fun _ => True) [1] a) : Calls Tryz.prog 178 #[.slice a 1 c, .int .i64 (-7)] w fun e w' => e = .returned (.int .u64 128) ∧ w = w' := by
  obtain ⟨h0, h1, h2, h3⟩ := lb_any a c w hr
  have H0 := Lib.hid h0
  have H1 := Lib.hid h1
  have H2 := Lib.hid h2
  have H3 := Lib.hid h3
  clear h0 h1 h2 h3 hr
  go_enter Tryz.func178, Tryz.ntmps178
  go_wp2_with (first
    | (go_at_call 179; (with_reducible refine (H0.out).mono ?_); rintro e w1 ⟨rfl, rfl⟩)
    | (go_at_call 179; (with_reducible refine (H1.out).mono ?_); rintro e w1 ⟨rfl, rfl⟩)
    | (go_at_call 179; (with_reducible refine (H2.out).mono ?_); rintro e w1 ⟨rfl, rfl⟩)
    | (go_at_call 179; (with_reducible refine (H3.out).mono ?_); rintro e w1 ⟨rfl, rfl⟩)
    | fail "no arm")
  go_ret
  exact ⟨rfl, rfl⟩
theorem from_1_7 (w : World) (a : Option Addr) (c : Nat) (hr : RL w (fun _ => True) [1] a) : Calls Tryz.prog 178 #[.slice a 1 c, .int .i64 (57)] w fun e w' => e = .returned (.int .u64 0) ∧ w = w' := by
  obtain ⟨h0, h1, h2, h3⟩ := lb_any a c w hr
  have H0 := Lib.hid h0
  have H1 := Lib.hid h1
  have H2 := Lib.hid h2
  have H3 := Lib.hid h3
  clear h0 h1 h2 h3 hr
  go_enter Tryz.func178, Tryz.ntmps178
  go_wp2_with (first
    | (go_at_call 179; (with_reducible refine (H0.out).mono ?_); rintro e w1 ⟨rfl, rfl⟩)
    | (go_at_call 179; (with_reducible refine (H1.out).mono ?_); rintro e w1 ⟨rfl, rfl⟩)
    | (go_at_call 179; (with_reducible refine (H2.out).mono ?_); rintro e w1 ⟨rfl, rfl⟩)
    | (go_at_call 179; (with_reducible refine (H3.out).mono ?_); rintro e w1 ⟨rfl, rfl⟩)
    | fail "no arm")
  go_ret
  exact ⟨rfl, rfl⟩
theorem from_0_8 (w : World) (a : Option Addr) (c : Nat) (hr : RL w (fun _ => True) [1] a) : Calls Tryz.prog 178 #[.slice a 1 c, .int .i64 (-8)] w fun e w' => e = .returned (.int .u64 256) ∧ w = w' := by
  obtain ⟨h0, h1, h2, h3⟩ := lb_any a c w hr
  have H0 := Lib.hid h0
  have H1 := Lib.hid h1
  have H2 := Lib.hid h2
  have H3 := Lib.hid h3
  clear h0 h1 h2 h3 hr
  go_enter Tryz.func178, Tryz.ntmps178
  go_wp2_with (first
    | (go_at_call 179; (with_reducible refine (H0.out).mono ?_); rintro e w1 ⟨rfl, rfl⟩)
    | (go_at_call 179; (with_reducible refine (H1.out).mono ?_); rintro e w1 ⟨rfl, rfl⟩)
    | (go_at_call 179; (with_reducible refine (H2.out).mono ?_); rintro e w1 ⟨rfl, rfl⟩)
    | (go_at_call 179; (with_reducible refine (H3.out).mono ?_); rintro e w1 ⟨rfl, rfl⟩)
    | fail "no arm")
  go_ret
  exact ⟨rfl, rfl⟩
theorem from_1_8 (w : World) (a : Option Addr) (c : Nat) (hr : RL w (fun _ => True) [1] a) : Calls Tryz.prog 178 #[.slice a 1 c, .int .i64 (56)] w fun e w' => e = .returned (.int .u64 0) ∧ w = w' := by
  obtain ⟨h0, h1, h2, h3⟩ := lb_any a c w hr
  have H0 := Lib.hid h0
  have H1 := Lib.hid h1
  have H2 := Lib.hid h2
  have H3 := Lib.hid h3
  clear h0 h1 h2 h3 hr
  go_enter Tryz.func178, Tryz.ntmps178
  go_wp2_with (first
    | (go_at_call 179; (with_reducible refine (H0.out).mono ?_); rintro e w1 ⟨rfl, rfl⟩)
    | (go_at_call 179; (with_reducible refine (H1.out).mono ?_); rintro e w1 ⟨rfl, rfl⟩)
    | (go_at_call 179; (with_reducible refine (H2.out).mono ?_); rintro e w1 ⟨rfl, rfl⟩)
    | (go_at_call 179; (with_reducible refine (H3.out).mono ?_); rintro e w1 ⟨rfl, rfl⟩)
    | fail "no arm")
  go_ret
  exact ⟨rfl, rfl⟩
end Go.Proofs.YtkdffbdnjfgpeaaGreat
