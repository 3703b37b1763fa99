/- Part 151. -/
import Derived.Test.YtkdffbdnjfgpeaaGreatY149
import Derived.Test.YtkdffbdnjfgpeaaGreatY140
set_option linter.all false
namespace Go.Proofs.YtkdffbdnjfgpeaaGreat
open Go Go.RowKit
theorem shifted_0 (w : World) (a : Option Addr) (c : Nat) (hr : RL w (fun _ => True) [1] a) : Calls Tryz.prog 108 #[.slice a 1 c, .int .i64 2, .int .i64 (0)] w fun e w' => Below w.heap.size w w' ∧ ∃ a' c', e = .returned (.slice a' 1 (1 + c')) ∧ RL w' (fun b => w.heap.size ≤ b) [1] a' := by
  have HR := Lib.hid hr
  have hmk := mkNat2
  clear hr
  go_enter Tryz.func108, Tryz.ntmps108
  go_wp2_with fail
  go_loopg [13] 2 (fun gk t13' wr => Below w.heap.size w wr ∧ w.heap.size < wr.heap.size ∧ (∀ k, wr.frozen? ⟨w.heap.size, k, none⟩ = false) ∧ wr.cell? ⟨w.heap.size, 1, none⟩ = some (.int .u64 0) ∧ (gk = 2 ∧ t13' = .int .i64 0 ∧ wr.cell? ⟨w.heap.size, 0, none⟩ = some (.int .u64 0) ∨ gk = 1 ∧ t13' = .int .i64 1 ∧ wr.cell? ⟨w.heap.size, 0, none⟩ = some (.int .u64 1) ∨ gk = 0 ∧ t13' = .int .i64 2 ∧ wr.cell? ⟨w.heap.size, 0, none⟩ = some (.int .u64 1)))
  case atStart => exact ⟨(by (repeat (first | with_reducible exact Below.refl _ _ | with_reducible assumption | with_reducible refine Below.trans ?_ (Below.mono (by with_reducible assumption) (by first | omega | (simp; done) | (simp; omega))) | with_reducible refine Below.drew ?_ | with_reducible refine Below.alloc ?_ (by first | omega | (simp; done) | (simp; omega)) _ | with_reducible refine Below.setCell ?_ (by first | omega | (simp; done) | (simp; omega)) _))), by simp, fun k => by go_simp, by go_simp, .inl ⟨rfl, rfl, by go_simp⟩⟩
  case round =>
    obtain ⟨hb, hz, nf, n1, ⟨rfl, rfl, n0⟩ | ⟨rfl, rfl, n0⟩ | ⟨rfl, rfl, n0⟩⟩ := hrel
    · go_wp2_with (go_at_call 178; (with_reducible refine (from_0_0 _ a c (by exact RL.ext (Agree.below (by (repeat (first | with_reducible exact Below.refl _ _ | with_reducible assumption | with_reducible refine Below.trans ?_ (Below.mono (by with_reducible assumption) (by first | omega | (simp; done) | (simp; omega))) | with_reducible refine Below.drew ?_ | with_reducible refine Below.alloc ?_ (by first | omega | (simp; done) | (simp; omega)) _ | with_reducible refine Below.setCell ?_ (by first | omega | (simp; done) | (simp; omega)) _)))) HR.out)).mono ?_); rintro e w1 ⟨rfl, rfl⟩)
      go_roundg 1
      case measure => omega
      case rel => exact ⟨(by (repeat (first | with_reducible exact Below.refl _ _ | with_reducible assumption | with_reducible refine Below.trans ?_ (Below.mono (by with_reducible assumption) (by first | omega | (simp; done) | (simp; omega))) | with_reducible refine Below.drew ?_ | with_reducible refine Below.alloc ?_ (by first | omega | (simp; done) | (simp; omega)) _ | with_reducible refine Below.setCell ?_ (by first | omega | (simp; done) | (simp; omega)) _))), by simp; omega, fun k => by go_simp, by go_simp, .inr (.inl ⟨rfl, by go_num, by go_simp⟩)⟩
    · go_wp2_with (go_at_call 178; (with_reducible refine (from_1_0 _ a c (by exact RL.ext (Agree.below (by (repeat (first | with_reducible exact Below.refl _ _ | with_reducible assumption | with_reducible refine Below.trans ?_ (Below.mono (by with_reducible assumption) (by first | omega | (simp; done) | (simp; omega))) | with_reducible refine Below.drew ?_ | with_reducible refine Below.alloc ?_ (by first | omega | (simp; done) | (simp; omega)) _ | with_reducible refine Below.setCell ?_ (by first | omega | (simp; done) | (simp; omega)) _)))) HR.out)).mono ?_); rintro e w1 ⟨rfl, rfl⟩)
      go_roundg 0
      case measure => omega
      case rel => exact ⟨(by (repeat (first | with_reducible exact Below.refl _ _ | with_reducible assumption | with_reducible refine Below.trans ?_ (Below.mono (by with_reducible assumption) (by first | omega | (simp; done) | (simp; omega))) | with_reducible refine Below.drew ?_ | with_reducible refine Below.alloc ?_ (by first | omega | (simp; done) | (simp; omega)) _ | with_reducible refine Below.setCell ?_ (by first | omega | (simp; done) | (simp; omega)) _))), by simp; omega, fun k => by go_simp, by go_simp, .inr (.inr ⟨rfl, by go_num, by go_simp⟩)⟩
    · go_wp2_with (go_at_call 105; refine (Zra (l := [1, 0]) (x := 1) (.inr ⟨1, rfl⟩) _ (fun _ => True) (some ⟨w.heap.size, 0, none⟩) 0 (by simp) (.inr ⟨w.heap.size, 0, rfl, trivial, fun i hi => (by rcases (by have h9 := hi; simp at h9; omega : i = 0 ∨ i = 1) with rfl | rfl <;> (simp only [Nat.zero_add, List.getElem_cons_zero, List.getElem_cons_succ]; go_simp))⟩)).mono ?_; rintro e w3 ⟨hb3, a', c', rfl, hr3⟩)
      go_ret
      exact ⟨(by (repeat (first | with_reducible exact Below.refl _ _ | with_reducible assumption | with_reducible refine Below.trans ?_ (Below.mono (by with_reducible assumption) (by first | omega | (simp; done) | (simp; omega))) | with_reducible refine Below.drew ?_ | with_reducible refine Below.alloc ?_ (by first | omega | (simp; done) | (simp; omega)) _ | with_reducible refine Below.setCell ?_ (by first | omega | (simp; done) | (simp; omega)) _))), a', c', rfl, RL.mono (fun b h _ => by omega) hr3⟩
theorem shl_0 (w : World) (a : Option Addr) (c : Nat) (hr : RL w (fun _ => True) [1] a) : Calls Tryz.prog 72 #[.slice a 1 c, .int .i64 0] w fun e w' => Below w.heap.size w w' ∧ ∃ a' c', e = .returned (.tuple #[.slice a' 1 (1 + c'), .int .i64 0]) ∧ RL w' (fun b => w.heap.size ≤ b) [1] a' := by
  have HR := Lib.hid hr
  clear hr
  go_enter Tryz.func72, Tryz.ntmps72
  go_wp2_with (first
    | (go_at_call 107; refine (nmay_any 0 _ (by omega)).mono ?_; rintro e w1 ⟨rfl, rfl⟩)
    | (go_at_call 108; (with_reducible refine (shifted_0 _ a c (by exact RL.ext (Agree.below (by (repeat (first | with_reducible exact Below.refl _ _ | with_reducible assumption | with_reducible refine Below.trans ?_ (Below.mono (by with_reducible assumption) (by first | omega | (simp; done) | (simp; omega))) | with_reducible refine Below.drew ?_ | with_reducible refine Below.alloc ?_ (by first | omega | (simp; done) | (simp; omega)) _ | with_reducible refine Below.setCell ?_ (by first | omega | (simp; done) | (simp; omega)) _)))) HR.out)).mono ?_); rintro e w2 ⟨hb2, a2, c2, rfl, hr2⟩; have HR2 := Lib.hid hr2; clear hr2)
    | fail "no arm")
  go_ret2
  exact ⟨(by (repeat (first | with_reducible exact Below.refl _ _ | with_reducible assumption | with_reducible refine Below.trans ?_ (Below.mono (by with_reducible assumption) (by first | omega | (simp; done) | (simp; omega))) | with_reducible refine Below.drew ?_ | with_reducible refine Below.alloc ?_ (by first | omega | (simp; done) | (simp; omega)) _ | with_reducible refine Below.setCell ?_ (by first | omega | (simp; done) | (simp; omega)) _))), a2, c2, rfl, HR2.out⟩
theorem shifted_1 (w : World) (a : Option Addr) (c : Nat) (hr : RL w (fun _ => True) [1] a) : Calls Tryz.prog 108 #[.slice a 1 c, .int .i64 2, .int .i64 (-1)] w fun e w' => Below w.heap.size w w' ∧ ∃ a' c', e = .returned (.slice a' 1 (1 + c')) ∧ RL w' (fun b => w.heap.size ≤ b) [2] a' := by
  have HR := Lib.hid hr
  have hmk := mkNat2
  clear hr
  go_enter Tryz.func108, Tryz.ntmps108
  go_wp2_with fail
  go_loopg [13] 2 (fun gk t13' wr => Below w.heap.size w wr ∧ w.heap.size < wr.heap.size ∧ (∀ k, wr.frozen? ⟨w.heap.size, k, none⟩ = false) ∧ wr.cell? ⟨w.heap.size, 1, none⟩ = some (.int .u64 0) ∧ (gk = 2 ∧ t13' = .int .i64 0 ∧ wr.cell? ⟨w.heap.size, 0, none⟩ = some (.int .u64 0) ∨ gk = 1 ∧ t13' = .int .i64 1 ∧ wr.cell? ⟨w.heap.size, 0, none⟩ = some (.int .u64 2) ∨ gk = 0 ∧ t13' = .int .i64 2 ∧ wr.cell? ⟨w.heap.size, 0, none⟩ = some (.int .u64 2)))
  case atStart => exact ⟨(by (repeat (first | with_reducible exact Below.refl _ _ | with_reducible assumption | with_reducible refine Below.trans ?_ (Below.mono (by with_reducible assumption) (by first | omega | (simp; done) | (simp; omega))) | with_reducible refine Below.drew ?_ | with_reducible refine Below.alloc ?_ (by first | omega | (simp; done) | (simp; omega)) _ | with_reducible refine Below.setCell ?_ (by first | omega | (simp; done) | (simp; omega)) _))), by simp, fun k => by go_simp, by go_simp, .inl ⟨rfl, rfl, by go_simp⟩⟩
  case round =>
    obtain ⟨hb, hz, nf, n1, ⟨rfl, rfl, n0⟩ | ⟨rfl, rfl, n0⟩ | ⟨rfl, rfl, n0⟩⟩ := hrel
    · go_wp2_with (go_at_call 178; (with_reducible refine (from_0_1 _ a c (by exact RL.ext (Agree.below (by (repeat (first | with_reducible exact Below.refl _ _ | with_reducible assumption | with_reducible refine Below.trans ?_ (Below.mono (by with_reducible assumption) (by first | omega | (simp; done) | (simp; omega))) | with_reducible refine Below.drew ?_ | with_reducible refine Below.alloc ?_ (by first | omega | (simp; done) | (simp; omega)) _ | with_reducible refine Below.setCell ?_ (by first | omega | (simp; done) | (simp; omega)) _)))) HR.out)).mono ?_); rintro e w1 ⟨rfl, rfl⟩)
      go_roundg 1
      case measure => omega
      case rel => exact ⟨(by (repeat (first | with_reducible exact Below.refl _ _ | with_reducible assumption | with_reducible refine Below.trans ?_ (Below.mono (by with_reducible assumption) (by first | omega | (simp; done) | (simp; omega))) | with_reducible refine Below.drew ?_ | with_reducible refine Below.alloc ?_ (by first | omega | (simp; done) | (simp; omega)) _ | with_reducible refine Below.setCell ?_ (by first | omega | (simp; done) | (simp; omega)) _))), by simp; omega, fun k => by go_simp, by go_simp, .inr (.inl ⟨rfl, by go_num, by go_simp⟩)⟩
    · go_wp2_with (go_at_call 178; (with_reducible refine (from_1_1 _ a c (by exact RL.ext (Agree.below (by (repeat (first | with_reducible exact Below.refl _ _ | with_reducible assumption | with_reducible refine Below.trans ?_ (Below.mono (by with_reducible assumption) (by first | omega | (simp; done) | (simp; omega))) | with_reducible refine Below.drew ?_ | with_reducible refine Below.alloc ?_ (by first | omega | (simp; done) | (simp; omega)) _ | with_reducible refine Below.setCell ?_ (by first | omega | (simp; done) | (simp; omega)) _)))) HR.out)).mono ?_); rintro e w1 ⟨rfl, rfl⟩)
      go_roundg 0
      case measure => omega
      case rel => exact ⟨(by (repeat (first | with_reducible exact Below.refl _ _ | with_reducible assumption | with_reducible refine Below.trans ?_ (Below.mono (by with_reducible assumption) (by first | omega | (simp; done) | (simp; omega))) | with_reducible refine Below.drew ?_ | with_reducible refine Below.alloc ?_ (by first | omega | (simp; done) | (simp; omega)) _ | with_reducible refine Below.setCell ?_ (by first | omega | (simp; done) | (simp; omega)) _))), by simp; omega, fun k => by go_simp, by go_simp, .inr (.inr ⟨rfl, by go_num, by go_simp⟩)⟩
    · go_wp2_with (go_at_call 105; refine (Zra (l := [2, 0]) (x := 2) (.inr ⟨1, rfl⟩) _ (fun _ => True) (some ⟨w.heap.size, 0, none⟩) 0 (by simp) (.inr ⟨w.heap.size, 0, rfl, trivial, fun i hi => (by rcases (by have h9 := hi; simp at h9; omega : i = 0 ∨ i = 1) with rfl | rfl <;> (simp only [Nat.zero_add, List.getElem_cons_zero, List.getElem_cons_succ]; go_simp))⟩)).mono ?_; rintro e w3 ⟨hb3, a', c', rfl, hr3⟩)
      go_ret
      exact ⟨(by (repeat (first | with_reducible exact Below.refl _ _ | with_reducible assumption | with_reducible refine Below.trans ?_ (Below.mono (by with_reducible assumption) (by first | omega | (simp; done) | (simp; omega))) | with_reducible refine Below.drew ?_ | with_reducible refine Below.alloc ?_ (by first | omega | (simp; done) | (simp; omega)) _ | with_reducible refine Below.setCell ?_ (by first | omega | (simp; done) | (simp; omega)) _))), a', c', rfl, RL.mono (fun b h _ => by omega) hr3⟩
theorem shl_1 (w : World) (a : Option Addr) (c : Nat) (hr : RL w (fun _ => True) [1] a) : Calls Tryz.prog 72 #[.slice a 1 c, .int .i64 1] w fun e w' => Below w.heap.size w w' ∧ ∃ a' c', e = .returned (.tuple #[.slice a' 1 (1 + c'), .int .i64 0]) ∧ RL w' (fun b => w.heap.size ≤ b) [2] a' := by
  have HR := Lib.hid hr
  clear hr
  go_enter Tryz.func72, Tryz.ntmps72
  go_wp2_with (first
    | (go_at_call 107; refine (nmay_any 1 _ (by omega)).mono ?_; rintro e w1 ⟨rfl, rfl⟩)
    | (go_at_call 108; (with_reducible refine (shifted_1 _ a c (by exact RL.ext (Agree.below (by (repeat (first | with_reducible exact Below.refl _ _ | with_reducible assumption | with_reducible refine Below.trans ?_ (Below.mono (by with_reducible assumption) (by first | omega | (simp; done) | (simp; omega))) | with_reducible refine Below.drew ?_ | with_reducible refine Below.alloc ?_ (by first | omega | (simp; done) | (simp; omega)) _ | with_reducible refine Below.setCell ?_ (by first | omega | (simp; done) | (simp; omega)) _)))) HR.out)).mono ?_); rintro e w2 ⟨hb2, a2, c2, rfl, hr2⟩; have HR2 := Lib.hid hr2; clear hr2)
    | fail "no arm")
  go_ret2
  exact ⟨(by (repeat (first | with_reducible exact Below.refl _ _ | with_reducible assumption | with_reducible refine Below.trans ?_ (Below.mono (by with_reducible assumption) (by first | omega | (simp; done) | (simp; omega))) | with_reducible refine Below.drew ?_ | with_reducible refine Below.alloc ?_ (by first | omega | (simp; done) | (simp; omega)) _ | with_reducible refine Below.setCell ?_ (by first | omega | (simp; done) | (simp; omega)) _))), a2, c2, rfl, HR2.out⟩
theorem shifted_2 (w : World) (a : Option Addr) (c : Nat) (hr : RL w (fun _ => True) [1] a) : Calls Tryz.prog 108 #[.slice a 1 c, .int .i64 2, .int .i64 (-2)] w fun e w' => Below w.heap.size w w' ∧ ∃ a' c', e = .returned (.slice a' 1 (1 + c')) ∧ RL w' (fun b => w.heap.size ≤ b) [4] a' := by
  have HR := Lib.hid hr
  have hmk := mkNat2
  clear hr
  go_enter Tryz.func108, Tryz.ntmps108
  go_wp2_with fail
  go_loopg [13] 2 (fun gk t13' wr => Below w.heap.size w wr ∧ w.heap.size < wr.heap.size ∧ (∀ k, wr.frozen? ⟨w.heap.size, k, none⟩ = false) ∧ wr.cell? ⟨w.heap.size, 1, none⟩ = some (.int .u64 0) ∧ (gk = 2 ∧ t13' = .int .i64 0 ∧ wr.cell? ⟨w.heap.size, 0, none⟩ = some (.int .u64 0) ∨ gk = 1 ∧ t13' = .int .i64 1 ∧ wr.cell? ⟨w.heap.size, 0, none⟩ = some (.int .u64 4) ∨ gk = 0 ∧ t13' = .int .i64 2 ∧ wr.cell? ⟨w.heap.size, 0, none⟩ = some (.int .u64 4)))
  case atStart => exact ⟨(by (repeat (first | with_reducible exact Below.refl _ _ | with_reducible assumption | with_reducible refine Below.trans ?_ (Below.mono (by with_reducible assumption) (by first | omega | (simp; done) | (simp; omega))) | with_reducible refine Below.drew ?_ | with_reducible refine Below.alloc ?_ (by first | omega | (simp; done) | (simp; omega)) _ | with_reducible refine Below.setCell ?_ (by first | omega | (simp; done) | (simp; omega)) _))), by simp, fun k => by go_simp, by go_simp, .inl ⟨rfl, rfl, by go_simp⟩⟩
  case round =>
    obtain ⟨hb, hz, nf, n1, ⟨rfl, rfl, n0⟩ | ⟨rfl, rfl, n0⟩ | ⟨rfl, rfl, n0⟩⟩ := hrel
    · go_wp2_with (go_at_call 178; (with_reducible refine (from_0_2 _ a c (by exact RL.ext (Agree.below (by (repeat (first | with_reducible exact Below.refl _ _ | with_reducible assumption | with_reducible refine Below.trans ?_ (Below.mono (by with_reducible assumption) (by first | omega | (simp; done) | (simp; omega))) | with_reducible refine Below.drew ?_ | with_reducible refine Below.alloc ?_ (by first | omega | (simp; done) | (simp; omega)) _ | with_reducible refine Below.setCell ?_ (by first | omega | (simp; done) | (simp; omega)) _)))) HR.out)).mono ?_); rintro e w1 ⟨rfl, rfl⟩)
      go_roundg 1
      case measure => omega
      case rel => exact ⟨(by (repeat (first | with_reducible exact Below.refl _ _ | with_reducible assumption | with_reducible refine Below.trans ?_ (Below.mono (by with_reducible assumption) (by first | omega | (simp; done) | (simp; omega))) | with_reducible refine Below.drew ?_ | with_reducible refine Below.alloc ?_ (by first | omega | (simp; done) | (simp; omega)) _ | with_reducible refine Below.setCell ?_ (by first | omega | (simp; done) | (simp; omega)) _))), by simp; omega, fun k => by go_simp, by go_simp, .inr (.inl ⟨rfl, by go_num, by go_simp⟩)⟩
    · go_wp2_with (go_at_call 178; (with_reducible refine (from_1_2 _ a c (by exact RL.ext (Agree.below (by (repeat (first | with_reducible exact Below.refl _ _ | with_reducible assumption | with_reducible refine Below.trans ?_ (Below.mono (by with_reducible assumption) (by first | omega | (simp; done) | (simp; omega))) | with_reducible refine Below.drew ?_ | with_reducible refine Below.alloc ?_ (by first | omega | (simp; done) | (simp; omega)) _ | with_reducible refine Below.setCell ?_ (by first | omega | (simp; done) | (simp; omega)) _)))) HR.out)).mono ?_); rintro e w1 ⟨rfl, rfl⟩)
      go_roundg 0
      case measure => omega
      case rel => exact ⟨(by (repeat (first | with_reducible exact Below.refl _ _ | with_reducible assumption | with_reducible refine Below.trans ?_ (Below.mono (by with_reducible assumption) (by first | omega | (simp; done) | (simp; omega))) | with_reducible refine Below.drew ?_ | with_reducible refine Below.alloc ?_ (by first | omega | (simp; done) | (simp; omega)) _ | with_reducible refine Below.setCell ?_ (by first | omega | (simp; done) | (simp; omega)) _))), by simp; omega, fun k => by go_simp, by go_simp, .inr (.inr ⟨rfl, by go_num, by go_simp⟩)⟩
    · go_wp2_with (go_at_call 105; refine (Zra (l := [4, 0]) (x := 4) (.inr ⟨1, rfl⟩) _ (fun _ => True) (some ⟨w.heap.size, 0, none⟩) 0 (by simp) (.inr ⟨w.heap.size, 0, rfl, trivial, fun i hi => (by rcases (by have h9 := hi; simp at h9; omega : i = 0 ∨ i = 1) with rfl | rfl <;> (simp only [Nat.zero_add, List.getElem_cons_zero, List.getElem_cons_succ]; go_simp))⟩)).mono ?_; rintro e w3 ⟨hb3, a', c', rfl, hr3⟩)
      go_ret
      exact ⟨(by (repeat (first | with_reducible exact Below.refl _ _ | with_reducible assumption | with_reducible refine Below.trans ?_ (Below.mono (by with_reducible assumption) (by first | omega | (simp; done) | (simp; omega))) | with_reducible refine Below.drew ?_ | with_reducible refine Below.alloc ?_ (by first | omega | (simp; done) | (simp; omega)) _ | with_reducible refine Below.setCell ?_ (by first | omega | (simp; done) | (simp; omega)) _))), a', c', rfl, RL.mono (fun b h _ => by omega) hr3⟩
theorem shl_2 (w : World) (a : Option Addr) (c : Nat) (hr : RL w (fun _ => True) [1] a) : Calls Tryz.prog 72 #[.slice a 1 c, .int .i64 2] w fun e w' => Below w.heap.size w w' ∧ ∃ a' c', e = .returned (.tuple #[.slice a' 1 (1 + c'), .int .i64 0]) ∧ RL w' (fun b => w.heap.size ≤ b) [4] a' := by
  have HR := Lib.hid hr
  clear hr
  go_enter Tryz.func72, Tryz.ntmps72
  go_wp2_with (first
    | (go_at_call 107; refine (nmay_any 2 _ (by omega)).mono ?_; rintro e w1 ⟨rfl, rfl⟩)
    | (go_at_call 108; (with_reducible refine (shifted_2 _ a c (by exact RL.ext (Agree.below (by (repeat (first | with_reducible exact Below.refl _ _ | with_reducible assumption | with_reducible refine Below.trans ?_ (Below.mono (by with_reducible assumption) (by first | omega | (simp; done) | (simp; omega))) | with_reducible refine Below.drew ?_ | with_reducible refine Below.alloc ?_ (by first | omega | (simp; done) | (simp; omega)) _ | with_reducible refine Below.setCell ?_ (by first | omega | (simp; done) | (simp; omega)) _)))) HR.out)).mono ?_); rintro e w2 ⟨hb2, a2, c2, rfl, hr2⟩; have HR2 := Lib.hid hr2; clear hr2)
    | fail "no arm")
  go_ret2
  exact ⟨(by (repeat (first | with_reducible exact Below.refl _ _ | with_reducible assumption | with_reducible refine Below.trans ?_ (Below.mono (by with_reducible assumption) (by first | omega | (simp; done) | (simp; omega))) | with_reducible refine Below.drew ?_ | with_reducible refine Below.alloc ?_ (by first | omega | (simp; done) | (simp; omega)) _ | with_reducible refine Below.setCell ?_ (by first | omega | (simp; done) | (simp; omega)) _))), a2, c2, rfl, HR2.out⟩
theorem shifted_3 (w : World) (a : Option Addr) (c : Nat) (hr : RL w (fun _ => True) [1] a) : Calls Tryz.prog 108 #[.slice a 1 c, .int .i64 2, .int .i64 (-3)] w fun e w' => Below w.heap.size w w' ∧ ∃ a' c', e = .returned (.slice a' 1 (1 + c')) ∧ RL w' (fun b => w.heap.size ≤ b) [8] a' := by
  have HR := Lib.hid hr
  have hmk := mkNat2
  clear hr
  go_enter Tryz.func108, Tryz.ntmps108
  go_wp2_with fail
  go_loopg [13] 2 (fun gk t13' wr => Below w.heap.size w wr ∧ w.heap.size < wr.heap.size ∧ (∀ k, wr.frozen? ⟨w.heap.size, k, none⟩ = false) ∧ wr.cell? ⟨w.heap.size, 1, none⟩ = some (.int .u64 0) ∧ (gk = 2 ∧ t13' = .int .i64 0 ∧ wr.cell? ⟨w.heap.size, 0, none⟩ = some (.int .u64 0) ∨ gk = 1 ∧ t13' = .int .i64 1 ∧ wr.cell? ⟨w.heap.size, 0, none⟩ = some (.int .u64 8) ∨ gk = 0 ∧ t13' = .int .i64 2 ∧ wr.cell? ⟨w.heap.size, 0, none⟩ = some (.int .u64 8)))
  case atStart => exact ⟨(by (repeat (first | with_reducible exact Below.refl _ _ | with_reducible assumption | with_reducible refine Below.trans ?_ (Below.mono (by with_reducible assumption) (by first | omega | (simp; done) | (simp; omega))) | with_reducible refine Below.drew ?_ | with_reducible refine Below.alloc ?_ (by first | omega | (simp; done) | (simp; omega)) _ | with_reducible refine Below.setCell ?_ (by first | omega | (simp; done) | (simp; omega)) _))), by simp, fun k => by go_simp, by go_simp, .inl ⟨rfl, rfl, by go_simp⟩⟩
  case round =>
    obtain ⟨hb, hz, nf, n1, ⟨rfl, rfl, n0⟩ | ⟨rfl, rfl, n0⟩ | ⟨rfl, rfl, n0⟩⟩ := hrel
    · go_wp2_with (go_at_call 178; (with_reducible refine (from_0_3 _ a c (by exact RL.ext (Agree.below (by (repeat (first | with_reducible exact Below.refl _ _ | with_reducible assumption | with_reducible refine Below.trans ?_ (Below.mono (by with_reducible assumption) (by first | omega | (simp; done) | (simp; omega))) | with_reducible refine Below.drew ?_ | with_reducible refine Below.alloc ?_ (by first | omega | (simp; done) | (simp; omega)) _ | with_reducible refine Below.setCell ?_ (by first | omega | (simp; done) | (simp; omega)) _)))) HR.out)).mono ?_); rintro e w1 ⟨rfl, rfl⟩)
      go_roundg 1
      case measure => omega
      case rel => exact ⟨(by (repeat (first | with_reducible exact Below.refl _ _ | with_reducible assumption | with_reducible refine Below.trans ?_ (Below.mono (by with_reducible assumption) (by first | omega | (simp; done) | (simp; omega))) | with_reducible refine Below.drew ?_ | with_reducible refine Below.alloc ?_ (by first | omega | (simp; done) | (simp; omega)) _ | with_reducible refine Below.setCell ?_ (by first | omega | (simp; done) | (simp; omega)) _))), by simp; omega, fun k => by go_simp, by go_simp, .inr (.inl ⟨rfl, by go_num, by go_simp⟩)⟩
    · go_wp2_with (go_at_call 178; (with_reducible refine (from_1_3 _ a c (by exact RL.ext (Agree.below (by (repeat (first | with_reducible exact Below.refl _ _ | with_reducible assumption | with_reducible refine Below.trans ?_ (Below.mono (by with_reducible assumption) (by first | omega | (simp; done) | (simp; omega))) | with_reducible refine Below.drew ?_ | with_reducible refine Below.alloc ?_ (by first | omega | (simp; done) | (simp; omega)) _ | with_reducible refine Below.setCell ?_ (by first | omega | (simp; done) | (simp; omega)) _)))) HR.out)).mono ?_); rintro e w1 ⟨rfl, rfl⟩)
      go_roundg 0
      case measure => omega
      case rel => exact ⟨(by (repeat (first | with_reducible exact Below.refl _ _ | with_reducible assumption | with_reducible refine Below.trans ?_ (Below.mono (by with_reducible assumption) (by first | omega | (simp; done) | (simp; omega))) | with_reducible refine Below.drew ?_ | with_reducible refine Below.alloc ?_ (by first | omega | (simp; done) | (simp; omega)) _ | with_reducible refine Below.setCell ?_ (by first | omega | (simp; done) | (simp; omega)) _))), by simp; omega, fun k => by go_simp, by go_simp, .inr (.inr ⟨rfl, by go_num, by go_simp⟩)⟩
    · go_wp2_with (go_at_call 105; refine (Zra (l := [8, 0]) (x := 8) (.inr ⟨1, rfl⟩) _ (fun _ => True) (some ⟨w.heap.size, 0, none⟩) 0 (by simp) (.inr ⟨w.heap.size, 0, rfl, trivial, fun i hi => (by rcases (by have h9 := hi; simp at h9; omega : i = 0 ∨ i = 1) with rfl | rfl <;> (simp only [Nat.zero_add, List.getElem_cons_zero, List.getElem_cons_succ]; go_simp))⟩)).mono ?_; rintro e w3 ⟨hb3, a', c', rfl, hr3⟩)
      go_ret
      exact ⟨(by (repeat (first | with_reducible exact Below.refl _ _ | with_reducible assumption | with_reducible refine Below.trans ?_ (Below.mono (by with_reducible assumption) (by first | omega | (simp; done) | (simp; omega))) | with_reducible refine Below.drew ?_ | with_reducible refine Below.alloc ?_ (by first | omega | (simp; done) | (simp; omega)) _ | with_reducible refine Below.setCell ?_ (by first | omega | (simp; done) | (simp; omega)) _))), a', c', rfl, RL.mono (fun b h _ => by omega) hr3⟩
theorem shl_3 (w : World) (a : Option Addr) (c : Nat) (hr : RL w (fun _ => True) [1] a) : Calls Tryz.prog 72 #[.slice a 1 c, .int .i64 3] w fun e w' => Below w.heap.size w w' ∧ ∃ a' c', e = .returned (.tuple #[.slice a' 1 (1 + c'), .int .i64 0]) ∧ RL w' (fun b => w.heap.size ≤ b) [8] a' := by
  have HR := Lib.hid hr
  clear hr
  go_enter Tryz.func72, Tryz.ntmps72
  go_wp2_with (first
    | (go_at_call 107; refine (nmay_any 3 _ (by omega)).mono ?_; rintro e w1 ⟨rfl, rfl⟩)
    | (go_at_call 108; (with_reducible refine (shifted_3 _ a c (by exact RL.ext (Agree.below (by (repeat (first | with_reducible exact Below.refl _ _ | with_reducible assumption | with_reducible refine Below.trans ?_ (Below.mono (by with_reducible assumption) (by first | omega | (simp; done) | (simp; omega))) | with_reducible refine Below.drew ?_ | with_reducible refine Below.alloc ?_ (by first | omega | (simp; done) | (simp; omega)) _ | with_reducible refine Below.setCell ?_ (by first | omega | (simp; done) | (simp; omega)) _)))) HR.out)).mono ?_); rintro e w2 ⟨hb2, a2, c2, rfl, hr2⟩; have HR2 := Lib.hid hr2; clear hr2)
    | fail "no arm")
  go_ret2
  exact ⟨(by (repeat (first | with_reducible exact Below.refl _ _ | with_reducible assumption | with_reducible refine Below.trans ?_ (Below.mono (by with_reducible assumption) (by first | omega | (simp; done) | (simp; omega))) | with_reducible refine Below.drew ?_ | with_reducible refine Below.alloc ?_ (by first | omega | (simp; done) | (simp; omega)) _ | with_reducible refine Below.setCell ?_ (by first | omega | (simp; done) | (simp; omega)) _))), a2, c2, rfl, HR2.out⟩
theorem shifted_4 (w : World) (a : Option Addr) (c : Nat) (hr : RL w (fun _ => True) [1] a) : Calls Tryz.prog 108 #[.slice a 1 c, .int .i64 2, .int .i64 (-4)] w fun e w' => Below w.heap.size w w' ∧ ∃ a' c', e = .returned (.slice a' 1 (1 + c')) ∧ RL w' (fun b => w.heap.size ≤ b) [16] a' := by
  have HR := Lib.hid hr
  have hmk := mkNat2
  clear hr
  go_enter Tryz.func108, Tryz.ntmps108
  go_wp2_with fail
  go_loopg [13] 2 (fun gk t13' wr => Below w.heap.size w wr ∧ w.heap.size < wr.heap.size ∧ (∀ k, wr.frozen? ⟨w.heap.size, k, none⟩ = false) ∧ wr.cell? ⟨w.heap.size, 1, none⟩ = some (.int .u64 0) ∧ (gk = 2 ∧ t13' = .int .i64 0 ∧ wr.cell? ⟨w.heap.size, 0, none⟩ = some (.int .u64 0) ∨ gk = 1 ∧ t13' = .int .i64 1 ∧ wr.cell? ⟨w.heap.size, 0, none⟩ = some (.int .u64 16) ∨ gk = 0 ∧ t13' = .int .i64 2 ∧ wr.cell? ⟨w.heap.size, 0, none⟩ = some (.int .u64 16)))
  case atStart => exact ⟨(by (repeat (first | with_reducible exact Below.refl _ _ | with_reducible assumption | with_reducible refine Below.trans ?_ (Below.mono (by with_reducible assumption) (by first | omega | (simp; done) | (simp; omega))) | with_reducible refine Below.drew ?_ | with_reducible refine Below.alloc ?_ (by first | omega | (simp; done) | (simp; omega)) _ | with_reducible refine Below.setCell ?_ (by first | omega | (simp; done) | (simp; omega)) _))), by simp, fun k => by go_simp, by go_simp, .inl ⟨rfl, rfl, by go_simp⟩⟩
  case round =>
    obtain ⟨hb, hz, nf, n1, ⟨rfl, rfl, n0⟩ | ⟨rfl, rfl, n0⟩ | ⟨rfl, rfl, n0⟩⟩ := hrel
    · go_wp2_with (go_at_call 178; (with_reducible refine (from_0_4 _ a c (by exact RL.ext (Agree.below (by (repeat (first | with_reducible exact Below.refl _ _ | with_reducible assumption | with_reducible refine Below.trans ?_ (Below.mono (by with_reducible assumption) (by first | omega | (simp; done) | (simp; omega))) | with_reducible refine Below.drew ?_ | with_reducible refine Below.alloc ?_ (by first | omega | (simp; done) | (simp; omega)) _ | with_reducible refine Below.setCell ?_ (by first | omega | (simp; done) | (simp; omega)) _)))) HR.out)).mono ?_); rintro e w1 ⟨rfl, rfl⟩)
      go_roundg 1
      case measure => omega
      case rel => exact ⟨(by (repeat (first | with_reducible exact Below.refl _ _ | with_reducible assumption | with_reducible refine Below.trans ?_ (Below.mono (by with_reducible assumption) (by first | omega | (simp; done) | (simp; omega))) | with_reducible refine Below.drew ?_ | with_reducible refine Below.alloc ?_ (by first | omega | (simp; done) | (simp; omega)) _ | with_reducible refine Below.setCell ?_ (by first | omega | (simp; done) | (simp; omega)) _))), by simp; omega, fun k => by go_simp, by go_simp, .inr (.inl ⟨rfl, by go_num, by go_simp⟩)⟩
    · go_wp2_with (go_at_call 178; (with_reducible refine (from_1_4 _ a c (by exact RL.ext (Agree.below (by (repeat (first | with_reducible exact Below.refl _ _ | with_reducible assumption | with_reducible refine Below.trans ?_ (Below.mono (by with_reducible assumption) (by first | omega | (simp; done) | (simp; omega))) | with_reducible refine Below.drew ?_ | with_reducible refine Below.alloc ?_ (by first | omega | (simp; done) | (simp; omega)) _ | with_reducible refine Below.setCell ?_ (by first | omega | (simp; done) | (simp; omega)) _)))) HR.out)).mono ?_); rintro e w1 ⟨rfl, rfl⟩)
      go_roundg 0
      case measure => omega
      case rel => exact ⟨(by (repeat (first | with_reducible exact Below.refl _ _ | with_reducible assumption | with_reducible refine Below.trans ?_ (Below.mono (by with_reducible assumption) (by first | omega | (simp; done) | (simp; omega))) | with_reducible refine Below.drew ?_ | with_reducible refine Below.alloc ?_ (by first | omega | (simp; done) | (simp; omega)) _ | with_reducible refine Below.setCell ?_ (by first | omega | (simp; done) | (simp; omega)) _))), by simp; omega, fun k => by go_simp, by go_simp, .inr (.inr ⟨rfl, by go_num, by go_simp⟩)⟩
    · go_wp2_with (go_at_call 105; refine (Zra (l := [16, 0]) (x := 16) (.inr ⟨1, rfl⟩) _ (fun _ => True) (some ⟨w.heap.size, 0, none⟩) 0 (by simp) (.inr ⟨w.heap.size, 0, rfl, trivial, fun i hi => (by rcases (by have h9 := hi; simp at h9; omega : i = 0 ∨ i = 1) with rfl | rfl <;> (simp only [Nat.zero_add, List.getElem_cons_zero, List.getElem_cons_succ]; go_simp))⟩)).mono ?_; rintro e w3 ⟨hb3, a', c', rfl, hr3⟩)
      go_ret
      exact ⟨(by (repeat (first | with_reducible exact Below.refl _ _ | with_reducible assumption | with_reducible refine Below.trans ?_ (Below.mono (by with_reducible assumption) (by first | omega | (simp; done) | (simp; omega))) | with_reducible refine Below.drew ?_ | with_reducible refine Below.alloc ?_ (by first | omega | (simp; done) | (simp; omega)) _ | with_reducible refine Below.setCell ?_ (by first | omega | (simp; done) | (simp; omega)) _))), a', c', rfl, RL.mono (fun b h _ => by omega) hr3⟩
theorem shl_4 (w : World) (a : Option Addr) (c : Nat) (hr : RL w (fun _ => True) [1] a) : Calls Tryz.prog 72 #[.slice a 1 c, .int .i64 4] w fun e w' => Below w.heap.size w w' ∧ ∃ a' c', e = .returned (.tuple #[.slice a' 1 (1 + c'), .int .i64 0]) ∧ RL w' (fun b => w.heap.size ≤ b) [16] a' := by
  have HR := Lib.hid hr
  clear hr
  go_enter Tryz.func72, Tryz.ntmps72
  go_wp2_with (first
    | (go_at_call 107; refine (nmay_any 4 _ (by omega)).mono ?_; rintro e w1 ⟨rfl, rfl⟩)
    | (go_at_call 108; (with_reducible refine (shifted_4 _ a c (by exact RL.ext (Agree.below (by (repeat (first | with_reducible exact Below.refl _ _ | with_reducible assumption | with_reducible refine Below.trans ?_ (Below.mono (by with_reducible assumption) (by first | omega | (simp; done) | (simp; omega))) | with_reducible refine Below.drew ?_ | with_reducible refine Below.alloc ?_ (by first | omega | (simp; done) | (simp; omega)) _ | with_reducible refine Below.setCell ?_ (by first | omega | (simp; done) | (simp; omega)) _)))) HR.out)).mono ?_); rintro e w2 ⟨hb2, a2, c2, rfl, hr2⟩; have HR2 := Lib.hid hr2; clear hr2)
    | fail "no arm")
  go_ret2
  exact ⟨(by (repeat (first | with_reducible exact Below.refl _ _ | with_reducible assumption | with_reducible refine Below.trans ?_ (Below.mono (by with_reducible assumption) (by first | omega | (simp; done) | (simp; omega))) | with_reducible refine Below.drew ?_ | with_reducible refine Below.alloc ?_ (by first | omega | (simp; done) | (simp; omega)) _ | with_reducible refine Below.setCell ?_ (by first | omega | (simp; done) | (simp; omega)) _))), a2, c2, rfl, HR2.out⟩
theorem shifted_5 (w : World) (a : Option Addr) (c : Nat) (hr : RL w (fun _ => True) [1] a) : Calls Tryz.prog 108 #[.slice a 1 c, .int .i64 2, .int .i64 (-5)] w fun e w' => Below w.heap.size w w' ∧ ∃ a' c', e = .returned (.slice a' 1 (1 + c')) ∧ RL w' (fun b => w.heap.size ≤ b) [32] a' := by
  have HR := Lib.hid hr
  have hmk := mkNat2
  clear hr
  go_enter Tryz.func108, Tryz.ntmps108
  go_wp2_with fail
  go_loopg [13] 2 (fun gk t13' wr => Below w.heap.size w wr ∧ w.heap.size < wr.heap.size ∧ (∀ k, wr.frozen? ⟨w.heap.size, k, none⟩ = false) ∧ wr.cell? ⟨w.heap.size, 1, none⟩ = some (.int .u64 0) ∧ (gk = 2 ∧ t13' = .int .i64 0 ∧ wr.cell? ⟨w.heap.size, 0, none⟩ = some (.int .u64 0) ∨ gk = 1 ∧ t13' = .int .i64 1 ∧ wr.cell? ⟨w.heap.size, 0, none⟩ = some (.int .u64 32) ∨ gk = 0 ∧ t13' = .int .i64 2 ∧ wr.cell? ⟨w.heap.size, 0, none⟩ = some (.int .u64 32)))
  case atStart => exact ⟨(by (repeat (first | with_reducible exact Below.refl _ _ | with_reducible assumption | with_reducible refine Below.trans ?_ (Below.mono (by with_reducible assumption) (by first | omega | (simp; done) | (simp; omega))) | with_reducible refine Below.drew ?_ | with_reducible refine Below.alloc ?_ (by first | omega | (simp; done) | (simp; omega)) _ | with_reducible refine Below.setCell ?_ (by first | omega | (simp; done) | (simp; omega)) _))), by simp, fun k => by go_simp, by go_simp, .inl ⟨rfl, rfl, by go_simp⟩⟩
  case round =>
    obtain ⟨hb, hz, nf, n1, ⟨rfl, rfl, n0⟩ | ⟨rfl, rfl, n0⟩ | ⟨rfl, rfl, n0⟩⟩ := hrel
    · go_wp2_with (go_at_call 178; (with_reducible refine (from_0_5 _ a c (by exact RL.ext (Agree.below (by (repeat (first | with_reducible exact Below.refl _ _ | with_reducible assumption | with_reducible refine Below.trans ?_ (Below.mono (by with_reducible assumption) (by first | omega | (simp; done) | (simp; omega))) | with_reducible refine Below.drew ?_ | with_reducible refine Below.alloc ?_ (by first | omega | (simp; done) | (simp; omega)) _ | with_reducible refine Below.setCell ?_ (by first | omega | (simp; done) | (simp; omega)) _)))) HR.out)).mono ?_); rintro e w1 ⟨rfl, rfl⟩)
      go_roundg 1
      case measure => omega
      case rel => exact ⟨(by (repeat (first | with_reducible exact Below.refl _ _ | with_reducible assumption | with_reducible refine Below.trans ?_ (Below.mono (by with_reducible assumption) (by first | omega | (simp; done) | (simp; omega))) | with_reducible refine Below.drew ?_ | with_reducible refine Below.alloc ?_ (by first | omega | (simp; done) | (simp; omega)) _ | with_reducible refine Below.setCell ?_ (by first | omega | (simp; done) | (simp; omega)) _))), by simp; omega, fun k => by go_simp, by go_simp, .inr (.inl ⟨rfl, by go_num, by go_simp⟩)⟩
    · go_wp2_with (go_at_call 178; (with_reducible refine (from_1_5 _ a c (by exact RL.ext (Agree.below (by (repeat (first | with_reducible exact Below.refl _ _ | with_reducible assumption | with_reducible refine Below.trans ?_ (Below.mono (by with_reducible assumption) (by first | omega | (simp; done) | (simp; omega))) | with_reducible refine Below.drew ?_ | with_reducible refine Below.alloc ?_ (by first | omega | (simp; done) | (simp; omega)) _ | with_reducible refine Below.setCell ?_ (by first | omega | (simp; done) | (simp; omega)) _)))) HR.out)).mono ?_); rintro e w1 ⟨rfl, rfl⟩)
      go_roundg 0
      case measure => omega
      case rel => exact ⟨(by (repeat (first | with_reducible exact Below.refl _ _ | with_reducible assumption | with_reducible refine Below.trans ?_ (Below.mono (by with_reducible assumption) (by first | omega | (simp; done) | (simp; omega))) | with_reducible refine Below.drew ?_ | with_reducible refine Below.alloc ?_ (by first | omega | (simp; done) | (simp; omega)) _ | with_reducible refine Below.setCell ?_ (by first | omega | (simp; done) | (simp; omega)) _))), by simp; omega, fun k => by go_simp, by go_simp, .inr (.inr ⟨rfl, by go_num, by go_simp⟩)⟩
    · go_wp2_with (go_at_call 105; refine (Zra (l := [32, 0]) (x := 32) (.inr ⟨1, rfl⟩) _ (fun _ => True) (some ⟨w.heap.size, 0, none⟩) 0 (by simp) (.inr ⟨w.heap.size, 0, rfl, trivial, fun i hi => (by rcases (by have h9 := hi; simp at h9; omega : i = 0 ∨ i = 1) with rfl | rfl <;> (simp only [Nat.zero_add, List.getElem_cons_zero, List.getElem_cons_succ]; go_simp))⟩)).mono ?_; rintro e w3 ⟨hb3, a', c', rfl, hr3⟩)
      go_ret
      exact ⟨(by (repeat (first | with_reducible exact Below.refl _ _ | with_reducible assumption | with_reducible refine Below.trans ?_ (Below.mono (by with_reducible assumption) (by first | omega | (simp; done) | (simp; omega))) | with_reducible refine Below.drew ?_ | with_reducible refine Below.alloc ?_ (by first | omega | (simp; done) | (simp; omega)) _ | with_reducible refine Below.setCell ?_ (by first | omega | (simp; done) | (simp; omega)) _))), a', c', rfl, RL.mono (fun b h _ => by omega) hr3⟩
theorem shl_5 (w : World) (a : Option Addr) (c : Nat) (hr : RL w (fun _ => True) [1] a) : Calls Tryz.prog 72 #[.slice a 1 c, .int .i64 5] w fun e w' => Below w.heap.size w w' ∧ ∃ a' c', e = .returned (.tuple #[.slice a' 1 (1 + c'), .int .i64 0]) ∧ RL w' (fun b => w.heap.size ≤ b) [32] a' := by
  have HR := Lib.hid hr
  clear hr
  go_enter Tryz.func72, Tryz.ntmps72
  go_wp2_with (first
    | (go_at_call 107; refine (nmay_any 5 _ (by omega)).mono ?_; rintro e w1 ⟨rfl, rfl⟩)
    | (go_at_call 108; (with_reducible refine (shifted_5 _ a c (by exact RL.ext (Agree.below (by (repeat (first | with_reducible exact Below.refl _ _ | with_reducible assumption | with_reducible refine Below.trans ?_ (Below.mono (by with_reducible assumption) (by first | omega | (simp; done) | (simp; omega))) | with_reducible refine Below.drew ?_ | with_reducible refine Below.alloc ?_ (by first | omega | (simp; done) | (simp; omega)) _ | with_reducible refine Below.setCell ?_ (by first | omega | (simp; done) | (simp; omega)) _)))) HR.out)).mono ?_); rintro e w2 ⟨hb2, a2, c2, rfl, hr2⟩; have HR2 := Lib.hid hr2; clear hr2)
    | fail "no arm")
  go_ret2
  exact ⟨(by (repeat (first | with_reducible exact Below.refl _ _ | with_reducible assumption | with_reducible refine Below.trans ?_ (Below.mono (by with_reducible assumption) (by first | omega | (simp; done) | (simp; omega))) | with_reducible refine Below.drew ?_ | with_reducible refine Below.alloc ?_ (by first | omega | (simp; done) | (simp; omega)) _ | with_reducible refine Below.setCell ?_ (by first | omega | (simp; done) | (simp; omega)) _))), a2, c2, rfl, HR2.out⟩
theorem shifted_6 (w : World) (a : Option Addr) (c : Nat) (hr : RL w (fun _ => True) [1] a) : Calls Tryz.prog 108 #[.slice a 1 c, .int .i64 2, .int .i64 (-6)] w fun e w' => Below w.heap.size w w' ∧ ∃ a' c', e = .returned (.slice a' 1 (1 + c')) ∧ RL w' (fun b => w.heap.size ≤ b) [64] a' := by
  have HR := Lib.hid hr
  have hmk := mkNat2
  clear hr
  go_enter Tryz.func108, Tryz.ntmps108
  go_wp2_with fail
  go_loopg [13] 2 (fun gk t13' wr => Below w.heap.size w wr ∧ w.heap.size < wr.heap.size ∧ (∀ k, wr.frozen? ⟨w.heap.size, k, none⟩ = false) ∧ wr.cell? ⟨w.heap.size, 1, none⟩ = some (.int .u64 0) ∧ (gk = 2 ∧ t13' = .int .i64 0 ∧ wr.cell? ⟨w.heap.size, 0, none⟩ = some (.int .u64 0) ∨ gk = 1 ∧ t13' = .int .i64 1 ∧ wr.cell? ⟨w.heap.size, 0, none⟩ = some (.int .u64 64) ∨ gk = 0 ∧ t13' = .int .i64 2 ∧ wr.cell? ⟨w.heap.size, 0, none⟩ = some (.int .u64 64)))
  case atStart => exact ⟨(by (repeat (first | with_reducible exact Below.refl _ _ | with_reducible assumption | with_reducible refine Below.trans ?_ (Below.mono (by with_reducible assumption) (by first | omega | (simp; done) | (simp; omega))) | with_reducible refine Below.drew ?_ | with_reducible refine Below.alloc ?_ (by first | omega | (simp; done) | (simp; omega)) _ | with_reducible refine Below.setCell ?_ (by first | omega | (simp; done) | (simp; omega)) _))), by simp, fun k => by go_simp, by go_simp, .inl ⟨rfl, rfl, by go_simp⟩⟩
  case round =>
    obtain ⟨hb, hz, nf, n1, ⟨rfl, rfl, n0⟩ | ⟨rfl, rfl, n0⟩ | ⟨rfl, rfl, n0⟩⟩ := hrel
    · go_wp2_with (go_at_call 178; (with_reducible refine (from_0_6 _ a c (by exact RL.ext (Agree.below (by (repeat (first | with_reducible exact Below.refl _ _ | with_reducible assumption | with_reducible refine Below.trans ?_ (Below.mono (by with_reducible assumption) (by first | omega | (simp; done) | (simp; omega))) | with_reducible refine Below.drew ?_ | with_reducible refine Below.alloc ?_ (by first | omega | (simp; done) | (simp; omega)) _ | with_reducible refine Below.setCell ?_ (by first | omega | (simp; done) | (simp; omega)) _)))) HR.out)).mono ?_); rintro e w1 ⟨rfl, rfl⟩)
      go_roundg 1
      case measure => omega
      case rel => exact ⟨(by (repeat (first | with_reducible exact Below.refl _ _ | with_reducible assumption | with_reducible refine Below.trans ?_ (Below.mono (by with_reducible assumption) (by first | omega | (simp; done) | (simp; omega))) | with_reducible refine Below.drew ?_ | with_reducible refine Below.alloc ?_ (by first | omega | (simp; done) | (simp; omega)) _ | with_reducible refine Below.setCell ?_ (by first | omega | (simp; done) | (simp; omega)) _))), by simp; omega, fun k => by go_simp, by go_simp, .inr (.inl ⟨rfl, by go_num, by go_simp⟩)⟩
    · go_wp2_with (go_at_call 178; (with_reducible refine (from_1_6 _ a c (by exact RL.ext (Agree.below (by (repeat (first | with_reducible exact Below.refl _ _ | with_reducible assumption | with_reducible refine Below.trans ?_ (Below.mono (by with_reducible assumption) (by first | omega | (simp; done) | (simp; omega))) | with_reducible refine Below.drew ?_ | with_reducible refine Below.alloc ?_ (by first | omega | (simp; done) | (simp; omega)) _ | with_reducible refine Below.setCell ?_ (by first | omega | (simp; done) | (simp; omega)) _)))) HR.out)).mono ?_); rintro e w1 ⟨rfl, rfl⟩)
      go_roundg 0
      case measure => omega
      case rel => exact ⟨(by (repeat (first | with_reducible exact Below.refl _ _ | with_reducible assumption | with_reducible refine Below.trans ?_ (Below.mono (by with_reducible assumption) (by first | omega | (simp; done) | (simp; omega))) | with_reducible refine Below.drew ?_ | with_reducible refine Below.alloc ?_ (by first | omega | (simp; done) | (simp; omega)) _ | with_reducible refine Below.setCell ?_ (by first | omega | (simp; done) | (simp; omega)) _))), by simp; omega, fun k => by go_simp, by go_simp, .inr (.inr ⟨rfl, by go_num, by go_simp⟩)⟩
    · go_wp2_with (go_at_call 105; refine (Zra (l := [64, 0]) (x := 64) (.inr ⟨1, rfl⟩) _ (fun _ => True) (some ⟨w.heap.size, 0, none⟩) 0 (by simp) (.inr ⟨w.heap.size, 0, rfl, trivial, fun i hi => (by rcases (by have h9 := hi; simp at h9; omega : i = 0 ∨ i = 1) with rfl | rfl <;> (simp only [Nat.zero_add, List.getElem_cons_zero, List.getElem_cons_succ]; go_simp))⟩)).mono ?_; rintro e w3 ⟨hb3, a', c', rfl, hr3⟩)
      go_ret
      exact ⟨(by (repeat (first | with_reducible exact Below.refl _ _ | with_reducible assumption | with_reducible refine Below.trans ?_ (Below.mono (by with_reducible assumption) (by first | omega | (simp; done) | (simp; omega))) | with_reducible refine Below.drew ?_ | with_reducible refine Below.alloc ?_ (by first | omega | (simp; done) | (simp; omega)) _ | with_reducible refine Below.setCell ?_ (by first | omega | (simp; done) | (simp; omega)) _))), a', c', rfl, RL.mono (fun b h _ => by omega) hr3⟩
theorem shl_6 (w : World) (a : Option Addr) (c : Nat) (hr : RL w (fun _ => True) [1] a) : Calls Tryz.prog 72 #[.slice a 1 c, .int .i64 6] w fun e w' => Below w.heap.size w w' ∧ ∃ a' c', e = .returned (.tuple #[.slice a' 1 (1 + c'), .int .i64 0]) ∧ RL w' (fun b => w.heap.size ≤ b) [64] a' := by
  have HR := Lib.hid hr
  clear hr
  go_enter Tryz.func72, Tryz.ntmps72
  go_wp2_with (first
    | (go_at_call 107; refine (nmay_any 6 _ (by omega)).mono ?_; rintro e w1 ⟨rfl, rfl⟩)
    | (go_at_call 108; (with_reducible refine (shifted_6 _ a c (by exact RL.ext (Agree.below (by (repeat (first | with_reducible exact Below.refl _ _ | with_reducible assumption | with_reducible refine Below.trans ?_ (Below.mono (by with_reducible assumption) (by first | omega | (simp; done) | (simp; omega))) | with_reducible refine Below.drew ?_ | with_reducible refine Below.alloc ?_ (by first | omega | (simp; done) | (simp; omega)) _ | with_reducible refine Below.setCell ?_ (by first | omega | (simp; done) | (simp; omega)) _)))) HR.out)).mono ?_); rintro e w2 ⟨hb2, a2, c2, rfl, hr2⟩; have HR2 := Lib.hid hr2; clear hr2)
    | fail "no arm")
  go_ret2
  exact ⟨(by (repeat (first | with_reducible exact Below.refl _ _ | with_reducible assumption | with_reducible refine Below.trans ?_ (Below.mono (by with_reducible assumption) (by first | omega | (simp; done) | (simp; omega))) | with_reducible refine Below.drew ?_ | with_reducible refine Below.alloc ?_ (by first | omega | (simp; done) | (simp; omega)) _ | with_reducible refine Below.setCell ?_ (by first | omega | (simp; done) | (simp; omega)) _))), a2, c2, rfl, HR2.out⟩
theorem shifted_7 (w : World) (a : Option Addr) (c : Nat) (hr : RL w (fun _ => True) [1] a) : Calls Tryz.prog 108 #[.slice a 1 c, .int .i64 2, .int .i64 (-7)] w fun e w' => Below w.heap.size w w' ∧ ∃ a' c', e = .returned (.slice a' 1 (1 + c')) ∧ RL w' (fun b => w.heap.size ≤ b) [128] a' := by
  have HR := Lib.hid hr
  have hmk := mkNat2
  clear hr
  go_enter Tryz.func108, Tryz.ntmps108
  go_wp2_with fail
  go_loopg [13] 2 (fun gk t13' wr => Below w.heap.size w wr ∧ w.heap.size < wr.heap.size ∧ (∀ k, wr.frozen? ⟨w.heap.size, k, none⟩ = false) ∧ wr.cell? ⟨w.heap.size, 1, none⟩ = some (.int .u64 0) ∧ (gk = 2 ∧ t13' = .int .i64 0 ∧ wr.cell? ⟨w.heap.size, 0, none⟩ = some (.int .u64 0) ∨ gk = 1 ∧ t13' = .int .i64 1 ∧ wr.cell? ⟨w.heap.size, 0, none⟩ = some (.int .u64 128) ∨ gk = 0 ∧ t13' = .int .i64 2 ∧ wr.cell? ⟨w.heap.size, 0, none⟩ = some (.int .u64 128)))
  case atStart => exact ⟨(by (repeat (first | with_reducible exact Below.refl _ _ | with_reducible assumption | with_reducible refine Below.trans ?_ (Below.mono (by with_reducible assumption) (by first | omega | (simp; done) | (simp; omega))) | with_reducible refine Below.drew ?_ | with_reducible refine Below.alloc ?_ (by first | omega | (simp; done) | (simp; omega)) _ | with_reducible refine Below.setCell ?_ (by first | omega | (simp; done) | (simp; omega)) _))), by simp, fun k => by go_simp, by go_simp, .inl ⟨rfl, rfl, by go_simp⟩⟩
  case round =>
    obtain ⟨hb, hz, nf, n1, ⟨rfl, rfl, n0⟩ | ⟨rfl, rfl, n0⟩ | ⟨rfl, rfl, n0⟩⟩ := hrel
    · go_wp2_with (go_at_call 178; (with_reducible refine (from_0_7 _ a c (by exact RL.ext (Agree.below (by (repeat (first | with_reducible exact Below.refl _ _ | with_reducible assumption | with_reducible refine Below.trans ?_ (Below.mono (by with_reducible assumption) (by first | omega | (simp; done) | (simp; omega))) | with_reducible refine Below.drew ?_ | with_reducible refine Below.alloc ?_ (by first | omega | (simp; done) | (simp; omega)) _ | with_reducible refine Below.setCell ?_ (by first | omega | (simp; done) | (simp; omega)) _)))) HR.out)).mono ?_); rintro e w1 ⟨rfl, rfl⟩)
      go_roundg 1
      case measure => omega
      case rel => exact ⟨(by (repeat (first | with_reducible exact Below.refl _ _ | with_reducible assumption | with_reducible refine Below.trans ?_ (Below.mono (by with_reducible assumption) (by first | omega | (simp; done) | (simp; omega))) | with_reducible refine Below.drew ?_ | with_reducible refine Below.alloc ?_ (by first | omega | (simp; done) | (simp; omega)) _ | with_reducible refine Below.setCell ?_ (by first | omega | (simp; done) | (simp; omega)) _))), by simp; omega, fun k => by go_simp, by go_simp, .inr (.inl ⟨rfl, by go_num, by go_simp⟩)⟩
    · go_wp2_with (go_at_call 178; (with_reducible refine (from_1_7 _ a c (by exact RL.ext (Agree.below (by (repeat (first | with_reducible exact Below.refl _ _ | with_reducible assumption | with_reducible refine Below.trans ?_ (Below.mono (by with_reducible assumption) (by first | omega | (simp; done) | (simp; omega))) | with_reducible refine Below.drew ?_ | with_reducible refine Below.alloc ?_ (by first | omega | (simp; done) | (simp; omega)) _ | with_reducible refine Below.setCell ?_ (by first | omega | (simp; done) | (simp; omega)) _)))) HR.out)).mono ?_); rintro e w1 ⟨rfl, rfl⟩)
      go_roundg 0
      case measure => omega
      case rel => exact ⟨(by (repeat (first | with_reducible exact Below.refl _ _ | with_reducible assumption | with_reducible refine Below.trans ?_ (Below.mono (by with_reducible assumption) (by first | omega | (simp; done) | (simp; omega))) | with_reducible refine Below.drew ?_ | with_reducible refine Below.alloc ?_ (by first | omega | (simp; done) | (simp; omega)) _ | with_reducible refine Below.setCell ?_ (by first | omega | (simp; done) | (simp; omega)) _))), by simp; omega, fun k => by go_simp, by go_simp, .inr (.inr ⟨rfl, by go_num, by go_simp⟩)⟩
    · go_wp2_with (go_at_call 105; refine (Zra (l := [128, 0]) (x := 128) (.inr ⟨1, rfl⟩) _ (fun _ => True) (some ⟨w.heap.size, 0, none⟩) 0 (by simp) (.inr ⟨w.heap.size, 0, rfl, trivial, fun i hi => (by rcases (by have h9 := hi; simp at h9; omega : i = 0 ∨ i = 1) with rfl | rfl <;> (simp only [Nat.zero_add, List.getElem_cons_zero, List.getElem_cons_succ]; go_simp))⟩)).mono ?_; rintro e w3 ⟨hb3, a', c', rfl, hr3⟩)
      go_ret
      exact ⟨(by (repeat (first | with_reducible exact Below.refl _ _ | with_reducible assumption | with_reducible refine Below.trans ?_ (Below.mono (by with_reducible assumption) (by first | omega | (simp; done) | (simp; omega))) | with_reducible refine Below.drew ?_ | with_reducible refine Below.alloc ?_ (by first | omega | (simp; done) | (simp; omega)) _ | with_reducible refine Below.setCell ?_ (by first | omega | (simp; done) | (simp; omega)) _))), a', c', rfl, RL.mono (fun b h _ => by omega) hr3⟩
theorem shl_7 (w : World) (a : Option Addr) (c : Nat) (hr : RL w (fun _ => True) [1] a) : Calls Tryz.prog 72 #[.slice a 1 c, .int .i64 7] w fun e w' => Below w.heap.size w w' ∧ ∃ a' c', e = .returned (.tuple #[.slice a' 1 (1 + c'), .int .i64 0]) ∧ RL w' (fun b => w.heap.size ≤ b) [128] a' := by
  have HR := Lib.hid hr
  clear hr
  go_enter Tryz.func72, Tryz.ntmps72
  go_wp2_with (first
    | (go_at_call 107; refine (nmay_any 7 _ (by omega)).mono ?_; rintro e w1 ⟨rfl, rfl⟩)
    | (go_at_call 108; (with_reducible refine (shifted_7 _ a c (by exact RL.ext (Agree.below (by (repeat (first | with_reducible exact Below.refl _ _ | with_reducible assumption | with_reducible refine Below.trans ?_ (Below.mono (by with_reducible assumption) (by first | omega | (simp; done) | (simp; omega))) | with_reducible refine Below.drew ?_ | with_reducible refine Below.alloc ?_ (by first | omega | (simp; done) | (simp; omega)) _ | with_reducible refine Below.setCell ?_ (by first | omega | (simp; done) | (simp; omega)) _)))) HR.out)).mono ?_); rintro e w2 ⟨hb2, a2, c2, rfl, hr2⟩; have HR2 := Lib.hid hr2; clear hr2)
    | fail "no arm")
  go_ret2
  exact ⟨(by (repeat (first | with_reducible exact Below.refl _ _ | with_reducible assumption | with_reducible refine Below.trans ?_ (Below.mono (by with_reducible assumption) (by first | omega | (simp; done) | (simp; omega))) | with_reducible refine Below.drew ?_ | with_reducible refine Below.alloc ?_ (by first | omega | (simp; done) | (simp; omega)) _ | with_reducible refine Below.setCell ?_ (by first | omega | (simp; done) | (simp; omega)) _))), a2, c2, rfl, HR2.out⟩
theorem shifted_8 (w : World) (a : Option Addr) (c : Nat) (hr : RL w (fun _ => True) [1] a) : Calls Tryz.prog 108 #[.slice a 1 c, .int .i64 2, .int .i64 (-8)] w fun e w' => Below w.heap.size w w' ∧ ∃ a' c', e = .returned (.slice a' 1 (1 + c')) ∧ RL w' (fun b => w.heap.size ≤ b) [256] a' := by
  have HR := Lib.hid hr
  have hmk := mkNat2
  clear hr
  go_enter Tryz.func108, Tryz.ntmps108
  go_wp2_with fail
  go_loopg [13] 2 (fun gk t13' wr => Below w.heap.size w wr ∧ w.heap.size < wr.heap.size ∧ (∀ k, wr.frozen? ⟨w.heap.size, k, none⟩ = false) ∧ wr.cell? ⟨w.heap.size, 1, none⟩ = some (.int .u64 0) ∧ (gk = 2 ∧ t13' = .int .i64 0 ∧ wr.cell? ⟨w.heap.size, 0, none⟩ = some (.int .u64 0) ∨ gk = 1 ∧ t13' = .int .i64 1 ∧ wr.cell? ⟨w.heap.size, 0, none⟩ = some (.int .u64 256) ∨ gk = 0 ∧ t13' = .int .i64 2 ∧ wr.cell? ⟨w.heap.size, 0, none⟩ = some (.int .u64 256)))
  case atStart => exact ⟨(by (repeat (first | with_reducible exact Below.refl _ _ | with_reducible assumption | with_reducible refine Below.trans ?_ (Below.mono (by with_reducible assumption) (by first | omega | (simp; done) | (simp; omega))) | with_reducible refine Below.drew ?_ | with_reducible refine Below.alloc ?_ (by first | omega | (simp; done) | (simp; omega)) _ | with_reducible refine Below.setCell ?_ (by first | omega | (simp; done) | (simp; omega)) _))), by simp, fun k => by go_simp, by go_simp, .inl ⟨rfl, rfl, by go_simp⟩⟩
  case round =>
    obtain ⟨hb, hz, nf, n1, ⟨rfl, rfl, n0⟩ | ⟨rfl, rfl, n0⟩ | ⟨rfl, rfl, n0⟩⟩ := hrel
    · go_wp2_with (go_at_call 178; (with_reducible refine (from_0_8 _ a c (by exact RL.ext (Agree.below (by (repeat (first | with_reducible exact Below.refl _ _ | with_reducible assumption | with_reducible refine Below.trans ?_ (Below.mono (by with_reducible assumption) (by first | omega | (simp; done) | (simp; omega))) | with_reducible refine Below.drew ?_ | with_reducible refine Below.alloc ?_ (by first | omega | (simp; done) | (simp; omega)) _ | with_reducible refine Below.setCell ?_ (by first | omega | (simp; done) | (simp; omega)) _)))) HR.out)).mono ?_); rintro e w1 ⟨rfl, rfl⟩)
      go_roundg 1
      case measure => omega
      case rel => exact ⟨(by (repeat (first | with_reducible exact Below.refl _ _ | with_reducible assumption | with_reducible refine Below.trans ?_ (Below.mono (by with_reducible assumption) (by first | omega | (simp; done) | (simp; omega))) | with_reducible refine Below.drew ?_ | with_reducible refine Below.alloc ?_ (by first | omega | (simp; done) | (simp; omega)) _ | with_reducible refine Below.setCell ?_ (by first | omega | (simp; done) | (simp; omega)) _))), by simp; omega, fun k => by go_simp, by go_simp, .inr (.inl ⟨rfl, by go_num, by go_simp⟩)⟩
    · go_wp2_with (go_at_call 178; (with_reducible refine (from_1_8 _ a c (by exact RL.ext (Agree.below (by (repeat (first | with_reducible exact Below.refl _ _ | with_reducible assumption | with_reducible refine Below.trans ?_ (Below.mono (by with_reducible assumption) (by first | omega | (simp; done) | (simp; omega))) | with_reducible refine Below.drew ?_ | with_reducible refine Below.alloc ?_ (by first | omega | (simp; done) | (simp; omega)) _ | with_reducible refine Below.setCell ?_ (by first | omega | (simp; done) | (simp; omega)) _)))) HR.out)).mono ?_); rintro e w1 ⟨rfl, rfl⟩)
      go_roundg 0
      case measure => omega
      case rel => exact ⟨(by (repeat (first | with_reducible exact Below.refl _ _ | with_reducible assumption | with_reducible refine Below.trans ?_ (Below.mono (by with_reducible assumption) (by first | omega | (simp; done) | (simp; omega))) | with_reducible refine Below.drew ?_ | with_reducible refine Below.alloc ?_ (by first | omega | (simp; done) | (simp; omega)) _ | with_reducible refine Below.setCell ?_ (by first | omega | (simp; done) | (simp; omega)) _))), by simp; omega, fun k => by go_simp, by go_simp, .inr (.inr ⟨rfl, by go_num, by go_simp⟩)⟩
    · go_wp2_with (go_at_call 105; refine (Zra (l := [256, 0]) (x := 256) (.inr ⟨1, rfl⟩) _ (fun _ => True) (some ⟨w.heap.size, 0, none⟩) 0 (by simp) (.inr ⟨w.heap.size, 0, rfl, trivial, fun i hi => (by rcases (by have h9 := hi; simp at h9; omega : i = 0 ∨ i = 1) with rfl | rfl <;> (simp only [Nat.zero_add, List.getElem_cons_zero, List.getElem_cons_succ]; go_simp))⟩)).mono ?_; rintro e w3 ⟨hb3, a', c', rfl, hr3⟩)
      go_ret
      exact ⟨(by (repeat (first | with_reducible exact Below.refl _ _ | with_reducible assumption | with_reducible refine Below.trans ?_ (Below.mono (by with_reducible assumption) (by first | omega | (simp; done) | (simp; omega))) | with_reducible refine Below.drew ?_ | with_reducible refine Below.alloc ?_ (by first | omega | (simp; done) | (simp; omega)) _ | with_reducible refine Below.setCell ?_ (by first | omega | (simp; done) | (simp; omega)) _))), a', c', rfl, RL.mono (fun b h _ => by omega) hr3⟩
theorem shl_8 (w : World) (a : Option Addr) (c : Nat) (hr : RL w (fun _ => True) [1] a) : Calls Tryz.prog 72 #[.slice a 1 c, .int .i64 8] w fun e w' => Below w.heap.size w w' ∧ ∃ a' c', e = .returned (.tuple #[.slice a' 1 (1 + c'), .int .i64 0]) ∧ RL w' (fun b => w.heap.size ≤ b) [256] a' := by
  have HR := Lib.hid hr
  clear hr
  go_enter Tryz.func72, Tryz.ntmps72
  go_wp2_with (first
    | (go_at_call 107; refine (nmay_any 8 _ (by omega)).mono ?_; rintro e w1 ⟨rfl, rfl⟩)
    | (go_at_call 108; (with_reducible refine (shifted_8 _ a c (by exact RL.ext (Agree.below (by (repeat (first | with_reducible exact Below.refl _ _ | with_reducible assumption | with_reducible refine Below.trans ?_ (Below.mono (by with_reducible assumption) (by first | omega | (simp; done) | (simp; omega))) | with_reducible refine Below.drew ?_ | with_reducible refine Below.alloc ?_ (by first | omega | (simp; done) | (simp; omega)) _ | with_reducible refine Below.setCell ?_ (by first | omega | (simp; done) | (simp; omega)) _)))) HR.out)).mono ?_); rintro e w2 ⟨hb2, a2, c2, rfl, hr2⟩; have HR2 := Lib.hid hr2; clear hr2)
    | fail "no arm")
  go_ret2
  exact ⟨(by (repeat (first | with_reducible exact Below.refl _ _ | with_reducible assumption | with_reducible refine Below.trans ?_ (Below.mono (by with_reducible assumption) (by first | omega | (simp; done) | (simp; omega))) | with_reducible refine Below.drew ?_ | with_reducible refine Below.alloc ?_ (by first | omega | (simp; done) | (simp; omega)) _ | with_reducible refine Below.setCell ?_ (by first | omega | (simp; done) | (simp; omega)) _))), a2, c2, rfl, HR2.out⟩
theorem shl_any (m : Nat) (hm : m ≤ 8) (w : World) (a : Option Addr) (c : Nat) (hr : RL w (fun _ => True) [1] a) : Calls Tryz.prog 72 #[.slice a 1 c, .int .i64 m] w fun e w' => Below w.heap.size w w' ∧ ∃ a' c', e = .returned (.tuple #[.slice a' 1 (1 + c'), .int .i64 0]) ∧ RL w' (fun b => w.heap.size ≤ b) [2 ^ m] a' := by
  rcases (by omega : m = 0 ∨ m = 1 ∨ m = 2 ∨ m = 3 ∨ m = 4 ∨ m = 5 ∨ m = 6 ∨ m = 7 ∨ m = 8) with rfl | rfl | rfl | rfl | rfl | rfl | rfl | rfl | rfl
  · exact shl_0 w a c hr
  · exact shl_1 w a c hr
  · exact shl_2 w a c hr
  · exact shl_3 w a c hr
  · exact shl_4 w a c hr
  · exact shl_5 w a c hr
  · exact shl_6 w a c hr
  · exact shl_7 w a c hr
  · exact shl_8 w a c hr
set_option maxRecDepth 100000 in
set_option maxHeartbeats 1000000 in
theorem rhalf_any (m : Nat) (hm : m ≤ 8) (w : World) : Calls Tryz.prog 42 #[.int .i64 m] w (Zqu (1, 2 ^ m) w) := by
  have HS := Lib.hid (fun (W : World) a c h => shl_any m hm W a c h)
  have hp : 0 < 2 ^ m := Nat.pos_of_ne_zero (by simp)
  have hl : W7 (2 ^ m) = [2 ^ m] := W8 hp
  generalize 2 ^ m = P at *
  clear hp
  unfold Zqu
  show Calls Tryz.prog 42 #[.int .i64 m] w fun e w' => Below w.heap.size w w' ∧ ∃ (a b : Option Addr) (c d : Nat), e = .returned (.tuple #[.agg #[.bool false, .slice a 1 (1 + c), .slice b (W7 P).length ((W7 P).length + d)], .int .i64 0]) ∧ RL w' (fun b => w.heap.size ≤ b) [1] a ∧ RL w' (fun b => w.heap.size ≤ b) (W7 P) b
  rw [hl]
  clear hl
  go_enter Tryz.func42, Tryz.ntmps42
  go_wp2_with (first
    | (go_at_call 71; refine (rone_any _).mono ?_; rintro e w1 ⟨hb1, a1, c1, rfl, hr1⟩; have HR1 := Lib.hid (show RL w1 _ [1] a1 from hr1); clear hr1; obtain ⟨hc1, hf1⟩ := Za hb1; have hz1 := hb1.size; (try simp at hz1); have y1 : w.heap.size < w1.heap.size := (by omega))
    | (go_at_call 72; (with_reducible refine (HS.out _ a1 (1 + c1) (by exact RL.mono (fun _ _ _ => trivial) (RL.ext (Agree.below (by (repeat (first | with_reducible exact Below.refl _ _ | with_reducible assumption | with_reducible refine Below.trans ?_ (Below.mono (by with_reducible assumption) (by first | omega | (simp; done) | (simp; omega))) | with_reducible refine Below.drew ?_ | with_reducible refine Below.alloc ?_ (by first | omega | (simp; done) | (simp; omega)) _ | with_reducible refine Below.setCell ?_ (by first | omega | (simp; done) | (simp; omega)) _)))) HR1.out))).mono ?_); rintro e w2 ⟨hb2, a2, c2, rfl, hr2⟩; have HR2 := Lib.hid hr2; clear hr2; obtain ⟨hc2, hf2⟩ := Za hb2; have hz2 := hb2.size; (try simp at hz2); have y2 : w.heap.size < w2.heap.size := (by omega))
    | (go_at_call 70; refine (ZrS 1 _ (by omega)).mono ?_; rintro e w3 ⟨hb3, a3, c3, rfl, hr3⟩; have HR3 := Lib.hid (show RL w3 _ [1] a3 from hr3); clear hr3; obtain ⟨hc3, hf3⟩ := Za hb3; have hz3 := hb3.size; (try simp at hz3); have y3 : w.heap.size < w3.heap.size := (by omega))
    | fail "no arm")
  have l1 : (W7 1).length = 1 := rfl
  refine bodyPost_ret (v := .tuple #[.agg #[.bool false, .slice a3 1 (1 + c3), .slice a2 1 (1 + c2)], .int .i64 0]) (by first | (simp [results, Tryz.f42, go_sem]; done) | (simp [results, Tryz.f42, go_sem, *]; done)) rfl ?_
  exact ⟨(by (repeat (first | with_reducible exact Below.refl _ _ | with_reducible assumption | with_reducible refine Below.trans ?_ (Below.mono (by with_reducible assumption) (by first | omega | (simp; done) | (simp; omega))) | with_reducible refine Below.drew ?_ | with_reducible refine Below.alloc ?_ (by first | omega | (simp; done) | (simp; omega)) _ | with_reducible refine Below.setCell ?_ (by first | omega | (simp; done) | (simp; omega)) _))), a3, a2, c3, c2, rfl, RL.mono (fun b h _ => by omega) (RL.ext (A := fun b => w.heap.size + 1 ≤ b) (WN _ _ _) (RL.mono (fun b h _ => by (try simp at h); omega) HR3.out)), RL.mono (fun b h _ => by omega) (RL.ext (A := fun b => w.heap.size + 1 ≤ b) (WN _ _ _) (RL.ext (Agree.below hb3) (RL.mono (fun b h _ => by (try simp at h); omega) HR2.out)))⟩
end Go.Proofs.YtkdffbdnjfgpeaaGreat
