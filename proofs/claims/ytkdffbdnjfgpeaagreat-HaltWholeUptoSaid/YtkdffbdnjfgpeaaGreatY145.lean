/- Part 146. -/
import Derived.Test.YtkdffbdnjfgpeaaGreatY144
import Derived.Test.YtkdffbdnjfgpeaaGreatY140
set_option linter.all false
namespace Go.Proofs.YtkdffbdnjfgpeaaGreat
open Go Go.RowKit
theorem limb0_any (x : Nat) (w : World) (A : Nat → Prop) (a : Option Addr) (c : Nat) (hr : RL w A (W7 x) a) : Calls Tryz.prog 179 #[.slice a (W7 x).length c, .int .i64 0] w fun e w' => e = .returned (.int .u64 x) ∧ w = w' := by
  have h := ZpS (W7 x) 0 w A a c (Zrn x) (by unfold Zv; omega) hr
  rw [if_pos (Int.le_refl 0), show (0 : Int).toNat = 0 from rfl, getD_limbs] at h
  exact h
theorem limb1_any (x : Nat) (w : World) (A : Nat → Prop) (a : Option Addr) (c : Nat) (hr : RL w A (W7 x) a) : Calls Tryz.prog 179 #[.slice a (W7 x).length c, .int .i64 1] w fun e w' => e = .returned (.int .u64 0) ∧ w = w' := by
  have h := ZpS (W7 x) 1 w A a c (Zrn x) (by unfold Zv; omega) hr
  have h1 : (W7 x).getD (1 : Int).toNat 0 = 0 := by
    have := Zr2 x
    rw [show (1 : Int).toNat = 1 from rfl, List.getD_eq_getElem?_getD, List.getElem?_eq_none this]; rfl
  rw [if_pos (by omega), h1] at h
  exact h
set_option maxRecDepth 100000 in
set_option maxHeartbeats 1000000 in
theorem each_zz  (B : Nat) (w : World) (A A2 : Nat → Prop) (a b : Option Addr) (c d : Nat) (hB : B < w.heap.size) (hAB : ¬ A B) (hAB2 : ¬ A2 B) (hr : RL w A (W7 0) a) (hs : RL w A2 (W7 0) b) (h0 : w.cell? ⟨B, 0, none⟩ = some (.int .u64 0)) (hf : w.frozen? ⟨B, 0, none⟩ = false) :
    Calls Tryz.prog 234 #[.slice a 0 c, .slice b 0 d, .func (.func 235) #[] #[.pointer (some ⟨B, 0, none⟩)]] w fun e w' => But B w.heap.size w w' ∧ ∃ a' c', e = .returned (.slice a' (W7 0).length ((W7 0).length + c')) ∧ RL w' (fun b => w.heap.size ≤ b) (W7 0) a' := by
  have HR := Lib.hid (RL.mono (A' := fun b => A b ∧ b < w.heap.size) (fun b h hb => ⟨h, hb⟩) hr)
  have HS := Lib.hid (RL.mono (A' := fun b => A2 b ∧ b < w.heap.size) (fun b h hb => ⟨h, hb⟩) hs)
  have hmk := Zth
  have HX0 : Hid (∀ W C, RL W (fun b => A b ∧ b < w.heap.size) (W7 0) a → Calls Tryz.prog 179 #[.slice a 0 C, .int .i64 0] W fun e w' => e = .returned (.int .u64 (0 : Nat)) ∧ W = w') := Lib.hid (fun W C h => by have := limb0_any 0 W _ a C h; rw [show (W7 0).length = 0 by rw [Zpu]; rfl] at this; exact this)
  have HX1 : Hid (∀ W C, RL W (fun b => A b ∧ b < w.heap.size) (W7 0) a → Calls Tryz.prog 179 #[.slice a 0 C, .int .i64 1] W fun e w' => e = .returned (.int .u64 0) ∧ W = w') := Lib.hid (fun W C h => by have := limb1_any 0 W _ a C h; rw [show (W7 0).length = 0 by rw [Zpu]; rfl] at this; exact this)
  have HY0 : Hid (∀ W C, RL W (fun b => A2 b ∧ b < w.heap.size) (W7 0) b → Calls Tryz.prog 179 #[.slice b 0 C, .int .i64 0] W fun e w' => e = .returned (.int .u64 (0 : Nat)) ∧ W = w') := Lib.hid (fun W C h => by have := limb0_any 0 W _ b C h; rw [show (W7 0).length = 0 by rw [Zpu]; rfl] at this; exact this)
  have HY1 : Hid (∀ W C, RL W (fun b => A2 b ∧ b < w.heap.size) (W7 0) b → Calls Tryz.prog 179 #[.slice b 0 C, .int .i64 1] W fun e w' => e = .returned (.int .u64 0) ∧ W = w') := Lib.hid (fun W C h => by have := limb1_any 0 W _ b C h; rw [show (W7 0).length = 0 by rw [Zpu]; rfl] at this; exact this)
  have HA0 : Hid (∀ W : World, W.cell? ⟨B, 0, none⟩ = some (.int .u64 0) → W.frozen? ⟨B, 0, none⟩ = false → Calls Tryz.prog 235 #[.int .u64 0, .int .u64 0, .pointer (some ⟨B, 0, none⟩)] W fun e w' => e = .returned (.int .u64 0) ∧ w' = W.setCell ⟨B, 0, none⟩ (.int .u64 0)) := Lib.hid (fun W h1 h2 => add1_any 0 0 B W (by omega) h1 h2)
  have HAG : Hid (∀ (W : World) (P : Nat → Prop), But B w.heap.size w W → (¬ P B) → Agree (fun b => P b ∧ b < w.heap.size) w W) := Lib.hid (fun W P hb hP p u hp hc => hb.ag hp.2 (fun e => hP (e ▸ hp.1)) hc)
  have hne : ¬ w.heap.size = B := by omega
  have hne2 : ¬ B = w.heap.size := by omega
  clear hr hs
  go_enter Tryz.func234, Tryz.ntmps234
  go_wp2_with fail
  go_loopg [18] 1 (fun gk t18' wr => But B w.heap.size w wr ∧ w.heap.size < wr.heap.size ∧ wr.cell? ⟨B, 0, none⟩ = some (.int .u64 0) ∧ wr.frozen? ⟨B, 0, none⟩ = false ∧ (∀ k, wr.frozen? ⟨w.heap.size, k, none⟩ = false) ∧ (gk = 1 ∧ t18' = .int .i64 0 ∧ wr.cell? ⟨w.heap.size, 0, none⟩ = some (.int .u64 0) ∨ gk = 0 ∧ t18' = .int .i64 1 ∧ wr.cell? ⟨w.heap.size, 0, none⟩ = some (.int .u64 0)))
  case atStart => exact ⟨(by (repeat (first | with_reducible exact But.refl _ _ _ | with_reducible assumption | with_reducible refine But.trans ?_ (But.mono (by with_reducible assumption) (by first | omega | (simp; done) | (simp; omega))) | with_reducible refine But.trans ?_ (But.of (Below.mono (by with_reducible assumption) (by first | omega | (simp; done) | (simp; omega)))) | with_reducible refine But.drew ?_ | with_reducible refine But.alloc ?_ (by first | omega | (simp; done) | (simp; omega)) _ | with_reducible refine But.setOwn ?_ _ _ | with_reducible refine But.setCell ?_ (by first | omega | (simp; done) | (simp; omega)) _))), by simp, by go_simp, by go_simp, fun k => by go_simp, .inl ⟨rfl, rfl, by go_simp⟩⟩
  case round =>
    obtain ⟨hb, hz, q0, qf, nf, hst⟩ := hrel
    have HRr := Lib.hid (RL.ext (HAG.out wr A hb hAB) HR.out)
    have HSr := Lib.hid (RL.ext (HAG.out wr A2 hb hAB2) HS.out)
    have hBr : B < wr.heap.size := by omega
    rcases hst with ⟨rfl, rfl, n0⟩ | ⟨rfl, rfl, n0⟩
    · clear hne2
      go_wp2_with (first
        | (go_at_call 179; (with_reducible refine (HX0.out _ _ (by exact HRr.out)).mono ?_); rintro e w1 ⟨rfl, rfl⟩)
        | (go_at_call 179; (with_reducible refine (HX1.out _ _ (by exact HRr.out)).mono ?_); rintro e w1 ⟨rfl, rfl⟩)
        | (go_at_call 179; (with_reducible refine (HY0.out _ _ (by exact HSr.out)).mono ?_); rintro e w1 ⟨rfl, rfl⟩)
        | (go_at_call 179; (with_reducible refine (HY1.out _ _ (by exact HSr.out)).mono ?_); rintro e w1 ⟨rfl, rfl⟩)
        | (go_at_call 235; (with_reducible refine (HA0.out _ (by go_simp) (by go_simp)).mono ?_); rintro e w2 ⟨rfl, rfl⟩)
        | fail "no arm")
      go_roundg 0
      case measure => omega
      case rel => exact ⟨(by (repeat (first | with_reducible exact But.refl _ _ _ | with_reducible assumption | with_reducible refine But.trans ?_ (But.mono (by with_reducible assumption) (by first | omega | (simp; done) | (simp; omega))) | with_reducible refine But.trans ?_ (But.of (Below.mono (by with_reducible assumption) (by first | omega | (simp; done) | (simp; omega)))) | with_reducible refine But.drew ?_ | with_reducible refine But.alloc ?_ (by first | omega | (simp; done) | (simp; omega)) _ | with_reducible refine But.setOwn ?_ _ _ | with_reducible refine But.setCell ?_ (by first | omega | (simp; done) | (simp; omega)) _))), by simp; omega, by go_simp, by go_simp, fun k => by go_simp, .inr ⟨rfl, by go_num, by go_simp⟩⟩
    · go_wp2_with (go_at_call 105; refine (Zra (l := [0]) (x := 0) (Zp6 0) _ (fun _ => True) (some ⟨w.heap.size, 0, none⟩) 0 (by simp) (.inr ⟨w.heap.size, 0, rfl, trivial, fun i hi => (by rcases (by simpa using hi : i = 0) with rfl; go_simp)⟩)).mono ?_; rintro e w3 ⟨hb3, a', c', rfl, hr3⟩)
      go_ret
      exact ⟨hb.trans (But.of (hb3.mono (by omega))), a', c', rfl, RL.mono (fun b h _ => by omega) hr3⟩
set_option maxRecDepth 100000 in
set_option maxHeartbeats 1000000 in
theorem each_zy (y : Nat) (hy0 : 0 < y) (z : Nat) (hz : z = 0 + y) (h64 : z < 18446744073709551616) (B : Nat) (w : World) (A A2 : Nat → Prop) (a b : Option Addr) (c d : Nat) (hB : B < w.heap.size) (hAB : ¬ A B) (hAB2 : ¬ A2 B) (hr : RL w A (W7 0) a) (hs : RL w A2 (W7 y) b) (h0 : w.cell? ⟨B, 0, none⟩ = some (.int .u64 0)) (hf : w.frozen? ⟨B, 0, none⟩ = false) :
    Calls Tryz.prog 234 #[.slice a 0 c, .slice b 1 d, .func (.func 235) #[] #[.pointer (some ⟨B, 0, none⟩)]] w fun e w' => But B w.heap.size w w' ∧ ∃ a' c', e = .returned (.slice a' (W7 z).length ((W7 z).length + c')) ∧ RL w' (fun b => w.heap.size ≤ b) (W7 z) a' := by
  have HR := Lib.hid (RL.mono (A' := fun b => A b ∧ b < w.heap.size) (fun b h hb => ⟨h, hb⟩) hr)
  have HS := Lib.hid (RL.mono (A' := fun b => A2 b ∧ b < w.heap.size) (fun b h hb => ⟨h, hb⟩) hs)
  have hmk := mkNat2
  have HX0 : Hid (∀ W C, RL W (fun b => A b ∧ b < w.heap.size) (W7 0) a → Calls Tryz.prog 179 #[.slice a 0 C, .int .i64 0] W fun e w' => e = .returned (.int .u64 (0 : Nat)) ∧ W = w') := Lib.hid (fun W C h => by have := limb0_any 0 W _ a C h; rw [show (W7 0).length = 0 by rw [Zpu]; rfl] at this; exact this)
  have HX1 : Hid (∀ W C, RL W (fun b => A b ∧ b < w.heap.size) (W7 0) a → Calls Tryz.prog 179 #[.slice a 0 C, .int .i64 1] W fun e w' => e = .returned (.int .u64 0) ∧ W = w') := Lib.hid (fun W C h => by have := limb1_any 0 W _ a C h; rw [show (W7 0).length = 0 by rw [Zpu]; rfl] at this; exact this)
  have HY0 : Hid (∀ W C, RL W (fun b => A2 b ∧ b < w.heap.size) (W7 y) b → Calls Tryz.prog 179 #[.slice b 1 C, .int .i64 0] W fun e w' => e = .returned (.int .u64 (y : Nat)) ∧ W = w') := Lib.hid (fun W C h => by have := limb0_any y W _ b C h; rw [show (W7 y).length = 1 by rw [W8 hy0]; rfl] at this; exact this)
  have HY1 : Hid (∀ W C, RL W (fun b => A2 b ∧ b < w.heap.size) (W7 y) b → Calls Tryz.prog 179 #[.slice b 1 C, .int .i64 1] W fun e w' => e = .returned (.int .u64 0) ∧ W = w') := Lib.hid (fun W C h => by have := limb1_any y W _ b C h; rw [show (W7 y).length = 1 by rw [W8 hy0]; rfl] at this; exact this)
  have HA1 : Hid (∀ W : World, W.cell? ⟨B, 0, none⟩ = some (.int .u64 0) → W.frozen? ⟨B, 0, none⟩ = false → Calls Tryz.prog 235 #[.int .u64 0, .int .u64 (y : Nat), .pointer (some ⟨B, 0, none⟩)] W fun e w' => e = .returned (.int .u64 z) ∧ w' = W.setCell ⟨B, 0, none⟩ (.int .u64 0)) := Lib.hid (fun W h1 h2 => by have := add1_any 0 y B W (by omega) h1 h2; rw [← hz] at this; exact this)
  have HA0 : Hid (∀ W : World, W.cell? ⟨B, 0, none⟩ = some (.int .u64 0) → W.frozen? ⟨B, 0, none⟩ = false → Calls Tryz.prog 235 #[.int .u64 0, .int .u64 0, .pointer (some ⟨B, 0, none⟩)] W fun e w' => e = .returned (.int .u64 0) ∧ w' = W.setCell ⟨B, 0, none⟩ (.int .u64 0)) := Lib.hid (fun W h1 h2 => add1_any 0 0 B W (by omega) h1 h2)
  have HAG : Hid (∀ (W : World) (P : Nat → Prop), But B w.heap.size w W → (¬ P B) → Agree (fun b => P b ∧ b < w.heap.size) w W) := Lib.hid (fun W P hb hP p u hp hc => hb.ag hp.2 (fun e => hP (e ▸ hp.1)) hc)
  have hne : ¬ w.heap.size = B := by omega
  have hne2 : ¬ B = w.heap.size := by omega
  clear hr hs hz h64
  go_enter Tryz.func234, Tryz.ntmps234
  go_wp2_with fail
  go_loopg [18] 2 (fun gk t18' wr => But B w.heap.size w wr ∧ w.heap.size < wr.heap.size ∧ wr.cell? ⟨B, 0, none⟩ = some (.int .u64 0) ∧ wr.frozen? ⟨B, 0, none⟩ = false ∧ (∀ k, wr.frozen? ⟨w.heap.size, k, none⟩ = false) ∧ (gk = 2 ∧ t18' = .int .i64 0 ∧ wr.cell? ⟨w.heap.size, 0, none⟩ = some (.int .u64 0) ∧ wr.cell? ⟨w.heap.size, 1, none⟩ = some (.int .u64 0) ∨ gk = 1 ∧ t18' = .int .i64 1 ∧ wr.cell? ⟨w.heap.size, 0, none⟩ = some (.int .u64 z) ∧ wr.cell? ⟨w.heap.size, 1, none⟩ = some (.int .u64 0) ∨ gk = 0 ∧ t18' = .int .i64 2 ∧ wr.cell? ⟨w.heap.size, 0, none⟩ = some (.int .u64 z) ∧ wr.cell? ⟨w.heap.size, 1, none⟩ = some (.int .u64 0)))
  case atStart => exact ⟨(by (repeat (first | with_reducible exact But.refl _ _ _ | with_reducible assumption | with_reducible refine But.trans ?_ (But.mono (by with_reducible assumption) (by first | omega | (simp; done) | (simp; omega))) | with_reducible refine But.trans ?_ (But.of (Below.mono (by with_reducible assumption) (by first | omega | (simp; done) | (simp; omega)))) | with_reducible refine But.drew ?_ | with_reducible refine But.alloc ?_ (by first | omega | (simp; done) | (simp; omega)) _ | with_reducible refine But.setOwn ?_ _ _ | with_reducible refine But.setCell ?_ (by first | omega | (simp; done) | (simp; omega)) _))), by simp, by go_simp, by go_simp, fun k => by go_simp, .inl ⟨rfl, rfl, by go_simp, by go_simp⟩⟩
  case round =>
    obtain ⟨hb, hz, q0, qf, nf, hst⟩ := hrel
    have HRr := Lib.hid (RL.ext (HAG.out wr A hb hAB) HR.out)
    have HSr := Lib.hid (RL.ext (HAG.out wr A2 hb hAB2) HS.out)
    have hBr : B < wr.heap.size := by omega
    rcases hst with ⟨rfl, rfl, n0, n1⟩ | ⟨rfl, rfl, n0, n1⟩ | ⟨rfl, rfl, n0, n1⟩
    · clear hne2
      go_wp2_with (first
        | (go_at_call 179; (with_reducible refine (HX0.out _ _ (by exact HRr.out)).mono ?_); rintro e w1 ⟨rfl, rfl⟩)
        | (go_at_call 179; (with_reducible refine (HX1.out _ _ (by exact HRr.out)).mono ?_); rintro e w1 ⟨rfl, rfl⟩)
        | (go_at_call 179; (with_reducible refine (HY0.out _ _ (by exact HSr.out)).mono ?_); rintro e w1 ⟨rfl, rfl⟩)
        | (go_at_call 179; (with_reducible refine (HY1.out _ _ (by exact HSr.out)).mono ?_); rintro e w1 ⟨rfl, rfl⟩)
        | (go_at_call 235; (with_reducible refine (HA1.out _ (by go_simp) (by go_simp)).mono ?_); rintro e w2 ⟨rfl, rfl⟩)
        | (go_at_call 235; (with_reducible refine (HA0.out _ (by go_simp) (by go_simp)).mono ?_); rintro e w2 ⟨rfl, rfl⟩)
        | fail "no arm")
      go_roundg 1
      case measure => omega
      case rel => exact ⟨(by (repeat (first | with_reducible exact But.refl _ _ _ | with_reducible assumption | with_reducible refine But.trans ?_ (But.mono (by with_reducible assumption) (by first | omega | (simp; done) | (simp; omega))) | with_reducible refine But.trans ?_ (But.of (Below.mono (by with_reducible assumption) (by first | omega | (simp; done) | (simp; omega)))) | with_reducible refine But.drew ?_ | with_reducible refine But.alloc ?_ (by first | omega | (simp; done) | (simp; omega)) _ | with_reducible refine But.setOwn ?_ _ _ | with_reducible refine But.setCell ?_ (by first | omega | (simp; done) | (simp; omega)) _))), by simp; omega, by go_simp, by go_simp, fun k => by go_simp, .inr (.inl ⟨rfl, by go_num, by go_simp, by go_simp⟩)⟩
    · clear hne2
      go_wp2_with (first
        | (go_at_call 179; (with_reducible refine (HX0.out _ _ (by exact HRr.out)).mono ?_); rintro e w1 ⟨rfl, rfl⟩)
        | (go_at_call 179; (with_reducible refine (HX1.out _ _ (by exact HRr.out)).mono ?_); rintro e w1 ⟨rfl, rfl⟩)
        | (go_at_call 179; (with_reducible refine (HY0.out _ _ (by exact HSr.out)).mono ?_); rintro e w1 ⟨rfl, rfl⟩)
        | (go_at_call 179; (with_reducible refine (HY1.out _ _ (by exact HSr.out)).mono ?_); rintro e w1 ⟨rfl, rfl⟩)
        | (go_at_call 235; (with_reducible refine (HA1.out _ (by go_simp) (by go_simp)).mono ?_); rintro e w2 ⟨rfl, rfl⟩)
        | (go_at_call 235; (with_reducible refine (HA0.out _ (by go_simp) (by go_simp)).mono ?_); rintro e w2 ⟨rfl, rfl⟩)
        | fail "no arm")
      go_roundg 0
      case measure => omega
      case rel => exact ⟨(by (repeat (first | with_reducible exact But.refl _ _ _ | with_reducible assumption | with_reducible refine But.trans ?_ (But.mono (by with_reducible assumption) (by first | omega | (simp; done) | (simp; omega))) | with_reducible refine But.trans ?_ (But.of (Below.mono (by with_reducible assumption) (by first | omega | (simp; done) | (simp; omega)))) | with_reducible refine But.drew ?_ | with_reducible refine But.alloc ?_ (by first | omega | (simp; done) | (simp; omega)) _ | with_reducible refine But.setOwn ?_ _ _ | with_reducible refine But.setCell ?_ (by first | omega | (simp; done) | (simp; omega)) _))), by simp; omega, by go_simp, by go_simp, fun k => by go_simp, .inr (.inr ⟨rfl, by go_num, by go_simp, by go_simp⟩)⟩
    · go_wp2_with (go_at_call 105; refine (Zra (l := [z, 0]) (x := z) (.inr ⟨1, rfl⟩) _ (fun _ => True) (some ⟨w.heap.size, 0, none⟩) 0 (by simp) (.inr ⟨w.heap.size, 0, rfl, trivial, fun i hi => (by rcases (by have h9 := hi; simp at h9; omega : i = 0 ∨ i = 1) with rfl | rfl <;> (simp only [Nat.zero_add, List.getElem_cons_zero, List.getElem_cons_succ]; go_simp))⟩)).mono ?_; rintro e w3 ⟨hb3, a', c', rfl, hr3⟩)
      go_ret
      exact ⟨hb.trans (But.of (hb3.mono (by omega))), a', c', rfl, RL.mono (fun b h _ => by omega) hr3⟩
set_option maxRecDepth 100000 in
set_option maxHeartbeats 1000000 in
theorem each_xz (x : Nat) (hx0 : 0 < x) (z : Nat) (hz : z = x + 0) (h64 : z < 18446744073709551616) (B : Nat) (w : World) (A A2 : Nat → Prop) (a b : Option Addr) (c d : Nat) (hB : B < w.heap.size) (hAB : ¬ A B) (hAB2 : ¬ A2 B) (hr : RL w A (W7 x) a) (hs : RL w A2 (W7 0) b) (h0 : w.cell? ⟨B, 0, none⟩ = some (.int .u64 0)) (hf : w.frozen? ⟨B, 0, none⟩ = false) :
    Calls Tryz.prog 234 #[.slice a 1 c, .slice b 0 d, .func (.func 235) #[] #[.pointer (some ⟨B, 0, none⟩)]] w fun e w' => But B w.heap.size w w' ∧ ∃ a' c', e = .returned (.slice a' (W7 z).length ((W7 z).length + c')) ∧ RL w' (fun b => w.heap.size ≤ b) (W7 z) a' := by
  have HR := Lib.hid (RL.mono (A' := fun b => A b ∧ b < w.heap.size) (fun b h hb => ⟨h, hb⟩) hr)
  have HS := Lib.hid (RL.mono (A' := fun b => A2 b ∧ b < w.heap.size) (fun b h hb => ⟨h, hb⟩) hs)
  have hmk := mkNat2
  have HX0 : Hid (∀ W C, RL W (fun b => A b ∧ b < w.heap.size) (W7 x) a → Calls Tryz.prog 179 #[.slice a 1 C, .int .i64 0] W fun e w' => e = .returned (.int .u64 (x : Nat)) ∧ W = w') := Lib.hid (fun W C h => by have := limb0_any x W _ a C h; rw [show (W7 x).length = 1 by rw [W8 hx0]; rfl] at this; exact this)
  have HX1 : Hid (∀ W C, RL W (fun b => A b ∧ b < w.heap.size) (W7 x) a → Calls Tryz.prog 179 #[.slice a 1 C, .int .i64 1] W fun e w' => e = .returned (.int .u64 0) ∧ W = w') := Lib.hid (fun W C h => by have := limb1_any x W _ a C h; rw [show (W7 x).length = 1 by rw [W8 hx0]; rfl] at this; exact this)
  have HY0 : Hid (∀ W C, RL W (fun b => A2 b ∧ b < w.heap.size) (W7 0) b → Calls Tryz.prog 179 #[.slice b 0 C, .int .i64 0] W fun e w' => e = .returned (.int .u64 (0 : Nat)) ∧ W = w') := Lib.hid (fun W C h => by have := limb0_any 0 W _ b C h; rw [show (W7 0).length = 0 by rw [Zpu]; rfl] at this; exact this)
  have HY1 : Hid (∀ W C, RL W (fun b => A2 b ∧ b < w.heap.size) (W7 0) b → Calls Tryz.prog 179 #[.slice b 0 C, .int .i64 1] W fun e w' => e = .returned (.int .u64 0) ∧ W = w') := Lib.hid (fun W C h => by have := limb1_any 0 W _ b C h; rw [show (W7 0).length = 0 by rw [Zpu]; rfl] at this; exact this)
  have HA1 : Hid (∀ W : World, W.cell? ⟨B, 0, none⟩ = some (.int .u64 0) → W.frozen? ⟨B, 0, none⟩ = false → Calls Tryz.prog 235 #[.int .u64 (x : Nat), .int .u64 0, .pointer (some ⟨B, 0, none⟩)] W fun e w' => e = .returned (.int .u64 z) ∧ w' = W.setCell ⟨B, 0, none⟩ (.int .u64 0)) := Lib.hid (fun W h1 h2 => by have := add1_any x 0 B W (by omega) h1 h2; rw [← hz] at this; exact this)
  have HA0 : Hid (∀ W : World, W.cell? ⟨B, 0, none⟩ = some (.int .u64 0) → W.frozen? ⟨B, 0, none⟩ = false → Calls Tryz.prog 235 #[.int .u64 0, .int .u64 0, .pointer (some ⟨B, 0, none⟩)] W fun e w' => e = .returned (.int .u64 0) ∧ w' = W.setCell ⟨B, 0, none⟩ (.int .u64 0)) := Lib.hid (fun W h1 h2 => add1_any 0 0 B W (by omega) h1 h2)
  have HAG : Hid (∀ (W : World) (P : Nat → Prop), But B w.heap.size w W → (¬ P B) → Agree (fun b => P b ∧ b < w.heap.size) w W) := Lib.hid (fun W P hb hP p u hp hc => hb.ag hp.2 (fun e => hP (e ▸ hp.1)) hc)
  have hne : ¬ w.heap.size = B := by omega
  have hne2 : ¬ B = w.heap.size := by omega
  clear hr hs hz h64
  go_enter Tryz.func234, Tryz.ntmps234
  go_wp2_with fail
  go_loopg [18] 2 (fun gk t18' wr => But B w.heap.size w wr ∧ w.heap.size < wr.heap.size ∧ wr.cell? ⟨B, 0, none⟩ = some (.int .u64 0) ∧ wr.frozen? ⟨B, 0, none⟩ = false ∧ (∀ k, wr.frozen? ⟨w.heap.size, k, none⟩ = false) ∧ (gk = 2 ∧ t18' = .int .i64 0 ∧ wr.cell? ⟨w.heap.size, 0, none⟩ = some (.int .u64 0) ∧ wr.cell? ⟨w.heap.size, 1, none⟩ = some (.int .u64 0) ∨ gk = 1 ∧ t18' = .int .i64 1 ∧ wr.cell? ⟨w.heap.size, 0, none⟩ = some (.int .u64 z) ∧ wr.cell? ⟨w.heap.size, 1, none⟩ = some (.int .u64 0) ∨ gk = 0 ∧ t18' = .int .i64 2 ∧ wr.cell? ⟨w.heap.size, 0, none⟩ = some (.int .u64 z) ∧ wr.cell? ⟨w.heap.size, 1, none⟩ = some (.int .u64 0)))
  case atStart => exact ⟨(by (repeat (first | with_reducible exact But.refl _ _ _ | with_reducible assumption | with_reducible refine But.trans ?_ (But.mono (by with_reducible assumption) (by first | omega | (simp; done) | (simp; omega))) | with_reducible refine But.trans ?_ (But.of (Below.mono (by with_reducible assumption) (by first | omega | (simp; done) | (simp; omega)))) | with_reducible refine But.drew ?_ | with_reducible refine But.alloc ?_ (by first | omega | (simp; done) | (simp; omega)) _ | with_reducible refine But.setOwn ?_ _ _ | with_reducible refine But.setCell ?_ (by first | omega | (simp; done) | (simp; omega)) _))), by simp, by go_simp, by go_simp, fun k => by go_simp, .inl ⟨rfl, rfl, by go_simp, by go_simp⟩⟩
  case round =>
    obtain ⟨hb, hz, q0, qf, nf, hst⟩ := hrel
    have HRr := Lib.hid (RL.ext (HAG.out wr A hb hAB) HR.out)
    have HSr := Lib.hid (RL.ext (HAG.out wr A2 hb hAB2) HS.out)
    have hBr : B < wr.heap.size := by omega
    rcases hst with ⟨rfl, rfl, n0, n1⟩ | ⟨rfl, rfl, n0, n1⟩ | ⟨rfl, rfl, n0, n1⟩
    · clear hne2
      go_wp2_with (first
        | (go_at_call 179; (with_reducible refine (HX0.out _ _ (by exact HRr.out)).mono ?_); rintro e w1 ⟨rfl, rfl⟩)
        | (go_at_call 179; (with_reducible refine (HX1.out _ _ (by exact HRr.out)).mono ?_); rintro e w1 ⟨rfl, rfl⟩)
        | (go_at_call 179; (with_reducible refine (HY0.out _ _ (by exact HSr.out)).mono ?_); rintro e w1 ⟨rfl, rfl⟩)
        | (go_at_call 179; (with_reducible refine (HY1.out _ _ (by exact HSr.out)).mono ?_); rintro e w1 ⟨rfl, rfl⟩)
        | (go_at_call 235; (with_reducible refine (HA1.out _ (by go_simp) (by go_simp)).mono ?_); rintro e w2 ⟨rfl, rfl⟩)
        | (go_at_call 235; (with_reducible refine (HA0.out _ (by go_simp) (by go_simp)).mono ?_); rintro e w2 ⟨rfl, rfl⟩)
        | fail "no arm")
      go_roundg 1
      case measure => omega
      case rel => exact ⟨(by (repeat (first | with_reducible exact But.refl _ _ _ | with_reducible assumption | with_reducible refine But.trans ?_ (But.mono (by with_reducible assumption) (by first | omega | (simp; done) | (simp; omega))) | with_reducible refine But.trans ?_ (But.of (Below.mono (by with_reducible assumption) (by first | omega | (simp; done) | (simp; omega)))) | with_reducible refine But.drew ?_ | with_reducible refine But.alloc ?_ (by first | omega | (simp; done) | (simp; omega)) _ | with_reducible refine But.setOwn ?_ _ _ | with_reducible refine But.setCell ?_ (by first | omega | (simp; done) | (simp; omega)) _))), by simp; omega, by go_simp, by go_simp, fun k => by go_simp, .inr (.inl ⟨rfl, by go_num, by go_simp, by go_simp⟩)⟩
    · clear hne2
      go_wp2_with (first
        | (go_at_call 179; (with_reducible refine (HX0.out _ _ (by exact HRr.out)).mono ?_); rintro e w1 ⟨rfl, rfl⟩)
        | (go_at_call 179; (with_reducible refine (HX1.out _ _ (by exact HRr.out)).mono ?_); rintro e w1 ⟨rfl, rfl⟩)
        | (go_at_call 179; (with_reducible refine (HY0.out _ _ (by exact HSr.out)).mono ?_); rintro e w1 ⟨rfl, rfl⟩)
        | (go_at_call 179; (with_reducible refine (HY1.out _ _ (by exact HSr.out)).mono ?_); rintro e w1 ⟨rfl, rfl⟩)
        | (go_at_call 235; (with_reducible refine (HA1.out _ (by go_simp) (by go_simp)).mono ?_); rintro e w2 ⟨rfl, rfl⟩)
        | (go_at_call 235; (with_reducible refine (HA0.out _ (by go_simp) (by go_simp)).mono ?_); rintro e w2 ⟨rfl, rfl⟩)
        | fail "no arm")
      go_roundg 0
      case measure => omega
      case rel => exact ⟨(by (repeat (first | with_reducible exact But.refl _ _ _ | with_reducible assumption | with_reducible refine But.trans ?_ (But.mono (by with_reducible assumption) (by first | omega | (simp; done) | (simp; omega))) | with_reducible refine But.trans ?_ (But.of (Below.mono (by with_reducible assumption) (by first | omega | (simp; done) | (simp; omega)))) | with_reducible refine But.drew ?_ | with_reducible refine But.alloc ?_ (by first | omega | (simp; done) | (simp; omega)) _ | with_reducible refine But.setOwn ?_ _ _ | with_reducible refine But.setCell ?_ (by first | omega | (simp; done) | (simp; omega)) _))), by simp; omega, by go_simp, by go_simp, fun k => by go_simp, .inr (.inr ⟨rfl, by go_num, by go_simp, by go_simp⟩)⟩
    · go_wp2_with (go_at_call 105; refine (Zra (l := [z, 0]) (x := z) (.inr ⟨1, rfl⟩) _ (fun _ => True) (some ⟨w.heap.size, 0, none⟩) 0 (by simp) (.inr ⟨w.heap.size, 0, rfl, trivial, fun i hi => (by rcases (by have h9 := hi; simp at h9; omega : i = 0 ∨ i = 1) with rfl | rfl <;> (simp only [Nat.zero_add, List.getElem_cons_zero, List.getElem_cons_succ]; go_simp))⟩)).mono ?_; rintro e w3 ⟨hb3, a', c', rfl, hr3⟩)
      go_ret
      exact ⟨hb.trans (But.of (hb3.mono (by omega))), a', c', rfl, RL.mono (fun b h _ => by omega) hr3⟩
set_option maxRecDepth 100000 in
set_option maxHeartbeats 1000000 in
theorem each_xy (x : Nat) (hx0 : 0 < x) (y : Nat) (hy0 : 0 < y) (z : Nat) (hz : z = x + y) (h64 : z < 18446744073709551616) (B : Nat) (w : World) (A A2 : Nat → Prop) (a b : Option Addr) (c d : Nat) (hB : B < w.heap.size) (hAB : ¬ A B) (hAB2 : ¬ A2 B) (hr : RL w A (W7 x) a) (hs : RL w A2 (W7 y) b) (h0 : w.cell? ⟨B, 0, none⟩ = some (.int .u64 0)) (hf : w.frozen? ⟨B, 0, none⟩ = false) :
    Calls Tryz.prog 234 #[.slice a 1 c, .slice b 1 d, .func (.func 235) #[] #[.pointer (some ⟨B, 0, none⟩)]] w fun e w' => But B w.heap.size w w' ∧ ∃ a' c', e = .returned (.slice a' (W7 z).length ((W7 z).length + c')) ∧ RL w' (fun b => w.heap.size ≤ b) (W7 z) a' := by
  have HR := Lib.hid (RL.mono (A' := fun b => A b ∧ b < w.heap.size) (fun b h hb => ⟨h, hb⟩) hr)
  have HS := Lib.hid (RL.mono (A' := fun b => A2 b ∧ b < w.heap.size) (fun b h hb => ⟨h, hb⟩) hs)
  have hmk := mkNat2
  have HX0 : Hid (∀ W C, RL W (fun b => A b ∧ b < w.heap.size) (W7 x) a → Calls Tryz.prog 179 #[.slice a 1 C, .int .i64 0] W fun e w' => e = .returned (.int .u64 (x : Nat)) ∧ W = w') := Lib.hid (fun W C h => by have := limb0_any x W _ a C h; rw [show (W7 x).length = 1 by rw [W8 hx0]; rfl] at this; exact this)
  have HX1 : Hid (∀ W C, RL W (fun b => A b ∧ b < w.heap.size) (W7 x) a → Calls Tryz.prog 179 #[.slice a 1 C, .int .i64 1] W fun e w' => e = .returned (.int .u64 0) ∧ W = w') := Lib.hid (fun W C h => by have := limb1_any x W _ a C h; rw [show (W7 x).length = 1 by rw [W8 hx0]; rfl] at this; exact this)
  have HY0 : Hid (∀ W C, RL W (fun b => A2 b ∧ b < w.heap.size) (W7 y) b → Calls Tryz.prog 179 #[.slice b 1 C, .int .i64 0] W fun e w' => e = .returned (.int .u64 (y : Nat)) ∧ W = w') := Lib.hid (fun W C h => by have := limb0_any y W _ b C h; rw [show (W7 y).length = 1 by rw [W8 hy0]; rfl] at this; exact this)
  have HY1 : Hid (∀ W C, RL W (fun b => A2 b ∧ b < w.heap.size) (W7 y) b → Calls Tryz.prog 179 #[.slice b 1 C, .int .i64 1] W fun e w' => e = .returned (.int .u64 0) ∧ W = w') := Lib.hid (fun W C h => by have := limb1_any y W _ b C h; rw [show (W7 y).length = 1 by rw [W8 hy0]; rfl] at this; exact this)
  have HA1 : Hid (∀ W : World, W.cell? ⟨B, 0, none⟩ = some (.int .u64 0) → W.frozen? ⟨B, 0, none⟩ = false → Calls Tryz.prog 235 #[.int .u64 (x : Nat), .int .u64 (y : Nat), .pointer (some ⟨B, 0, none⟩)] W fun e w' => e = .returned (.int .u64 z) ∧ w' = W.setCell ⟨B, 0, none⟩ (.int .u64 0)) := Lib.hid (fun W h1 h2 => by have := add1_any x y B W (by omega) h1 h2; rw [← hz] at this; exact this)
  have HA0 : Hid (∀ W : World, W.cell? ⟨B, 0, none⟩ = some (.int .u64 0) → W.frozen? ⟨B, 0, none⟩ = false → Calls Tryz.prog 235 #[.int .u64 0, .int .u64 0, .pointer (some ⟨B, 0, none⟩)] W fun e w' => e = .returned (.int .u64 0) ∧ w' = W.setCell ⟨B, 0, none⟩ (.int .u64 0)) := Lib.hid (fun W h1 h2 => add1_any 0 0 B W (by omega) h1 h2)
  have HAG : Hid (∀ (W : World) (P : Nat → Prop), But B w.heap.size w W → (¬ P B) → Agree (fun b => P b ∧ b < w.heap.size) w W) := Lib.hid (fun W P hb hP p u hp hc => hb.ag hp.2 (fun e => hP (e ▸ hp.1)) hc)
  have hne : ¬ w.heap.size = B := by omega
  have hne2 : ¬ B = w.heap.size := by omega
  clear hr hs hz h64
  go_enter Tryz.func234, Tryz.ntmps234
  go_wp2_with fail
  go_loopg [18] 2 (fun gk t18' wr => But B w.heap.size w wr ∧ w.heap.size < wr.heap.size ∧ wr.cell? ⟨B, 0, none⟩ = some (.int .u64 0) ∧ wr.frozen? ⟨B, 0, none⟩ = false ∧ (∀ k, wr.frozen? ⟨w.heap.size, k, none⟩ = false) ∧ (gk = 2 ∧ t18' = .int .i64 0 ∧ wr.cell? ⟨w.heap.size, 0, none⟩ = some (.int .u64 0) ∧ wr.cell? ⟨w.heap.size, 1, none⟩ = some (.int .u64 0) ∨ gk = 1 ∧ t18' = .int .i64 1 ∧ wr.cell? ⟨w.heap.size, 0, none⟩ = some (.int .u64 z) ∧ wr.cell? ⟨w.heap.size, 1, none⟩ = some (.int .u64 0) ∨ gk = 0 ∧ t18' = .int .i64 2 ∧ wr.cell? ⟨w.heap.size, 0, none⟩ = some (.int .u64 z) ∧ wr.cell? ⟨w.heap.size, 1, none⟩ = some (.int .u64 0)))
  case atStart => exact ⟨(by (repeat (first | with_reducible exact But.refl _ _ _ | with_reducible assumption | with_reducible refine But.trans ?_ (But.mono (by with_reducible assumption) (by first | omega | (simp; done) | (simp; omega))) | with_reducible refine But.trans ?_ (But.of (Below.mono (by with_reducible assumption) (by first | omega | (simp; done) | (simp; omega)))) | with_reducible refine But.drew ?_ | with_reducible refine But.alloc ?_ (by first | omega | (simp; done) | (simp; omega)) _ | with_reducible refine But.setOwn ?_ _ _ | with_reducible refine But.setCell ?_ (by first | omega | (simp; done) | (simp; omega)) _))), by simp, by go_simp, by go_simp, fun k => by go_simp, .inl ⟨rfl, rfl, by go_simp, by go_simp⟩⟩
  case round =>
    obtain ⟨hb, hz, q0, qf, nf, hst⟩ := hrel
    have HRr := Lib.hid (RL.ext (HAG.out wr A hb hAB) HR.out)
    have HSr := Lib.hid (RL.ext (HAG.out wr A2 hb hAB2) HS.out)
    have hBr : B < wr.heap.size := by omega
    rcases hst with ⟨rfl, rfl, n0, n1⟩ | ⟨rfl, rfl, n0, n1⟩ | ⟨rfl, rfl, n0, n1⟩
    · clear hne2
      go_wp2_with (first
        | (go_at_call 179; (with_reducible refine (HX0.out _ _ (by exact HRr.out)).mono ?_); rintro e w1 ⟨rfl, rfl⟩)
        | (go_at_call 179; (with_reducible refine (HX1.out _ _ (by exact HRr.out)).mono ?_); rintro e w1 ⟨rfl, rfl⟩)
        | (go_at_call 179; (with_reducible refine (HY0.out _ _ (by exact HSr.out)).mono ?_); rintro e w1 ⟨rfl, rfl⟩)
        | (go_at_call 179; (with_reducible refine (HY1.out _ _ (by exact HSr.out)).mono ?_); rintro e w1 ⟨rfl, rfl⟩)
        | (go_at_call 235; (with_reducible refine (HA1.out _ (by go_simp) (by go_simp)).mono ?_); rintro e w2 ⟨rfl, rfl⟩)
        | (go_at_call 235; (with_reducible refine (HA0.out _ (by go_simp) (by go_simp)).mono ?_); rintro e w2 ⟨rfl, rfl⟩)
        | fail "no arm")
      go_roundg 1
      case measure => omega
      case rel => exact ⟨(by (repeat (first | with_reducible exact But.refl _ _ _ | with_reducible assumption | with_reducible refine But.trans ?_ (But.mono (by with_reducible assumption) (by first | omega | (simp; done) | (simp; omega))) | with_reducible refine But.trans ?_ (But.of (Below.mono (by with_reducible assumption) (by first | omega | (simp; done) | (simp; omega)))) | with_reducible refine But.drew ?_ | with_reducible refine But.alloc ?_ (by first | omega | (simp; done) | (simp; omega)) _ | with_reducible refine But.setOwn ?_ _ _ | with_reducible refine But.setCell ?_ (by first | omega | (simp; done) | (simp; omega)) _))), by simp; omega, by go_simp, by go_simp, fun k => by go_simp, .inr (.inl ⟨rfl, by go_num, by go_simp, by go_simp⟩)⟩
    · clear hne2
      go_wp2_with (first
        | (go_at_call 179; (with_reducible refine (HX0.out _ _ (by exact HRr.out)).mono ?_); rintro e w1 ⟨rfl, rfl⟩)
        | (go_at_call 179; (with_reducible refine (HX1.out _ _ (by exact HRr.out)).mono ?_); rintro e w1 ⟨rfl, rfl⟩)
        | (go_at_call 179; (with_reducible refine (HY0.out _ _ (by exact HSr.out)).mono ?_); rintro e w1 ⟨rfl, rfl⟩)
        | (go_at_call 179; (with_reducible refine (HY1.out _ _ (by exact HSr.out)).mono ?_); rintro e w1 ⟨rfl, rfl⟩)
        | (go_at_call 235; (with_reducible refine (HA1.out _ (by go_simp) (by go_simp)).mono ?_); rintro e w2 ⟨rfl, rfl⟩)
        | (go_at_call 235; (with_reducible refine (HA0.out _ (by go_simp) (by go_simp)).mono ?_); rintro e w2 ⟨rfl, rfl⟩)
        | fail "no arm")
      go_roundg 0
      case measure => omega
      case rel => exact ⟨(by (repeat (first | with_reducible exact But.refl _ _ _ | with_reducible assumption | with_reducible refine But.trans ?_ (But.mono (by with_reducible assumption) (by first | omega | (simp; done) | (simp; omega))) | with_reducible refine But.trans ?_ (But.of (Below.mono (by with_reducible assumption) (by first | omega | (simp; done) | (simp; omega)))) | with_reducible refine But.drew ?_ | with_reducible refine But.alloc ?_ (by first | omega | (simp; done) | (simp; omega)) _ | with_reducible refine But.setOwn ?_ _ _ | with_reducible refine But.setCell ?_ (by first | omega | (simp; done) | (simp; omega)) _))), by simp; omega, by go_simp, by go_simp, fun k => by go_simp, .inr (.inr ⟨rfl, by go_num, by go_simp, by go_simp⟩)⟩
    · go_wp2_with (go_at_call 105; refine (Zra (l := [z, 0]) (x := z) (.inr ⟨1, rfl⟩) _ (fun _ => True) (some ⟨w.heap.size, 0, none⟩) 0 (by simp) (.inr ⟨w.heap.size, 0, rfl, trivial, fun i hi => (by rcases (by have h9 := hi; simp at h9; omega : i = 0 ∨ i = 1) with rfl | rfl <;> (simp only [Nat.zero_add, List.getElem_cons_zero, List.getElem_cons_succ]; go_simp))⟩)).mono ?_; rintro e w3 ⟨hb3, a', c', rfl, hr3⟩)
      go_ret
      exact ⟨hb.trans (But.of (hb3.mono (by omega))), a', c', rfl, RL.mono (fun b h _ => by omega) hr3⟩
end Go.Proofs.YtkdffbdnjfgpeaaGreat
