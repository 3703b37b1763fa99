/- Part 148. -/
import Derived.Deep.CutRange
import Derived.Deep.RegionHeld3
import Derived.Deep.RegionLaw
import Derived.Laws.EntriesVeiled
import Derived.Test.YtkdffbdnjfgpeaaGreatY2
import Derived.Test.YtkdffbdnjfgpeaaGreatY41
import Derived.Test.YtkdffbdnjfgpeaaGreatY146
import Derived.Test.YtkdffbdnjfgpeaaGreatY140
set_option linter.all false
namespace Go.Proofs.YtkdffbdnjfgpeaaGreat
open Go Go.RowKit
def sgnN (x : Nat) : Int := if x = 0 then 0 else 1
set_option maxRecDepth 100000 in
theorem wsign_any (x : Nat) (w : World) (A : Nat → Prop) (a : Option Addr) (c : Nat) (hx : x < 18446744073709551616) (hr : RL w A (W7 x) a) :
    Calls Tryz.prog 109 #[.agg #[.bool false, .slice a (W7 x).length ((W7 x).length + c)]] w fun e w' => e = .returned (.int .i64 (sgnN x)) ∧ Below w.heap.size w w' := by
  have HZ := Lib.hid (fun (W : World) (A : Nat → Prop) h => Zr4 x W A a c hx h)
  have HR := Lib.hid hr
  clear hr
  rcases Nat.eq_zero_or_pos x with h0 | h0
  · have hs : sgnN x = 0 := if_pos h0
    have hz : (x == 0) = true := by simp [h0]
    rw [hs]
    rw [hz] at HZ
    clear h0 hs hz
    go_enter Tryz.func109, Tryz.ntmps109
    go_wp2_with (go_at_call 98; refine (HZ.out _ A (by exact RL.ext (Agree.below (by (repeat (first | with_reducible exact Below.refl _ _ | with_reducible assumption | with_reducible refine Below.trans ?_ (Below.mono (by with_reducible assumption) (by first | omega | (simp; done) | (simp; omega))) | with_reducible refine Below.drew ?_ | with_reducible refine Below.alloc ?_ (by first | omega | (simp; done) | (simp; omega)) _ | with_reducible refine Below.setCell ?_ (by first | omega | (simp; done) | (simp; omega)) _)))) HR.out)).mono ?_; rintro e w1 ⟨rfl, hb1⟩; obtain ⟨hc1, hf1⟩ := Za hb1; have hz1 := hb1.size; (try simp at hz1); have y1 : w.heap.size < w1.heap.size := (by omega))
    go_ret
    exact ⟨rfl, (by (repeat (first | with_reducible exact Below.refl _ _ | with_reducible assumption | with_reducible refine Below.trans ?_ (Below.mono (by with_reducible assumption) (by first | omega | (simp; done) | (simp; omega))) | with_reducible refine Below.drew ?_ | with_reducible refine Below.alloc ?_ (by first | omega | (simp; done) | (simp; omega)) _ | with_reducible refine Below.setCell ?_ (by first | omega | (simp; done) | (simp; omega)) _)))⟩
  · have hs : sgnN x = 1 := if_neg (by omega)
    have hz : (x == 0) = false := by simp; omega
    rw [hs]
    rw [hz] at HZ
    clear h0 hs hz
    go_enter Tryz.func109, Tryz.ntmps109
    go_wp2_with (go_at_call 98; refine (HZ.out _ A (by exact RL.ext (Agree.below (by (repeat (first | with_reducible exact Below.refl _ _ | with_reducible assumption | with_reducible refine Below.trans ?_ (Below.mono (by with_reducible assumption) (by first | omega | (simp; done) | (simp; omega))) | with_reducible refine Below.drew ?_ | with_reducible refine Below.alloc ?_ (by first | omega | (simp; done) | (simp; omega)) _ | with_reducible refine Below.setCell ?_ (by first | omega | (simp; done) | (simp; omega)) _)))) HR.out)).mono ?_; rintro e w1 ⟨rfl, hb1⟩; obtain ⟨hc1, hf1⟩ := Za hb1; have hz1 := hb1.size; (try simp at hz1); have y1 : w.heap.size < w1.heap.size := (by omega))
    go_ret
    exact ⟨rfl, (by (repeat (first | with_reducible exact Below.refl _ _ | with_reducible assumption | with_reducible refine Below.trans ?_ (Below.mono (by with_reducible assumption) (by first | omega | (simp; done) | (simp; omega))) | with_reducible refine Below.drew ?_ | with_reducible refine Below.alloc ?_ (by first | omega | (simp; done) | (simp; omega)) _ | with_reducible refine Below.setCell ?_ (by first | omega | (simp; done) | (simp; omega)) _)))⟩
theorem cmpN_sgn (x y : Nat) : Zqb x y = if sgnN x < sgnN y then -1 else if sgnN y < sgnN x then 1 else sgnN x * Zqb x y := by
  unfold Zqb sgnN
  rcases Nat.eq_zero_or_pos x with rfl | hx <;> rcases Nat.eq_zero_or_pos y with rfl | hy
  · rfl
  · rw [if_pos hy, if_pos rfl, if_neg (by omega : ¬ y = 0)]; rfl
  · rw [if_neg (by omega : ¬ x < 0), if_pos hx, if_neg (by omega : ¬ x = 0), if_pos rfl]; rfl
  · have e1 : (if x = 0 then (0 : Int) else 1) = 1 := if_neg (by omega)
    have e2 : (if y = 0 then (0 : Int) else 1) = 1 := if_neg (by omega)
    rw [e1, e2, if_neg (by decide : ¬ (1 : Int) < 1), if_neg (by decide : ¬ (1 : Int) < 1), Int.one_mul]
set_option maxRecDepth 100000 in
set_option maxHeartbeats 2000000 in
theorem wcmp_any (x y : Nat) (w : World) (A A2 : Nat → Prop) (a b : Option Addr) (c d : Nat) (hx : x < 18446744073709551616) (hy : y < 18446744073709551616) (hr : RL w A (W7 x) a) (hs : RL w A2 (W7 y) b) :
    Calls Tryz.prog 73 #[.agg #[.bool false, .slice a (W7 x).length ((W7 x).length + c)], .agg #[.bool false, .slice b (W7 y).length ((W7 y).length + d)]] w fun e w' => e = .returned (.int .i64 (Zqb x y)) ∧ Below w.heap.size w w' := by
  have HX := Lib.hid (fun (W : World) h => wsign_any x W A a c hx h)
  have HY := Lib.hid (fun (W : World) h => wsign_any y W A2 b d hy h)
  have HCM := Lib.hid (fun (W : World) h h2 => Zro x y W A A2 a b c d h h2)
  have HR := Lib.hid hr
  have HS := Lib.hid hs
  have hc := cmpN_sgn x y
  have hk : Zqb x y = -1 ∨ Zqb x y = 0 ∨ Zqb x y = 1 := by unfold Zqb; split; exact .inl rfl; split; exact .inr (.inr rfl); exact .inr (.inl rfl)
  generalize Zqb x y = k at *
  have hp : (sgnN x = 0 ∨ sgnN x = 1) ∧ (sgnN y = 0 ∨ sgnN y = 1) := by unfold sgnN; constructor <;> split <;> simp
  generalize sgnN x = p at *
  generalize sgnN y = q at *
  have hw : IntKind.i64.wrap (p * k) = p * k := IntWalk.i64_in _ (by rcases hp.1 with rfl | rfl <;> rcases hk with rfl | rfl | rfl <;> decide)
  clear hr hs hk
  go_enter Tryz.func73, Tryz.ntmps73
  go_wp2_with fail
  go_cut [5, 6] from 7 to 10 (fun v5 v6 wx => v5 = .int .i64 p ∧ v6 = .int .i64 q ∧ Below w.heap.size w wx ∧ w.heap.size + 1 < wx.heap.size ∧ wx.cell? ⟨w.heap.size, 1, none⟩ = some (.slice a (W7 x).length ((W7 x).length + c)) ∧ wx.cell? ⟨w.heap.size + 1, 1, none⟩ = some (.slice b (W7 y).length ((W7 y).length + d)))
  case first =>
    go_region_held3 (fun W => W.cell? ⟨w.heap.size, 0, none⟩ = some (.bool false) ∧ W.cell? ⟨w.heap.size, 1, none⟩ = some (.slice a (W7 x).length ((W7 x).length + c)) ∧ W.cell? ⟨w.heap.size + 1, 0, none⟩ = some (.bool false) ∧ W.cell? ⟨w.heap.size + 1, 1, none⟩ = some (.slice b (W7 y).length ((W7 y).length + d))) ((refine ⟨by go_simp, by go_simp, by go_simp, by go_simp⟩)) ((first
      | (go_at_call 109; (with_reducible refine (HX.out _ (by exact RL.ext (Agree.below (by (repeat (first | with_reducible exact Below.refl _ _ | with_reducible assumption | with_reducible refine Below.trans ?_ (Below.mono (by with_reducible assumption) (by first | omega | (simp; done) | (simp; omega))) | with_reducible refine Below.drew ?_ | with_reducible refine Below.alloc ?_ (by first | omega | (simp; done) | (simp; omega)) _ | with_reducible refine Below.setCell ?_ (by first | omega | (simp; done) | (simp; omega)) _)))) HR.out)).mono ?_); rintro e w1 ⟨rfl, hb1⟩; obtain ⟨hc1, hf1⟩ := Za hb1; have hz1 := hb1.size; (try simp at hz1); have y1 : w.heap.size < w1.heap.size := (by omega); have z1 : w.heap.size + 1 < w1.heap.size := (by omega))
      | (go_at_call 109; (with_reducible refine (HY.out _ (by exact RL.ext (Agree.below (by (repeat (first | with_reducible exact Below.refl _ _ | with_reducible assumption | with_reducible refine Below.trans ?_ (Below.mono (by with_reducible assumption) (by first | omega | (simp; done) | (simp; omega))) | with_reducible refine Below.drew ?_ | with_reducible refine Below.alloc ?_ (by first | omega | (simp; done) | (simp; omega)) _ | with_reducible refine Below.setCell ?_ (by first | omega | (simp; done) | (simp; omega)) _)))) HS.out)).mono ?_); rintro e w2 ⟨rfl, hb2⟩; obtain ⟨hc2, hf2⟩ := Za hb2; have hz2 := hb2.size; (try simp at hz2); have y2 : w.heap.size < w2.heap.size := (by omega); have z2 : w.heap.size + 1 < w2.heap.size := (by omega))
      | fail "no arm"))
    all_goals go_wp2_with fail
    all_goals go_meet
    all_goals exact ⟨rfl, rfl, (by (repeat (first | with_reducible exact Below.refl _ _ | with_reducible assumption | with_reducible refine Below.trans ?_ (Below.mono (by with_reducible assumption) (by first | omega | (simp; done) | (simp; omega))) | with_reducible refine Below.drew ?_ | with_reducible refine Below.alloc ?_ (by first | omega | (simp; done) | (simp; omega)) _ | with_reducible refine Below.setCell ?_ (by first | omega | (simp; done) | (simp; omega)) _))), by omega, by go_simp, by go_simp⟩
  case rest =>
    obtain ⟨rfl, rfl, hbc, hzc, k0, k1⟩ := hcut
    rcases (by omega : p < q ∨ q < p ∨ p = q) with h | h | h
    · have hq : ¬ q < p := by omega
      have hkk : k = -1 := by rw [hc, if_pos h]
      have HK := Lib.hid hkk
      clear hc hkk
      go_wp2_with fail
      go_ret
      exact ⟨by rw [HK.out]; rfl, (by (repeat (first | with_reducible exact Below.refl _ _ | with_reducible assumption | with_reducible refine Below.trans ?_ (Below.mono (by with_reducible assumption) (by first | omega | (simp; done) | (simp; omega))) | with_reducible refine Below.drew ?_ | with_reducible refine Below.alloc ?_ (by first | omega | (simp; done) | (simp; omega)) _ | with_reducible refine Below.setCell ?_ (by first | omega | (simp; done) | (simp; omega)) _)))⟩
    · have hq : ¬ p < q := by omega
      have hkk : k = 1 := by rw [hc, if_neg hq, if_pos h]
      have HK := Lib.hid hkk
      clear hc hkk
      go_wp2_with fail
      go_ret
      exact ⟨by rw [HK.out]; rfl, (by (repeat (first | with_reducible exact Below.refl _ _ | with_reducible assumption | with_reducible refine Below.trans ?_ (Below.mono (by with_reducible assumption) (by first | omega | (simp; done) | (simp; omega))) | with_reducible refine Below.drew ?_ | with_reducible refine Below.alloc ?_ (by first | omega | (simp; done) | (simp; omega)) _ | with_reducible refine Below.setCell ?_ (by first | omega | (simp; done) | (simp; omega)) _)))⟩
    · have hkk : k = p * k := by have h9 := hc; rw [if_neg (by omega), if_neg (by omega)] at h9; exact h9
      subst h
      have h1 : ¬ p < p := by omega
      have HK := Lib.hid hkk
      clear hc hkk
      go_wp2_with (go_at_call 110; refine (HCM.out _ (by exact RL.ext (Agree.below (by (repeat (first | with_reducible exact Below.refl _ _ | with_reducible assumption | with_reducible refine Below.trans ?_ (Below.mono (by with_reducible assumption) (by first | omega | (simp; done) | (simp; omega))) | with_reducible refine Below.drew ?_ | with_reducible refine Below.alloc ?_ (by first | omega | (simp; done) | (simp; omega)) _ | with_reducible refine Below.setCell ?_ (by first | omega | (simp; done) | (simp; omega)) _)))) HR.out) (by exact RL.ext (Agree.below (by (repeat (first | with_reducible exact Below.refl _ _ | with_reducible assumption | with_reducible refine Below.trans ?_ (Below.mono (by with_reducible assumption) (by first | omega | (simp; done) | (simp; omega))) | with_reducible refine Below.drew ?_ | with_reducible refine Below.alloc ?_ (by first | omega | (simp; done) | (simp; omega)) _ | with_reducible refine Below.setCell ?_ (by first | omega | (simp; done) | (simp; omega)) _)))) HS.out)).mono ?_; rintro e w3 ⟨rfl, rfl⟩)
      go_ret
      exact ⟨by rw [← HK.out]; rfl, (by (repeat (first | with_reducible exact Below.refl _ _ | with_reducible assumption | with_reducible refine Below.trans ?_ (Below.mono (by with_reducible assumption) (by first | omega | (simp; done) | (simp; omega))) | with_reducible refine Below.drew ?_ | with_reducible refine Below.alloc ?_ (by first | omega | (simp; done) | (simp; omega)) _ | with_reducible refine Below.setCell ?_ (by first | omega | (simp; done) | (simp; omega)) _)))⟩
set_option maxRecDepth 100000 in
theorem ways_any (w : World) : Calls Tryz.prog 102 #[] w fun e w' => Below w.heap.size w w' ∧ ∃ g, e = .returned (.slice (some ⟨g, 0, none⟩) 3 3) ∧ g < w'.heap.size ∧ w'.cell? ⟨g, 0, none⟩ = some (.func (.func 166) #[] #[]) ∧ w'.cell? ⟨g, 1, none⟩ = some (.func (.func 167) #[] #[]) := by
  go_enter Tryz.func102, Tryz.ntmps102
  go_wp2_with fail
  go_ret
  exact ⟨(by (repeat (first | with_reducible exact Below.refl _ _ | with_reducible assumption | with_reducible refine Below.trans ?_ (Below.mono (by with_reducible assumption) (by first | omega | (simp; done) | (simp; omega))) | with_reducible refine Below.drew ?_ | with_reducible refine Below.alloc ?_ (by first | omega | (simp; done) | (simp; omega)) _ | with_reducible refine Below.setCell ?_ (by first | omega | (simp; done) | (simp; omega)) _))), w.heap.size, rfl, by simp, by go_simp, by go_simp⟩
set_option maxRecDepth 100000 in
theorem ways1_any (x y : Nat) (w : World) (a b : Option Addr) (c d : Nat) :
    Calls Tryz.prog 166 #[.agg #[.bool false, .slice a x c], .agg #[.bool false, .slice b y d]] w fun e w' => e = .returned (.bool true) ∧ Below w.heap.size w w' := by
  go_enter Tryz.func166, Tryz.ntmps166
  go_wp2_with fail
  go_ret
  exact ⟨rfl, (by (repeat (first | with_reducible exact Below.refl _ _ | with_reducible assumption | with_reducible refine Below.trans ?_ (Below.mono (by with_reducible assumption) (by first | omega | (simp; done) | (simp; omega))) | with_reducible refine Below.drew ?_ | with_reducible refine Below.alloc ?_ (by first | omega | (simp; done) | (simp; omega)) _ | with_reducible refine Below.setCell ?_ (by first | omega | (simp; done) | (simp; omega)) _)))⟩
set_option maxRecDepth 100000 in
theorem ways2_any (x y : Nat) (w : World) (A A2 : Nat → Prop) (a b : Option Addr) (c d : Nat) (h64 : x + y < 18446744073709551616) (hr : RL w A (W7 x) a) (hs : RL w A2 (W7 y) b) :
    Calls Tryz.prog 167 #[.agg #[.bool false, .slice a (W7 x).length c], .agg #[.bool false, .slice b (W7 y).length d]] w fun e w' => Below w.heap.size w w' ∧ ∃ a' c', e = .returned (.tuple #[.bool false, .slice a' (W7 (x + y)).length ((W7 (x + y)).length + c')]) ∧ RL w' (fun b => w.heap.size ≤ b) (W7 (x + y)) a' := by
  have HA := Lib.hid (fun (W : World) h h2 => nadd_any x y W A A2 a b c d h64 h h2)
  have HR := Lib.hid hr
  have HS := Lib.hid hs
  generalize W7 (x + y) = lz at *
  clear hr hs
  go_enter Tryz.func167, Tryz.ntmps167
  go_wp2_with fail
  go_region_held3 (fun W => W.cell? ⟨w.heap.size, 0, none⟩ = some (.bool false) ∧ W.cell? ⟨w.heap.size, 1, none⟩ = some (.slice a (W7 x).length c) ∧ W.cell? ⟨w.heap.size + 1, 0, none⟩ = some (.bool false) ∧ W.cell? ⟨w.heap.size + 1, 1, none⟩ = some (.slice b (W7 y).length d)) ((refine ⟨by go_simp, by go_simp, by go_simp, by go_simp⟩)) ((first
    | (go_at_call 168; (with_reducible refine (HA.out _ (by exact RL.ext (Agree.below (by (repeat (first | with_reducible exact Below.refl _ _ | with_reducible assumption | with_reducible refine Below.trans ?_ (Below.mono (by with_reducible assumption) (by first | omega | (simp; done) | (simp; omega))) | with_reducible refine Below.drew ?_ | with_reducible refine Below.alloc ?_ (by first | omega | (simp; done) | (simp; omega)) _ | with_reducible refine Below.setCell ?_ (by first | omega | (simp; done) | (simp; omega)) _)))) HR.out) (by exact RL.ext (Agree.below (by (repeat (first | with_reducible exact Below.refl _ _ | with_reducible assumption | with_reducible refine Below.trans ?_ (Below.mono (by with_reducible assumption) (by first | omega | (simp; done) | (simp; omega))) | with_reducible refine Below.drew ?_ | with_reducible refine Below.alloc ?_ (by first | omega | (simp; done) | (simp; omega)) _ | with_reducible refine Below.setCell ?_ (by first | omega | (simp; done) | (simp; omega)) _)))) HS.out)).mono ?_); rintro e w1 ⟨hb1, a1, c1, rfl, hr1⟩; have HR1 := Lib.hid hr1; clear hr1; obtain ⟨hc1, hf1⟩ := Za hb1; have hz1 := hb1.size; (try simp at hz1); have y1 : w.heap.size < w1.heap.size := (by omega); have z1 : w.heap.size + 1 < w1.heap.size := (by omega))
    | fail "no arm"))
  all_goals go_wp2_with fail
  all_goals go_ret2
  all_goals exact ⟨(by (repeat (first | with_reducible exact Below.refl _ _ | with_reducible assumption | with_reducible refine Below.trans ?_ (Below.mono (by with_reducible assumption) (by first | omega | (simp; done) | (simp; omega))) | with_reducible refine Below.drew ?_ | with_reducible refine Below.alloc ?_ (by first | omega | (simp; done) | (simp; omega)) _ | with_reducible refine Below.setCell ?_ (by first | omega | (simp; done) | (simp; omega)) _))), a1, c1, rfl, RL.mono (fun b h _ => by (try simp at h); omega) HR1.out⟩
set_option maxRecDepth 100000 in
set_option maxHeartbeats 1000000 in
theorem wadd_int (x y : Nat) (w : World) (A A2 : Nat → Prop) (a b : Option Addr) (c d : Nat) (h64 : x + y < 18446744073709551616) (hr : RL w A (W7 x) a) (hs : RL w A2 (W7 y) b) :
    Calls Tryz.prog 67 #[.agg #[.bool false, .slice a (W7 x).length c], .agg #[.bool false, .slice b (W7 y).length d]] w fun e w' => Below w.heap.size w w' ∧ ∃ a' c', e = .returned (.agg #[.bool false, .slice a' (W7 (x + y)).length ((W7 (x + y)).length + c')]) ∧ RL w' (fun b => w.heap.size ≤ b) (W7 (x + y)) a' := by
  have HA := Lib.hid (fun (W : World) h h2 => ways2_any x y W A A2 a b c d h64 h h2)
  have H1 := Lib.hid (fun (W : World) => ways1_any (W7 x).length (W7 y).length W a b c d)
  have HM := Lib.hid (fun (W : World) (A : Nat → Prop) a c h => ZqB (x + y) W A a c h)
  have HR := Lib.hid hr
  have HS := Lib.hid hs
  generalize W7 (x + y) = lz at *
  clear hr hs
  go_enter Tryz.func67, Tryz.ntmps67
  go_wp2_with (go_at_call 102; (with_reducible refine (ways_any _).mono ?_); rintro e w1 ⟨hb1, g, rfl, hg, g0, g1⟩; obtain ⟨hc1, hf1⟩ := Za hb1; have hz1 := hb1.size; (try simp at hz1); have y1 : w.heap.size < w1.heap.size := (by omega); have z1 : w.heap.size + 1 < w1.heap.size := (by omega); have z2 : w.heap.size + 1 + 1 < w1.heap.size := (by omega))
  have hbw1 : Below w.heap.size w w1 := (by (repeat (first | with_reducible exact Below.refl _ _ | with_reducible assumption | with_reducible refine Below.trans ?_ (Below.mono (by with_reducible assumption) (by first | omega | (simp; done) | (simp; omega))) | with_reducible refine Below.drew ?_ | with_reducible refine Below.alloc ?_ (by first | omega | (simp; done) | (simp; omega)) _ | with_reducible refine Below.setCell ?_ (by first | omega | (simp; done) | (simp; omega)) _)))
  go_loopg [9] 1 (fun gk t9' wr => gk = 1 ∧ t9' = .int .i64 0 ∧ wr = w1)
  case atStart => exact ⟨rfl, rfl, rfl⟩
  case round =>
    obtain ⟨rfl, rfl, rfl⟩ := hrel

    go_wp2_with (first
      | (go_at_call 166; (with_reducible refine (H1.out _).mono ?_); rintro e w2 ⟨rfl, hb2⟩; obtain ⟨hc2, hf2⟩ := Za hb2; have hz2 := hb2.size; (try simp at hz2); have y2a : w.heap.size < w2.heap.size := (by omega); have y2b : w.heap.size + 1 < w2.heap.size := (by omega); have y2c : w.heap.size + 1 + 1 < w2.heap.size := (by omega); have y2d : wr.heap.size < w2.heap.size := (by omega))
      | (go_at_call 167; (with_reducible refine (HA.out _ (by exact RL.ext (Agree.below (by (repeat (first | with_reducible exact Below.refl _ _ | with_reducible assumption | with_reducible refine Below.trans ?_ (Below.mono (by with_reducible assumption) (by first | omega | (simp; done) | (simp; omega))) | with_reducible refine Below.drew ?_ | with_reducible refine Below.alloc ?_ (by first | omega | (simp; done) | (simp; omega)) _ | with_reducible refine Below.setCell ?_ (by first | omega | (simp; done) | (simp; omega)) _)))) HR.out) (by exact RL.ext (Agree.below (by (repeat (first | with_reducible exact Below.refl _ _ | with_reducible assumption | with_reducible refine Below.trans ?_ (Below.mono (by with_reducible assumption) (by first | omega | (simp; done) | (simp; omega))) | with_reducible refine Below.drew ?_ | with_reducible refine Below.alloc ?_ (by first | omega | (simp; done) | (simp; omega)) _ | with_reducible refine Below.setCell ?_ (by first | omega | (simp; done) | (simp; omega)) _)))) HS.out)).mono ?_); rintro e w3 ⟨hb3, a3, c3, rfl, hr3⟩; have HR3 := Lib.hid hr3; clear hr3; obtain ⟨hc3, hf3⟩ := Za hb3; have hz3 := hb3.size; (try simp at hz3); have y3a : w.heap.size < w3.heap.size := (by omega); have y3b : w.heap.size + 1 < w3.heap.size := (by omega); have y3c : w.heap.size + 1 + 1 < w3.heap.size := (by omega); have y3d : wr.heap.size < w3.heap.size := (by omega))
      | (go_at_call 101; (with_reducible refine (HM.out _ _ a3 c3 (by exact HR3.out)).mono ?_); rintro e w4 ⟨hb4, a4, c4, rfl, hr4⟩; have HR4 := Lib.hid hr4; clear hr4; obtain ⟨hc4, hf4⟩ := Za hb4; have hz4 := hb4.size; (try simp at hz4); have y4 : w.heap.size < w4.heap.size := (by omega); have z4 : w.heap.size + 1 < w4.heap.size := (by omega); have z5 : w.heap.size + 1 + 1 < w4.heap.size := (by omega))
      | fail "no arm")
    refine bodyPost_ret (v := .agg #[.bool false, .slice a4 lz.length (lz.length + c4)]) (by first | (simp [results, Tryz.f67, go_sem]; done) | (simp [results, Tryz.f67, go_sem, *]; done)) rfl ?_
    exact ⟨(by (repeat (first | with_reducible exact Below.refl _ _ | with_reducible assumption | with_reducible refine Below.trans ?_ (Below.mono (by with_reducible assumption) (by first | omega | (simp; done) | (simp; omega))) | with_reducible refine Below.drew ?_ | with_reducible refine Below.alloc ?_ (by first | omega | (simp; done) | (simp; omega)) _ | with_reducible refine Below.setCell ?_ (by first | omega | (simp; done) | (simp; omega)) _))), a4, c4, rfl, RL.mono (fun b h _ => by omega) (RL.ext (A := fun b => w.heap.size + 1 + 1 + 1 ≤ b) (Zqd _ _) (RL.mono (fun b h _ => by (try simp at h); omega) HR4.out))⟩
end Go.Proofs.YtkdffbdnjfgpeaaGreat
