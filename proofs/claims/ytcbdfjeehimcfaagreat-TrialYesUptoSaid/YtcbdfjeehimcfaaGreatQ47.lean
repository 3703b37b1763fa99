/- What the proofs of the Trial statements need: part 48. -/
import Derived.Test.YtcbdfjeehimcfaaGreatQ43
import Derived.Test.YtcbdfjeehimcfaaGreatQ45
import Derived.Test.YtcbdfjeehimcfaaGreatQ46
set_option linter.unusedVariables false
set_option linter.unusedSimpArgs false
namespace Go.Proofs.YtcbdfjeehimcfaaGreat
open Go Go.RowKit
set_option maxRecDepth 100000 in
set_option maxHeartbeats 2000000 in
theorem ends_ok (t : GT) (p : GP) (s : ByteArray) (N : Nat) (l : List GR) (en : Int) (many : Nat) (to : Int) (w : World) (A A2 : Nat → Prop) (m : TA) (mp : PA) (ox : okT t) (hs : sizeT t ≤ 1099511627776) (hl : RT w A t m) (op : okP p) (hp : sizeP p ≤ 1099511627776) (hr : RP w A2 p mp) (hE : cutE t p s N = 0)
  (hR : cutT s t p N 0 = (l, en)) (hm : l.length = many) (h1000 : many ≤ 1000) (hto : ∀ h : many - 1 < l.length, l[many - 1].t = to) :
  Calls Tryz.prog 18 #[TV t m, PV p mp, .string s, .int .i64 N, .int .u8 en, .int .i64 many, .int .i64 to] w fun e w' => e = .returned (.bool true) ∧ Below w.heap.size w w' := by
 obtain ⟨ma, mb, mc, md, me, mf, mg, mh, mi, mj, mk, ml⟩ := m
 obtain ⟨na, nb, nc, nd⟩ := mp
 have HL := Lib.hid hl
 have HR := Lib.hid hr
 have OX := Lib.hid ox
 have OP := Lib.hid op
 have HE := Lib.hid hE
 have HC := Lib.hid hR
 have HM := Lib.hid hm
 have HT := Lib.hid hto
 clear hl hr ox op hE hR hm hto
 by_cases h0 : many = 0
 ·subst h0
  go_enter Tryz.func18, Tryz.ntmps18
  go_wp2_with (go_at_call 13; refine (cut_ok t p s N _ A A2 ⟨ma, mb, mc, md, me, mf, mg, mh, mi, mj, mk, ml⟩ ⟨na, nb, nc, nd⟩ OX.out hs (by exact RT.ext (Agree.below Below.r) _ _ HL.out) OP.out hp (by exact RP.ext (Agree.below Below.r) _ _ HR.out) HE.out).mono ?_; rw [HC.out]; (try dsimp only); rintro e w1 ⟨hb1, a, c, rfl, hrr⟩; have HRR := Lib.hid hrr; clear hrr; rw [HM.out])
  go_ret
  exact ⟨rfl, Below.r⟩
 ·have hne : ((many : Int) == 0) = false := beq_eq_false_iff_ne.2 (by omega)
  have hpos : 0 < many := by omega
  have hlt : many - 1 < l.length := by have := HM.out; omega
  have hti := HT.out hlt
  have HTI := Lib.hid hti
  have hcast : (many : Int) - 1 = ((many - 1 : Nat) : Int) := by omega
  have HCAST := Lib.hid hcast
  clear h0 hti hcast
  go_enter Tryz.func18, Tryz.ntmps18
  go_wp2_with (go_at_call 13; refine (cut_ok t p s N _ A A2 ⟨ma, mb, mc, md, me, mf, mg, mh, mi, mj, mk, ml⟩ ⟨na, nb, nc, nd⟩ OX.out hs (by exact RT.ext (Agree.below Below.r) _ _ HL.out) OP.out hp (by exact RP.ext (Agree.below Below.r) _ _ HR.out) HE.out).mono ?_; rw [HC.out]; (try dsimp only); rintro e w1 ⟨hb1, a, c, rfl, hrr⟩; (obtain ⟨b, o, m9, rfl, hA, hbs, g0, gx⟩ := hrr.get (many - 1) hlt); (obtain ⟨z0, z1, z2, z3, z4⟩ := At5.1 g0); rw [HTI.out] at z1; rw [HM.out]; clear g0 gx hrr z0 z2 z3 z4)
  go_ret
  exact ⟨rfl, Below.r⟩
end Go.Proofs.YtcbdfjeehimcfaaGreat
namespace Go.Proofs.YtcbdfjeehimcfaaGreat
open Go Go.RowKit
theorem span_ok (lo hi : Int) (h : isI64 lo) (h2 : isI64 hi) : okT (spanT lo hi) := by
 refine okT_iff.2 ⟨by unfold isU8 spanT; simp, okV_iff.2 ⟨by unfold isU8 spanT noV; simp, by unfold isI64 spanT noV; simp, by simp [spanT, noV], by simp [spanT, noV, okVs]⟩, ⟨by simp [spanT], by simp [spanT, okVs]⟩, h, h2, ⟨by simp [spanT], by simp [spanT, okIs]⟩, okP_iff.2 ⟨by unfold isU8 spanT noP; simp, okV_iff.2 ⟨by unfold isU8 spanT noP noV; simp, by unfold isI64 spanT noP noV; simp, by simp [spanT, noP, noV], by simp [spanT, noP, noV, okVs]⟩, by unfold isI64 spanT noP; simp, by simp [spanT, noP], by simp [spanT, noP, okPs]⟩, by simp [spanT], by simp [spanT, okTs]⟩
theorem num_ok (n : Int) (h : isI64 n) : okT (numT n) := by
 refine okT_iff.2 ⟨by unfold isU8 numT; simp, okV_iff.2 ⟨by unfold isU8 numT; simp, h, by simp [numT], by simp [numT, okVs]⟩, ⟨by simp [numT], by simp [numT, okVs]⟩, by unfold isI64 numT; simp, by unfold isI64 numT; simp, ⟨by simp [numT], by simp [numT, okIs]⟩, okP_iff.2 ⟨by unfold isU8 numT noP; simp, okV_iff.2 ⟨by unfold isU8 numT noP noV; simp, by unfold isI64 numT noP noV; simp, by simp [numT, noP, noV], by simp [numT, noP, noV, okVs]⟩, by unfold isI64 numT noP; simp, by simp [numT, noP], by simp [numT, noP, okPs]⟩, by simp [numT], by simp [numT, okTs]⟩
theorem lessP_ok (n : Int) (h : isI64 n) : okP (lessP n) :=
 okP_iff.2 ⟨by unfold isU8 lessP; simp, okV_iff.2 ⟨by unfold isU8 lessP; simp, h, by simp [lessP], by simp [lessP, okVs]⟩, by unfold isI64 lessP; simp, by simp [lessP], by simp [lessP, okPs]⟩
theorem yes_ok : okP yesP :=
 okP_iff.2 ⟨by unfold isU8 yesP; simp, okV_iff.2 ⟨by unfold isU8 yesP noV; simp, by unfold isI64 yesP noV; simp, by simp [yesP, noV], by simp [yesP, noV, okVs]⟩, by unfold isI64 yesP; simp, by simp [yesP], by simp [yesP, okPs]⟩
theorem spanR {w : World} {A : Nat → Prop} (lo hi : Int) : RT w A (spanT lo hi) nilTA := RT_nil rfl rfl rfl rfl rfl rfl
theorem numR {w : World} {A : Nat → Prop} (n : Int) : RT w A (numT n) nilTA := RT_nil rfl rfl rfl rfl rfl rfl
theorem lessR {w : World} {A : Nat → Prop} (n : Int) : RP w A (lessP n) nilPA := RP_nil rfl rfl
theorem yesR {w : World} {A : Nat → Prop} : RP w A yesP nilPA := RP_nil rfl rfl
theorem size_span (lo hi : Int) : sizeT (spanT lo hi) ≤ 1099511627776 := by simp [spanT, sizeT, sizeV, sizeVs, sizeP, sizePs, sizeTs, noV, noP]
theorem size_num (n : Int) : sizeT (numT n) ≤ 1099511627776 := by simp [numT, sizeT, sizeV, sizeVs, sizeP, sizePs, sizeTs, noV, noP]
theorem size_less (n : Int) : sizeP (lessP n) ≤ 1099511627776 := by simp [lessP, sizeV, sizeVs, sizeP, sizePs]
theorem size_yes : sizeP yesP ≤ 1099511627776 := by simp [yesP, noV, sizeV, sizeVs, sizeP, sizePs]
/-- the contracts at the examples -/
theorem ends_span (s : ByteArray) (N : Nat) (l : List GR) (en : Int) (many : Nat) (to : Int) (w : World) (hE : cutE (spanT 0 7) (lessP 5) s N = 0) (hR : cutT s (spanT 0 7) (lessP 5) N 0 = (l, en)) (hm : l.length = many) (h1000 : many ≤ 1000) (hto : ∀ h : many - 1 < l.length, l[many - 1].t = to) :
  Calls Tryz.prog 18 #[TV (spanT 0 7) nilTA, PV (lessP 5) nilPA, .string s, .int .i64 N, .int .u8 en, .int .i64 many, .int .i64 to] w fun e w' => e = .returned (.bool true) ∧ Below w.heap.size w w' :=
 ends_ok _ _ s N l en many to w (fun _ => True) (fun _ => True) nilTA nilPA (span_ok 0 7 (by unfold isI64; omega) (by unfold isI64; omega)) (size_span 0 7) (spanR 0 7) (lessP_ok 5 (by unfold isI64; omega)) (size_less 5) (lessR 5) hE hR hm h1000 hto
theorem ends_a (w : World) : Calls Tryz.prog 18 #[TV (spanT 0 7) nilTA, PV (lessP 5) nilPA, .string (b6 48 48 48 48 48 49), .int .i64 5, .int .u8 3, .int .i64 2, .int .i64 6] w fun e w' => e = .returned (.bool true) ∧ Below w.heap.size w w' :=
 ends_span _ 5 tr2 3 2 6 w ev5.1 ev6 rfl (by omega) (fun _ => rfl)
theorem ends_b (w : World) : Calls Tryz.prog 18 #[TV (spanT 0 7) nilTA, PV (lessP 5) nilPA, .string (b6 48 48 48 49 49 49), .int .i64 1, .int .u8 2, .int .i64 1, .int .i64 3] w fun e w' => e = .returned (.bool true) ∧ Below w.heap.size w w' :=
 ends_span _ 1 tr3 2 1 3 w ev5.2.1 ev7 rfl (by omega) (fun _ => rfl)
theorem ends_c (w : World) : Calls Tryz.prog 18 #[TV (spanT 0 7) nilTA, PV (lessP 5) nilPA, .string (b6 48 48 48 49 49 49), .int .i64 0, .int .u8 2, .int .i64 0, .int .i64 0] w fun e w' => e = .returned (.bool true) ∧ Below w.heap.size w w' :=
 ends_span _ 0 [] 2 0 0 w ev5.2.2.1 ev8 rfl (by omega) (fun h => absurd h (by simp))
theorem ends_d (w : World) : Calls Tryz.prog 18 #[TV (numT 1) nilTA, PV yesP nilPA, .string ByteArray.empty, .int .i64 3, .int .u8 2, .int .i64 3, .int .i64 0] w fun e w' => e = .returned (.bool true) ∧ Below w.heap.size w w' :=
 ends_ok _ _ ByteArray.empty 3 tr4 2 3 0 w (fun _ => True) (fun _ => True) nilTA nilPA (num_ok 1 (by unfold isI64; omega)) (size_num 1) (numR 1) yes_ok size_yes yesR ev5.2.2.2 ev9 rfl (by omega) (fun _ => rfl)
theorem cut_a (w : World) : Calls Tryz.prog 13 #[TV (spanT 0 7) nilTA, PV (lessP 5) nilPA, .string (b6 48 48 48 49 49 49), .int .i64 5] w fun e w' => Below w.heap.size w w' ∧ ∃ a c, e = .returned (.tuple #[.slice a 2 c, .int .u8 1, .int .i64 0]) ∧ RRs w' (fun b => w.heap.size ≤ b) tr1 a :=
 (cut_ok (spanT 0 7) (lessP 5) (b6 48 48 48 49 49 49) 5 w (fun _ => True) (fun _ => True) nilTA nilPA (span_ok 0 7 (by unfold isI64; omega) (by unfold isI64; omega)) (size_span 0 7) (spanR 0 7) (lessP_ok 5 (by unfold isI64; omega)) (size_less 5) (lessR 5) ev1).mono fun e w' h => by
  rw [ev2] at h
  exact h
theorem cut_b (w : World) : Calls Tryz.prog 13 #[TV (spanT 0 7) nilTA, PV (lessP 5) nilPA, .string ByteArray.empty, .int .i64 1001] w fun e w' => e = .returned (.tuple #[.slice none 0 0, .int .u8 0, .int .i64 1]) ∧ Below w.heap.size w w' :=
 (cut_err (spanT 0 7) (lessP 5) ByteArray.empty 1001 w (fun _ => True) (fun _ => True) nilTA nilPA (span_ok 0 7 (by unfold isI64; omega) (by unfold isI64; omega)) (size_span 0 7) (spanR 0 7) (lessP_ok 5 (by unfold isI64; omega)) (size_less 5) (lessR 5) (by decide) (by rw [ev3]; decide)).mono fun e w' h => by
  rw [ev3] at h
  exact h
end Go.Proofs.YtcbdfjeehimcfaaGreat
namespace Go.Proofs.YtcbdfjeehimcfaaGreat
open Go Go.RowKit
theorem RRs_two {w : World} {b : Nat} {x y : GR} {m n : VA} (h0 : w.cell? ⟨b, 0, none⟩ = some (.int .i64 x.f)) (h1 : w.cell? ⟨b, 1, none⟩ = some (.int .i64 x.t)) (h2 : w.cell? ⟨b, 2, none⟩ = some (.int .u8 x.v.k)) (h3 : w.cell? ⟨b, 3, none⟩ = some (.int .i64 x.v.n)) (h4 : w.cell? ⟨b, 4, none⟩ = some (.slice m.a x.v.l.length m.c))
  (g0 : w.cell? ⟨b, 5, none⟩ = some (.int .i64 y.f)) (g1 : w.cell? ⟨b, 6, none⟩ = some (.int .i64 y.t)) (g2 : w.cell? ⟨b, 7, none⟩ = some (.int .u8 y.v.k)) (g3 : w.cell? ⟨b, 8, none⟩ = some (.int .i64 y.v.n)) (g4 : w.cell? ⟨b, 9, none⟩ = some (.slice n.a y.v.l.length n.c)) (hx : x.v.l = []) (hy : y.v.l = []) : RRs w (fun _ => True) [x, y] (some ⟨b, 0, none⟩) := by
 simp only [RRs]
 refine ⟨b, 0, m, rfl, trivial, At5.2 ⟨h0, h1, h2, h3, h4⟩, by rw [RV_iff, hx]; simp only [RVs], b, 5, n, rfl, trivial, At5.2 ⟨g0, g1, g2, g3, g4⟩, by rw [RV_iff, hy]; simp only [RVs], trivial⟩
theorem tr1_at {w : World} {b : Nat} (h0 : w.cell? ⟨b, 0, none⟩ = some (.int .i64 0)) (h1 : w.cell? ⟨b, 1, none⟩ = some (.int .i64 3)) (h2 : w.cell? ⟨b, 2, none⟩ = some (.int .u8 1)) (h3 : w.cell? ⟨b, 3, none⟩ = some (.int .i64 0)) (h4 : w.cell? ⟨b, 4, none⟩ = some (.slice none 0 0)) (h5 : w.cell? ⟨b, 5, none⟩ = some (.int .i64 3)) (h6 : w.cell? ⟨b, 6, none⟩ = some (.int .i64 6)) (h7 : w.cell? ⟨b, 7, none⟩ = some (.int .u8 1)) (h8 : w.cell? ⟨b, 8, none⟩ = some (.int .i64 7)) (h9 : w.cell? ⟨b, 9, none⟩ = some (.slice none 0 0)) : RRs w (fun _ => True) tr1 (some ⟨b, 0, none⟩) :=
 RRs_two (x := ⟨0, 3, ⟨1, 0, []⟩⟩) (y := ⟨3, 6, ⟨1, 7, []⟩⟩) (m := ⟨none, 0⟩) (n := ⟨none, 0⟩) h0 h1 h2 h3 h4 h5 h6 h7 h8 h9 rfl rfl
theorem same_tr1 (w : World) (A : Nat → Prop) (a : Option Addr) (c b : Nat) (hr : RRs w A tr1 a) (hq : RRs w (fun _ => True) tr1 (some ⟨b, 0, none⟩)) :
  Calls Tryz.prog 14 #[.slice a 2 c, .slice (some ⟨b, 0, none⟩) 2 2, .int .i64 0] w fun e w' => e = .returned (.bool true) ∧ Below w.heap.size w w' :=
 (r29same_any tr1 tr1 0 A (fun _ => True) w a (some ⟨b, 0, none⟩) c 2 (by simp [tr1]) (by simp [tr1]) ⟨by omega, by omega⟩
  (fun x hx => by
   simp [tr1] at hx
   rcases hx with rfl | rfl
   all_goals exact ⟨⟨by simp, by simp⟩, ⟨by simp, by simp⟩, okV_iff.2 ⟨by unfold isU8; simp, by unfold isI64; simp, by simp, by simp [okVs]⟩⟩)
  (fun x hx => by
   simp [tr1] at hx
   rcases hx with rfl | rfl
   all_goals exact ⟨by unfold isI64; simp, by unfold isI64; simp, okV_iff.2 ⟨by unfold isU8; simp, by unfold isI64; simp, by simp, by simp [okVs]⟩⟩) hr hq).mono fun e w' h => by
  rw [ev4] at h
  exact h
theorem told_tr1 (w : World) (A : Nat → Prop) (a : Option Addr) (c : Nat) (hr : RRs w A tr1 a) :
  Calls Tryz.prog 15 #[.slice a 2 c] w fun e w' => Below w.heap.size w w' ∧ ∃ a' c', e = .returned (.slice a' 2 c') ∧ RRs w' (fun b => A b ∨ w.heap.size ≤ b) tr1 a' :=
 told_any tr1 A w a c (by simp [tr1]) hr
theorem cut_x (w : World) : Calls Tryz.prog 13 #[TV (spanT 0 7) nilTA, PV (lessP 5) nilPA, .string ⟨#[48, 48, 48, 49, 49, 49]⟩, .int .i64 5] w fun e w' => Below w.heap.size w w' ∧ ∃ a c, e = .returned (.tuple #[.slice a 2 c, .int .u8 1, .int .i64 0]) ∧ RRs w' (fun b => w.heap.size ≤ b) tr1 a := cut_a w
theorem cut_y (w : World) : Calls Tryz.prog 13 #[TV (spanT 0 7) nilTA, PV (lessP 5) nilPA, .string ⟨#[]⟩, .int .i64 1001] w fun e w' => e = .returned (.tuple #[.slice none 0 0, .int .u8 0, .int .i64 1]) ∧ Below w.heap.size w w' := cut_b w
theorem ends_x (w : World) : Calls Tryz.prog 18 #[TV (spanT 0 7) nilTA, PV (lessP 5) nilPA, .string ⟨#[48, 48, 48, 48, 48, 49]⟩, .int .i64 5, .int .u8 3, .int .i64 2, .int .i64 6] w fun e w' => e = .returned (.bool true) ∧ Below w.heap.size w w' := ends_a w
theorem ends_y (w : World) : Calls Tryz.prog 18 #[TV (spanT 0 7) nilTA, PV (lessP 5) nilPA, .string ⟨#[48, 48, 48, 49, 49, 49]⟩, .int .i64 1, .int .u8 2, .int .i64 1, .int .i64 3] w fun e w' => e = .returned (.bool true) ∧ Below w.heap.size w w' := ends_b w
theorem ends_z (w : World) : Calls Tryz.prog 18 #[TV (spanT 0 7) nilTA, PV (lessP 5) nilPA, .string ⟨#[48, 48, 48, 49, 49, 49]⟩, .int .i64 0, .int .u8 2, .int .i64 0, .int .i64 0] w fun e w' => e = .returned (.bool true) ∧ Below w.heap.size w w' := ends_c w
theorem ends_u (w : World) : Calls Tryz.prog 18 #[TV (numT 1) nilTA, .agg #[.int .u8 1, .int .u8 0, .int .i64 0, .slice none 0 0, .int .i64 0, .slice none 0 0], .string ⟨#[]⟩, .int .i64 3, .int .u8 2, .int .i64 3, .int .i64 0] w fun e w' => e = .returned (.bool true) ∧ Below w.heap.size w w' := ends_d w
set_option maxRecDepth 100000 in
set_option maxHeartbeats 4000000 in
theorem awake_any (w : World) : Calls Tryz.prog 11 #[] w fun e w' => e = .returned (.bool true) ∧ Below w.heap.size w w' := by
 go_enter Tryz.func11, Tryz.ntmps11
 go_wp2_with (first
  | (go_at_call 31; (with_reducible refine (span_any _ _ _).mono ?_); rintro e w1 ⟨rfl, hb1⟩; have hz1 := hb1.size; (try simp at hz1))
  | (go_at_call 32; (with_reducible refine (less_any _ _).mono ?_); rintro e w1 ⟨rfl, hb1⟩; have hz1 := hb1.size; (try simp at hz1))
  | (go_at_call 17; (with_reducible refine (lnum_any _ _).mono ?_); rintro e w1 ⟨rfl, hb1⟩; have hz1 := hb1.size; (try simp at hz1))
  | (go_at_call 13; (with_reducible refine (cut_x _).mono ?_); rintro e wa ⟨hba, a, c, rfl, hrr⟩; have HRR := Lib.hid hrr; clear hrr; have hza := hba.size; (try simp at hza))
  | (go_at_call 13; (with_reducible refine (cut_y _).mono ?_); rintro e w1 ⟨rfl, hb1⟩; have hz1 := hb1.size; (try simp at hz1))
  | (go_at_call 15; (with_reducible refine (told_tr1 _ (fun b => True) a c (by exact RRs.mono (fun _ _ _ => trivial) _ _ (RRs.ext (Agree.below (Below.mono (B := wa.heap.size) Below.r (Nat.le_refl _))) _ _ HRR.out))).mono ?_); rintro e wt ⟨hbt, a', c', rfl, hrt⟩; have HRT := Lib.hid hrt; clear hrt; have hzt := hbt.size; (try simp at hzt))
  | (go_at_call 33; (with_reducible refine (awakeV_any _ _).mono ?_); rintro e w1 ⟨rfl, hb1⟩; have hz1 := hb1.size; (try simp at hz1))
  | (go_at_call 18; (with_reducible refine (ends_x _).mono ?_); rintro e w1 ⟨rfl, hb1⟩; have hz1 := hb1.size; (try simp at hz1))
  | (go_at_call 18; (with_reducible refine (ends_y _).mono ?_); rintro e w1 ⟨rfl, hb1⟩; have hz1 := hb1.size; (try simp at hz1))
  | (go_at_call 18; (with_reducible refine (ends_z _).mono ?_); rintro e w1 ⟨rfl, hb1⟩; have hz1 := hb1.size; (try simp at hz1))
  | (go_at_call 18; (with_reducible refine (ends_u _).mono ?_); rintro e w1 ⟨rfl, hb1⟩; have hz1 := hb1.size; (try simp at hz1))
  | (go_at_call 14; (with_reducible refine (same_tr1 _ (fun _ => True) a' c' w1.heap.size (by exact RRs.mono (fun _ _ _ => trivial) _ _ (RRs.ext (Agree.below (Below.mono (B := wt.heap.size) Below.r (Nat.le_refl _))) _ _ HRT.out)) (by exact tr1_at (by go_simp) (by go_simp) (by go_simp) (by go_simp) (by go_simp) (by go_simp) (by go_simp) (by go_simp) (by go_simp) (by go_simp))).mono ?_); rintro e w1 ⟨rfl, hb1⟩; have hz1 := hb1.size; (try simp at hz1)))
 go_ret
 exact ⟨rfl, Below.r⟩
end Go.Proofs.YtcbdfjeehimcfaaGreat
