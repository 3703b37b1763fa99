/- What the proofs of the Trial statements need: part 48. -/
import Derived.IntWalk
import Derived.Test.YtcbdfjeehimcfaaGreatQ20
import Derived.Test.YtcbdfjeehimcfaaGreatQ29
import Derived.Test.YtcbdfjeehimcfaaGreatQ43
import Derived.Test.YtcbdfjeehimcfaaGreatQ44
import Derived.Test.YtcbdfjeehimcfaaGreatQ45
import Derived.Test.YtcbdfjeehimcfaaGreatQ46
set_option linter.unusedVariables false
set_option linter.unusedSimpArgs false
namespace Go.Proofs.YtcbdfjeehimcfaaGreat
open Go Go.RowKit
set_option maxRecDepth 100000 in
set_option maxHeartbeats 2000000 in
theorem ends_ok (t : GT) (p : GP) (s : ByteArray) (N : Nat) (l : List GR) (en : Int) (many : Nat) (to : Int) (w : World) (A A2 : Nat → Prop) (m : TA) (mp : PA) (ox : okT t) (hs : sizeT t ≤ 1099511627776) (hl : RT w A t m) (op : okP p) (hp : sizeP p ≤ 1099511627776) (hr : RP w A2 p mp) (hE : cutE t p s N = 0)
  (hR : cutT s t p N 0 = (l, en)) (hm : l.length = many) (h1000 : many ≤ 1000) (hto : ∀ h : many - 1 < l.length, l[many - 1].t = to) :
  Calls Tryz.prog 18 #[TV t m, PV p mp, .string s, .int .i64 N, .int .u8 en, .int .i64 many, .int .i64 to] w fun e w' => e = .returned (.bool true) ∧ Below w.heap.size w w' := by
 obtain ⟨ma, mb, mc, md, me, mf, mg, mh, mi, mj, mk, ml⟩ := m
 obtain ⟨na, nb, nc, nd⟩ := mp
 have HL := Lib.hid hl
 have HR := Lib.hid hr
 have OX := Lib.hid ox
 have OP := Lib.hid op
 have HE := Lib.hid hE
 have HC := Lib.hid hR
 have HM := Lib.hid hm
 have HT := Lib.hid hto
 clear hl hr ox op hE hR hm hto
 by_cases h0 : many = 0
 ·subst h0
  go_enter Tryz.func18, Tryz.ntmps18
  go_wp2_with (go_at_call 13; refine (cut_ok t p s N _ A A2 ⟨ma, mb, mc, md, me, mf, mg, mh, mi, mj, mk, ml⟩ ⟨na, nb, nc, nd⟩ OX.out hs (by exact RT.ext (Agree.below Below.r) _ _ HL.out) OP.out hp (by exact RP.ext (Agree.below Below.r) _ _ HR.out) HE.out).mono ?_; rw [HC.out]; (try dsimp only); rintro e w1 ⟨hb1, a, c, rfl, hrr⟩; have HRR := Lib.hid hrr; clear hrr; rw [HM.out])
  go_ret
  exact ⟨rfl, Below.r⟩
 ·have hne : ((many : Int) == 0) = false := beq_eq_false_iff_ne.2 (by omega)
  have hpos : 0 < many := by omega
  have hlt : many - 1 < l.length := by have := HM.out; omega
  have hti := HT.out hlt
  have HTI := Lib.hid hti
  have hcast : (many : Int) - 1 = ((many - 1 : Nat) : Int) := by omega
  have HCAST := Lib.hid hcast
  clear h0 hti hcast
  go_enter Tryz.func18, Tryz.ntmps18
  go_wp2_with (go_at_call 13; refine (cut_ok t p s N _ A A2 ⟨ma, mb, mc, md, me, mf, mg, mh, mi, mj, mk, ml⟩ ⟨na, nb, nc, nd⟩ OX.out hs (by exact RT.ext (Agree.below Below.r) _ _ HL.out) OP.out hp (by exact RP.ext (Agree.below Below.r) _ _ HR.out) HE.out).mono ?_; rw [HC.out]; (try dsimp only); rintro e w1 ⟨hb1, a, c, rfl, hrr⟩; (obtain ⟨b, o, m9, rfl, hA, hbs, g0, gx⟩ := hrr.get (many - 1) hlt); (obtain ⟨z0, z1, z2, z3, z4⟩ := At5.1 g0); rw [HTI.out] at z1; rw [HM.out]; clear g0 gx hrr z0 z2 z3 z4)
  go_ret
  exact ⟨rfl, Below.r⟩
end Go.Proofs.YtcbdfjeehimcfaaGreat
namespace Go.Proofs.YtcbdfjeehimcfaaGreat
open Go Go.RowKit
theorem span_ok (lo hi : Int) (h : isI64 lo) (h2 : isI64 hi) : okT (spanT lo hi) := by
 refine okT_iff.2 ⟨by unfold isU8 spanT; simp, okV_iff.2 ⟨by unfold isU8 spanT noV; simp, by unfold isI64 spanT noV; simp, by simp [spanT, noV], by simp [spanT, noV, okVs]⟩, ⟨by simp [spanT], by simp [spanT, okVs]⟩, h, h2, ⟨by simp [spanT], by simp [spanT, okIs]⟩, okP_iff.2 ⟨by unfold isU8 spanT noP; simp, okV_iff.2 ⟨by unfold isU8 spanT noP noV; simp, by unfold isI64 spanT noP noV; simp, by simp [spanT, noP, noV], by simp [spanT, noP, noV, okVs]⟩, by unfold isI64 spanT noP; simp, by simp [spanT, noP], by simp [spanT, noP, okPs]⟩, by simp [spanT], by simp [spanT, okTs]⟩
theorem num_ok (n : Int) (h : isI64 n) : okT (numT n) := by
 refine okT_iff.2 ⟨by unfold isU8 numT; simp, okV_iff.2 ⟨by unfold isU8 numT; simp, h, by simp [numT], by simp [numT, okVs]⟩, ⟨by simp [numT], by simp [numT, okVs]⟩, by unfold isI64 numT; simp, by unfold isI64 numT; simp, ⟨by simp [numT], by simp [numT, okIs]⟩, okP_iff.2 ⟨by unfold isU8 numT noP; simp, okV_iff.2 ⟨by unfold isU8 numT noP noV; simp, by unfold isI64 numT noP noV; simp, by simp [numT, noP, noV], by simp [numT, noP, noV, okVs]⟩, by unfold isI64 numT noP; simp, by simp [numT, noP], by simp [numT, noP, okPs]⟩, by simp [numT], by simp [numT, okTs]⟩
theorem lessP_ok (n : Int) (h : isI64 n) : okP (lessP n) :=
 okP_iff.2 ⟨by unfold isU8 lessP; simp, okV_iff.2 ⟨by unfold isU8 lessP; simp, h, by simp [lessP], by simp [lessP, okVs]⟩, by unfold isI64 lessP; simp, by simp [lessP], by simp [lessP, okPs]⟩
theorem yes_ok : okP yesP :=
 okP_iff.2 ⟨by unfold isU8 yesP; simp, okV_iff.2 ⟨by unfold isU8 yesP noV; simp, by unfold isI64 yesP noV; simp, by simp [yesP, noV], by simp [yesP, noV, okVs]⟩, by unfold isI64 yesP; simp, by simp [yesP], by simp [yesP, okPs]⟩
theorem spanR {w : World} {A : Nat → Prop} (lo hi : Int) : RT w A (spanT lo hi) nilTA := RT_nil rfl rfl rfl rfl rfl rfl
theorem numR {w : World} {A : Nat → Prop} (n : Int) : RT w A (numT n) nilTA := RT_nil rfl rfl rfl rfl rfl rfl
theorem lessR {w : World} {A : Nat → Prop} (n : Int) : RP w A (lessP n) nilPA := RP_nil rfl rfl
theorem yesR {w : World} {A : Nat → Prop} : RP w A yesP nilPA := RP_nil rfl rfl
theorem size_span (lo hi : Int) : sizeT (spanT lo hi) ≤ 1099511627776 := by simp [spanT, sizeT, sizeV, sizeVs, sizeP, sizePs, sizeTs, noV, noP]
theorem size_num (n : Int) : sizeT (numT n) ≤ 1099511627776 := by simp [numT, sizeT, sizeV, sizeVs, sizeP, sizePs, sizeTs, noV, noP]
theorem size_less (n : Int) : sizeP (lessP n) ≤ 1099511627776 := by simp [lessP, sizeV, sizeVs, sizeP, sizePs]
theorem size_yes : sizeP yesP ≤ 1099511627776 := by simp [yesP, noV, sizeV, sizeVs, sizeP, sizePs]
/-- the contracts at the examples -/
theorem ends_span (s : ByteArray) (N : Nat) (l : List GR) (en : Int) (many : Nat) (to : Int) (w : World) (hE : cutE (spanT 0 7) (lessP 5) s N = 0) (hR : cutT s (spanT 0 7) (lessP 5) N 0 = (l, en)) (hm : l.length = many) (h1000 : many ≤ 1000) (hto : ∀ h : many - 1 < l.length, l[many - 1].t = to) :
  Calls Tryz.prog 18 #[TV (spanT 0 7) nilTA, PV (lessP 5) nilPA, .string s, .int .i64 N, .int .u8 en, .int .i64 many, .int .i64 to] w fun e w' => e = .returned (.bool true) ∧ Below w.heap.size w w' :=
 ends_ok _ _ s N l en many to w (fun _ => True) (fun _ => True) nilTA nilPA (span_ok 0 7 (by unfold isI64; omega) (by unfold isI64; omega)) (size_span 0 7) (spanR 0 7) (lessP_ok 5 (by unfold isI64; omega)) (size_less 5) (lessR 5) hE hR hm h1000 hto
theorem ends_a (w : World) : Calls Tryz.prog 18 #[TV (spanT 0 7) nilTA, PV (lessP 5) nilPA, .string (b6 48 48 48 48 48 49), .int .i64 5, .int .u8 3, .int .i64 2, .int .i64 6] w fun e w' => e = .returned (.bool true) ∧ Below w.heap.size w w' :=
 ends_span _ 5 tr2 3 2 6 w ev5.1 ev6 rfl (by omega) (fun _ => rfl)
theorem ends_b (w : World) : Calls Tryz.prog 18 #[TV (spanT 0 7) nilTA, PV (lessP 5) nilPA, .string (b6 48 48 48 49 49 49), .int .i64 1, .int .u8 2, .int .i64 1, .int .i64 3] w fun e w' => e = .returned (.bool true) ∧ Below w.heap.size w w' :=
 ends_span _ 1 tr3 2 1 3 w ev5.2.1 ev7 rfl (by omega) (fun _ => rfl)
theorem ends_c (w : World) : Calls Tryz.prog 18 #[TV (spanT 0 7) nilTA, PV (lessP 5) nilPA, .string (b6 48 48 48 49 49 49), .int .i64 0, .int .u8 2, .int .i64 0, .int .i64 0] w fun e w' => e = .returned (.bool true) ∧ Below w.heap.size w w' :=
 ends_span _ 0 [] 2 0 0 w ev5.2.2.1 ev8 rfl (by omega) (fun h => absurd h (by simp))
theorem ends_d (w : World) : Calls Tryz.prog 18 #[TV (numT 1) nilTA, PV yesP nilPA, .string ByteArray.empty, .int .i64 3, .int .u8 2, .int .i64 3, .int .i64 0] w fun e w' => e = .returned (.bool true) ∧ Below w.heap.size w w' :=
 ends_ok _ _ ByteArray.empty 3 tr4 2 3 0 w (fun _ => True) (fun _ => True) nilTA nilPA (num_ok 1 (by unfold isI64; omega)) (size_num 1) (numR 1) yes_ok size_yes yesR ev5.2.2.2 ev9 rfl (by omega) (fun _ => rfl)
theorem cut_a (w : World) : Calls Tryz.prog 13 #[TV (spanT 0 7) nilTA, PV (lessP 5) nilPA, .string (b6 48 48 48 49 49 49), .int .i64 5] w fun e w' => Below w.heap.size w w' ∧ ∃ a c, e = .returned (.tuple #[.slice a 2 c, .int .u8 1, .int .i64 0]) ∧ RRs w' (fun b => w.heap.size ≤ b) tr1 a :=
 (cut_ok (spanT 0 7) (lessP 5) (b6 48 48 48 49 49 49) 5 w (fun _ => True) (fun _ => True) nilTA nilPA (span_ok 0 7 (by unfold isI64; omega) (by unfold isI64; omega)) (size_span 0 7) (spanR 0 7) (lessP_ok 5 (by unfold isI64; omega)) (size_less 5) (lessR 5) ev1).mono fun e w' h => by
  rw [ev2] at h
  exact h
theorem cut_b (w : World) : Calls Tryz.prog 13 #[TV (spanT 0 7) nilTA, PV (lessP 5) nilPA, .string ByteArray.empty, .int .i64 1001] w fun e w' => e = .returned (.tuple #[.slice none 0 0, .int .u8 0, .int .i64 1]) ∧ Below w.heap.size w w' :=
 (cut_err (spanT 0 7) (lessP 5) ByteArray.empty 1001 w (fun _ => True) (fun _ => True) nilTA nilPA (span_ok 0 7 (by unfold isI64; omega) (by unfold isI64; omega)) (size_span 0 7) (spanR 0 7) (lessP_ok 5 (by unfold isI64; omega)) (size_less 5) (lessR 5) (by decide) (by rw [ev3]; decide)).mono fun e w' h => by
  rw [ev3] at h
  exact h
end Go.Proofs.YtcbdfjeehimcfaaGreat
namespace Go.Proofs.YtcbdfjeehimcfaaGreat
open Go Go.RowKit
theorem RRs_two {w : World} {b : Nat} {x y : GR} {m n : VA} (h0 : w.cell? ⟨b, 0, none⟩ = some (.int .i64 x.f)) (h1 : w.cell? ⟨b, 1, none⟩ = some (.int .i64 x.t)) (h2 : w.cell? ⟨b, 2, none⟩ = some (.int .u8 x.v.k)) (h3 : w.cell? ⟨b, 3, none⟩ = some (.int .i64 x.v.n)) (h4 : w.cell? ⟨b, 4, none⟩ = some (.slice m.a x.v.l.length m.c))
  (g0 : w.cell? ⟨b, 5, none⟩ = some (.int .i64 y.f)) (g1 : w.cell? ⟨b, 6, none⟩ = some (.int .i64 y.t)) (g2 : w.cell? ⟨b, 7, none⟩ = some (.int .u8 y.v.k)) (g3 : w.cell? ⟨b, 8, none⟩ = some (.int .i64 y.v.n)) (g4 : w.cell? ⟨b, 9, none⟩ = some (.slice n.a y.v.l.length n.c)) (hx : x.v.l = []) (hy : y.v.l = []) : RRs w (fun _ => True) [x, y] (some ⟨b, 0, none⟩) := by
 simp only [RRs]
 refine ⟨b, 0, m, rfl, trivial, At5.2 ⟨h0, h1, h2, h3, h4⟩, by rw [RV_iff, hx]; simp only [RVs], b, 5, n, rfl, trivial, At5.2 ⟨g0, g1, g2, g3, g4⟩, by rw [RV_iff, hy]; simp only [RVs], trivial⟩
theorem tr1_at {w : World} {b : Nat} (h0 : w.cell? ⟨b, 0, none⟩ = some (.int .i64 0)) (h1 : w.cell? ⟨b, 1, none⟩ = some (.int .i64 3)) (h2 : w.cell? ⟨b, 2, none⟩ = some (.int .u8 1)) (h3 : w.cell? ⟨b, 3, none⟩ = some (.int .i64 0)) (h4 : w.cell? ⟨b, 4, none⟩ = some (.slice none 0 0)) (h5 : w.cell? ⟨b, 5, none⟩ = some (.int .i64 3)) (h6 : w.cell? ⟨b, 6, none⟩ = some (.int .i64 6)) (h7 : w.cell? ⟨b, 7, none⟩ = some (.int .u8 1)) (h8 : w.cell? ⟨b, 8, none⟩ = some (.int .i64 7)) (h9 : w.cell? ⟨b, 9, none⟩ = some (.slice none 0 0)) : RRs w (fun _ => True) tr1 (some ⟨b, 0, none⟩) :=
 RRs_two (x := ⟨0, 3, ⟨1, 0, []⟩⟩) (y := ⟨3, 6, ⟨1, 7, []⟩⟩) (m := ⟨none, 0⟩) (n := ⟨none, 0⟩) h0 h1 h2 h3 h4 h5 h6 h7 h8 h9 rfl rfl
theorem same_tr1 (w : World) (A : Nat → Prop) (a : Option Addr) (c b : Nat) (hr : RRs w A tr1 a) (hq : RRs w (fun _ => True) tr1 (some ⟨b, 0, none⟩)) :
  Calls Tryz.prog 14 #[.slice a 2 c, .slice (some ⟨b, 0, none⟩) 2 2, .int .i64 0] w fun e w' => e = .returned (.bool true) ∧ Below w.heap.size w w' :=
 (r29same_any tr1 tr1 0 A (fun _ => True) w a (some ⟨b, 0, none⟩) c 2 (by simp [tr1]) (by simp [tr1]) ⟨by omega, by omega⟩
  (fun x hx => by
   simp [tr1] at hx
   rcases hx with rfl | rfl
   all_goals exact ⟨⟨by simp, by simp⟩, ⟨by simp, by simp⟩, okV_iff.2 ⟨by unfold isU8; simp, by unfold isI64; simp, by simp, by simp [okVs]⟩⟩)
  (fun x hx => by
   simp [tr1] at hx
   rcases hx with rfl | rfl
   all_goals exact ⟨by unfold isI64; simp, by unfold isI64; simp, okV_iff.2 ⟨by unfold isU8; simp, by unfold isI64; simp, by simp, by simp [okVs]⟩⟩) hr hq).mono fun e w' h => by
  rw [ev4] at h
  exact h
theorem told_tr1 (w : World) (A : Nat → Prop) (a : Option Addr) (c : Nat) (hr : RRs w A tr1 a) :
  Calls Tryz.prog 15 #[.slice a 2 c] w fun e w' => Below w.heap.size w w' ∧ ∃ a' c', e = .returned (.slice a' 2 c') ∧ RRs w' (fun b => A b ∨ w.heap.size ≤ b) tr1 a' :=
 told_any tr1 A w a c (by simp [tr1]) hr
theorem cut_x (w : World) : Calls Tryz.prog 13 #[TV (spanT 0 7) nilTA, PV (lessP 5) nilPA, .string ⟨#[48, 48, 48, 49, 49, 49]⟩, .int .i64 5] w fun e w' => Below w.heap.size w w' ∧ ∃ a c, e = .returned (.tuple #[.slice a 2 c, .int .u8 1, .int .i64 0]) ∧ RRs w' (fun b => w.heap.size ≤ b) tr1 a := cut_a w
theorem cut_y (w : World) : Calls Tryz.prog 13 #[TV (spanT 0 7) nilTA, PV (lessP 5) nilPA, .string ⟨#[]⟩, .int .i64 1001] w fun e w' => e = .returned (.tuple #[.slice none 0 0, .int .u8 0, .int .i64 1]) ∧ Below w.heap.size w w' := cut_b w
theorem ends_x (w : World) : Calls Tryz.prog 18 #[TV (spanT 0 7) nilTA, PV (lessP 5) nilPA, .string ⟨#[48, 48, 48, 48, 48, 49]⟩, .int .i64 5, .int .u8 3, .int .i64 2, .int .i64 6] w fun e w' => e = .returned (.bool true) ∧ Below w.heap.size w w' := ends_a w
theorem ends_y (w : World) : Calls Tryz.prog 18 #[TV (spanT 0 7) nilTA, PV (lessP 5) nilPA, .string ⟨#[48, 48, 48, 49, 49, 49]⟩, .int .i64 1, .int .u8 2, .int .i64 1, .int .i64 3] w fun e w' => e = .returned (.bool true) ∧ Below w.heap.size w w' := ends_b w
theorem ends_z (w : World) : Calls Tryz.prog 18 #[TV (spanT 0 7) nilTA, PV (lessP 5) nilPA, .string ⟨#[48, 48, 48, 49, 49, 49]⟩, .int .i64 0, .int .u8 2, .int .i64 0, .int .i64 0] w fun e w' => e = .returned (.bool true) ∧ Below w.heap.size w w' := ends_c w
theorem ends_u (w : World) : Calls Tryz.prog 18 #[TV (numT 1) nilTA, .agg #[.int .u8 1, .int .u8 0, .int .i64 0, .slice none 0 0, .int .i64 0, .slice none 0 0], .string ⟨#[]⟩, .int .i64 3, .int .u8 2, .int .i64 3, .int .i64 0] w fun e w' => e = .returned (.bool true) ∧ Below w.heap.size w w' := ends_d w
set_option maxRecDepth 100000 in
set_option maxHeartbeats 4000000 in
theorem awake_any (w : World) : Calls Tryz.prog 11 #[] w fun e w' => e = .returned (.bool true) ∧ Below w.heap.size w w' := by
 go_enter Tryz.func11, Tryz.ntmps11
 go_wp2_with (first
  | (go_at_call 31; (with_reducible refine (span_any _ _ _).mono ?_); rintro e w1 ⟨rfl, hb1⟩; have hz1 := hb1.size; (try simp at hz1))
  | (go_at_call 32; (with_reducible refine (less_any _ _).mono ?_); rintro e w1 ⟨rfl, hb1⟩; have hz1 := hb1.size; (try simp at hz1))
  | (go_at_call 17; (with_reducible refine (lnum_any _ _).mono ?_); rintro e w1 ⟨rfl, hb1⟩; have hz1 := hb1.size; (try simp at hz1))
  | (go_at_call 13; (with_reducible refine (cut_x _).mono ?_); rintro e wa ⟨hba, a, c, rfl, hrr⟩; have HRR := Lib.hid hrr; clear hrr; have hza := hba.size; (try simp at hza))
  | (go_at_call 13; (with_reducible refine (cut_y _).mono ?_); rintro e w1 ⟨rfl, hb1⟩; have hz1 := hb1.size; (try simp at hz1))
  | (go_at_call 15; (with_reducible refine (told_tr1 _ (fun b => True) a c (by exact RRs.mono (fun _ _ _ => trivial) _ _ (RRs.ext (Agree.below (Below.mono (B := wa.heap.size) Below.r (Nat.le_refl _))) _ _ HRR.out))).mono ?_); rintro e wt ⟨hbt, a', c', rfl, hrt⟩; have HRT := Lib.hid hrt; clear hrt; have hzt := hbt.size; (try simp at hzt))
  | (go_at_call 33; (with_reducible refine (awakeV_any _ _).mono ?_); rintro e w1 ⟨rfl, hb1⟩; have hz1 := hb1.size; (try simp at hz1))
  | (go_at_call 18; (with_reducible refine (ends_x _).mono ?_); rintro e w1 ⟨rfl, hb1⟩; have hz1 := hb1.size; (try simp at hz1))
  | (go_at_call 18; (with_reducible refine (ends_y _).mono ?_); rintro e w1 ⟨rfl, hb1⟩; have hz1 := hb1.size; (try simp at hz1))
  | (go_at_call 18; (with_reducible refine (ends_z _).mono ?_); rintro e w1 ⟨rfl, hb1⟩; have hz1 := hb1.size; (try simp at hz1))
  | (go_at_call 18; (with_reducible refine (ends_u _).mono ?_); rintro e w1 ⟨rfl, hb1⟩; have hz1 := hb1.size; (try simp at hz1))
  | (go_at_call 14; (with_reducible refine (same_tr1 _ (fun _ => True) a' c' w1.heap.size (by exact RRs.mono (fun _ _ _ => trivial) _ _ (RRs.ext (Agree.below (Below.mono (B := wt.heap.size) Below.r (Nat.le_refl _))) _ _ HRT.out)) (by exact tr1_at (by go_simp) (by go_simp) (by go_simp) (by go_simp) (by go_simp) (by go_simp) (by go_simp) (by go_simp) (by go_simp) (by go_simp))).mono ?_); rintro e w1 ⟨rfl, hb1⟩; have hz1 := hb1.size; (try simp at hz1)))
 go_ret
 exact ⟨rfl, Below.r⟩
end Go.Proofs.YtcbdfjeehimcfaaGreat
namespace Go.Proofs.YtcbdfjeehimcfaaGreat
open Go Go.RowKit
mutual
theorem sameV_self : ∀ x : GV, sameV x x = true
 | ⟨k, n, l⟩ => by simp only [sameV, sameVs_self l, beq_self_eq_true, Bool.and_self]
theorem sameVs_self : ∀ l : List GV, sameVs l l = true
 | [] => rfl
 | x :: l => by simp only [sameVs, sameV_self x, sameVs_self l, Bool.and_self]
end
theorem same_self (x : GV) (w : World) (A A' : Nat → Prop) (m m' : VA) (ox : okV x) (h1 : RV w A x m.a) (h2 : RV w A' x m'.a) :
  Calls Tryz.prog 20 #[VV x m, VV x m'] w fun e w' => e = .returned (.bool true) ∧ Below w.heap.size w w' := by
 have h := same_any (sizeV x) x x w A A' m m' (Nat.le_refl _) ox ox (RV_iff.1 h1) (RV_iff.1 h2)
 rw [sameV_self] at h
 exact h
/-- an operation that yields is taken; the region's operations as a list -/
theorem tq {P : Program} {md : Region.Mode} {l : List Oper} {Q : Exit → Act → World → Prop} {S : World → Prop} (i : Nat) {oi : Oper} {v : Value} {fuel : Nat} {listed : Array Bool} {a : Act} {w : World} (hi : l[i]? = some oi) (hy : YieldsIf P l.toArray S oi v a)
  (h : wpAnyH P md l.toArray Q S fuel (listed.setIfInBounds i true) (a.put oi.dst v) w) (hS : S w := by assumption) (hs : Region.noSelect l.toArray = true := by kernel_rfl) (hf : Region.free md l.toArray listed i = true := by kernel_rfl) (hr : (Region.ready md l.toArray listed).contains i = true := by kernel_rfl)
  (hQ : ∀ c a w, Q (.panic c) (a.put oi.dst v) w → Q (.panic c) a w := by exact fun _ _ _ h => h) : wpAnyH P md l.toArray Q S (fuel + 1) listed a w := wpAnyH_take (by simpa using hi) hs hf hr hQ hy hS h
theorem At5z {w : World} {b : Nat} {c0 c1 c2 c3 c4 : Value} : At w b 0 [c0, c1, c2, c3, c4] ↔ w.cell? ⟨b, 0, none⟩ = some c0 ∧ w.cell? ⟨b, 1, none⟩ = some c1 ∧ w.cell? ⟨b, 2, none⟩ = some c2 ∧ w.cell? ⟨b, 3, none⟩ = some c3 ∧ w.cell? ⟨b, 4, none⟩ = some c4 := At5
set_option maxRecDepth 100000 in
set_option maxHeartbeats 8000000 in
theorem lrow_err (t : GT) (p : GP) (s : ByteArray) (n : Int) (w : World) (A A2 : Nat → Prop) (m : TA) (mp : PA) (ox : okT t) (hs1 : sizeT t ≤ 1048576) (hl : RT w A t m) (op : okP p) (hp1 : sizeP p ≤ 1048576) (hr : RP w A2 p mp) (hss : s.size ≤ 1048576) (hE : cutE t p s n ≠ 0) :
  Calls Tryz.prog 5 #[TV t m, PV p mp, .string s, .int .i64 n] w fun e w' => e = .returned (.bool true) ∧ Below w.heap.size w w' := by
 obtain ⟨ma, mb, mc, md, me, mf, mg, mh, mi, mj, mk, ml⟩ := m
 obtain ⟨na, nb, nc, nd⟩ := mp
 have HL := Lib.hid hl
 have HR := Lib.hid hr
 have OX := Lib.hid ox
 have OP := Lib.hid op
 have hs : sizeT t ≤ 1099511627776 := by omega
 have hp : sizeP p ≤ 1099511627776 := by omega
 have hs9 : s.size ≤ 9223372036854775807 := by omega
 have h1 : (cutE t p s n != 0) = true := by simp [hE]
 have HCE := Lib.hid hE
 clear hl hr ox op hE
 go_enter Tryz.func5, Tryz.ntmps5
 go_wp2_with (first
  | (go_at_call 10; (with_reducible refine (long29_any t p s _ _ A A2 ⟨ma, mb, mc, md, me, mf, mg, mh, mi, mj, mk, ml⟩ ⟨na, nb, nc, nd⟩ OX.out hs1 (by exact RT.ext (Agree.below Below.r) _ _ HL.out) OP.out (by exact RP.ext (Agree.below Below.r) _ _ HR.out)).mono ?_); rintro e w1 ⟨⟨b1, rfl⟩, hb1⟩; obtain ⟨hc1, hf1⟩ := bcells hb1; have hz1 := hb1.size; (try simp at hz1); have y1 : w.heap.size < w1.heap.size := (by omega); have y2 : w.heap.size + 1 < w1.heap.size := (by omega); cases b1)
  | (go_at_call 11; (with_reducible refine (awake_any _).mono ?_); rintro e wa ⟨rfl, hba⟩; obtain ⟨hca, hfa⟩ := bcells hba; have hza := hba.size; (try simp at hza); have y3 : w.heap.size < wa.heap.size := (by omega); have y4 : w.heap.size + 1 < wa.heap.size := (by omega))
  | (go_at_call 13; refine (cut_err t p s n _ A A2 ⟨ma, mb, mc, md, me, mf, mg, mh, mi, mj, mk, ml⟩ ⟨na, nb, nc, nd⟩ OX.out hs (by exact RT.ext (Agree.below Below.r) _ _ HL.out) OP.out hp (by exact RP.ext (Agree.below Below.r) _ _ HR.out) hs9 HCE.out).mono ?_; rintro e w3 ⟨rfl, hb3⟩))
 all_goals go_ret
 all_goals exact ⟨rfl, Below.r⟩
end Go.Proofs.YtcbdfjeehimcfaaGreat
namespace Go.Proofs.YtcbdfjeehimcfaaGreat
open Go Go.RowKit
theorem sameRs_self : ∀ l : List GR, sameRs 0 l l = true
 | [] => rfl
 | x :: l => by simp only [sameRs, Int.add_zero, beq_self_eq_true, sameV_self, sameRs_self l, Bool.and_self]
def shR (d : Nat) (x : GR) : GR := ⟨x.f + (d : Int), x.t + (d : Int), x.v⟩
theorem sameRs_sh (d : Nat) : ∀ l : List GR, sameRs d l (l.map (shR d)) = true
 | [] => rfl
 | x :: l => by simp only [List.map_cons, sameRs, shR, beq_self_eq_true, sameV_self, Bool.and_self, Bool.true_and]; exact sameRs_sh d l
/-- the first trial's place does not matter, but that it shifts all -/
theorem cut_sub (s : ByteArray) (t : GT) (p : GP) (a : Nat) : ∀ (n i : Nat), cutT s t p n (a + i) = ((cutT (subS s a) t p n i).1.map (shR a), (cutT (subS s a) t p n i).2)
 | 0, i => rfl
 | n + 1, i => by
  rw [cutT_step, cutT_step, subS_subS]
  rcases runT (subS s (a + i)) t with ⟨v, u⟩ | ⟨k⟩
  ·dsimp only
   rw [Nat.add_assoc, cut_sub s t p a n (i + u)]
   have h1 : ((a + i : Nat) : Int) = (i : Int) + (a : Int) := by omega
   have h2 : ((a + (i + u) : Nat) : Int) = ((i + u : Nat) : Int) + (a : Int) := by omega
   split
   ·simp only [List.map_cons, shR, h1, h2]
   ·simp only [List.map_cons, List.map_nil, shR, h1, h2]
  ·rfl
/-- where the k-th trial begins -/
def atR (l : List GR) (k : Nat) : Int := if k = 0 then 0 else ((l.map GR.t)[k - 1]?).getD 0
theorem cut_drop (s : ByteArray) (t : GT) (p : GP) : ∀ (k n a : Nat) (l : List GR) (e : Int), cutT s t p n a = (l, e) → k < l.length → k ≤ n ∧ ∃ b : Nat, (k = 0 ∧ b = a ∨ ∃ h : k - 1 < l.length, 0 < k ∧ l[k - 1].t = (b : Int)) ∧ cutT s t p (n - k) b = (l.drop k, e)
 | 0, n, a, l, e, h, _ => ⟨Nat.zero_le _, a, .inl ⟨rfl, rfl⟩, by simpa using h⟩
 | k + 1, n, a, [], e, h, hk => by simp at hk
 | k + 1, n, a, x :: r, e, h, hk => by
  obtain ⟨h0, v, u, hr, hx, ⟨hh, hc⟩ | ⟨hh, rfl, rfl⟩⟩ := cut_cons h
  ·have hk' : k < r.length := by simpa using hk
   obtain ⟨g1, b, g2, g3⟩ := cut_drop s t p k (n - 1) (a + u) r e hc hk'
   refine ⟨by omega, b, .inr ⟨by simp; omega, by omega, ?_⟩, by rw [show n - (k + 1) = n - 1 - k by omega, g3]; rfl⟩
   rcases g2 with ⟨rfl, rfl⟩ | ⟨hl, hk0, g⟩
   ·simp [hx]
   ·obtain ⟨j, rfl⟩ : ∃ j, k = j + 1 := ⟨k - 1, by omega⟩
    simpa using g
  ·simp at hk
theorem sub_front {s s' : ByteArray} (h : Front s s') (a : Nat) (ha : a ≤ s.size) : Front (subS s a) (subS s' a) := by
 have h1 := h.1
 refine ⟨by rw [subS_size s a ha, subS_size s' a (by omega)]; omega, fun i hi => ?_⟩
 rw [subS_size s a ha] at hi
 rw [subS_list, subS_list]
 have := h.2 (i + a) (by omega)
 simpa [List.getD_eq_getElem?_getD, Nat.add_comm] using this
theorem runT_front {s s' : ByteArray} {t : GT} (h : Front s s') (hE : runE t s = 0) (ox : okT t) : (runT s t).Keep (runT s' t) := by
 have h1 : (chkT 0 1 12 false t).2 = 0 := by
  unfold runE checkTE at hE
  by_cases h0 : (chkT 0 1 12 false t).2 = 0
  ·exact h0
  ·rw [if_pos h0] at hE; rw [if_pos h0] at hE; omega
 exact sampT_front h (sizeT t) 4098 t [] 0 (good_of_chk 12 t 0 1 false h1) ox (Nat.le_refl _) trivial (by omega)
/-- with bits behind the trials are those, and perhaps others behind; they are just those, if it does not end by Short -/
theorem cut_front {s s' : ByteArray} {t : GT} (p : GP) (h : Front s s') (hE : runE t s = 0) (ox : okT t) : ∀ (n a : Nat) (l : List GR) (e : Int), a ≤ s.size → cutT s t p n a = (l, e) → (e ≠ 3 → cutT s' t p n a = (l, e)) ∧ (∃ r e', cutT s' t p n a = (l ++ r, e'))
 | 0, a, l, e, ha, hc => by
  have hc' : cutT s' t p 0 a = (l, e) := hc
  exact ⟨fun _ => hc', [], e, by rw [hc', List.append_nil]⟩
 | n + 1, a, [], e, ha, hc => by
  rcases cut_nil hc with ⟨h0, _⟩ | ⟨_, k, hr, rfl⟩
  ·omega
  ·refine ⟨fun he => ?_, (cutT s' t p (n + 1) a).1, (cutT s' t p (n + 1) a).2, rfl⟩
   rcases runT_front (sub_front h a ha) (runE_sub hE a ha) ox with hk | hk
   ·rw [hr] at hk
    simp only [Res.no.injEq] at hk
    rw [if_pos hk] at he
    exact absurd rfl he
   ·rw [cutT_step, hk, hr]
 | n + 1, a, x :: r, e, ha, hc => by
  obtain ⟨h0, v, u, hr, hx, hcc⟩ := cut_cons hc
  have hin := runT_in (runE_sub hE a ha) ox
  rw [hr, subS_size s a ha] at hin
  obtain ⟨-, hu, -⟩ := hin
  have hk : runT (subS s' a) t = .ok v u := by
   rcases runT_front (sub_front h a ha) (runE_sub hE a ha) ox with hk | hk
   ·rw [hr] at hk; cases hk
   ·rw [hk, hr]
  rw [Nat.add_sub_cancel] at hcc
  rw [cutT_step, hk]
  dsimp only
  rcases hcc with ⟨hh, hn⟩ | ⟨hh, rfl, rfl⟩
  ·obtain ⟨g1, r', e', g2⟩ := cut_front p h hE ox n (a + u) r e (by omega) hn
   rw [if_pos hh]
   refine ⟨fun he => by rw [g1 he, hx], r', e', by rw [g2, hx]; rfl⟩
  ·rw [if_neg (by rw [hh]; simp)]
   exact ⟨fun _ => by rw [hx], [], 1, by rw [hx]; rfl⟩
/-- by a predicate that always holds none fails -/
theorem cut_yes (s : ByteArray) (t : GT) (p : GP) (hp : ∀ v, holdsP p v = true) : ∀ (n a : Nat), (cutT s t p n a).2 ≠ 1
 | 0, a => by simp [cutT]
 | n + 1, a => by
  rw [cutT_step]
  rcases runT (subS s a) t with ⟨v, u⟩ | ⟨k⟩
  ·dsimp only
   rw [if_pos (hp v)]
   exact cut_yes s t p hp n (a + u)
  ·dsimp only
   split <;> omega
/-- the first trial: there is one by all predicates, or by none -/
theorem cut_one (s : ByteArray) (t : GT) (n : Nat) : (∃ v u, 0 < n ∧ ∀ p, (cutT s t p n 0).1 ≠ [] ∧ (holdsP p v = false → cutT s t p n 0 = ([⟨(0 : Nat), (0 + u : Nat), v⟩], 1)) ∧ (holdsP p v = true → ((cutT s t p n 0).2 = 1 ∧ (cutT s t p n 0).1.length = 1) → False)) ∨ ∃ e, e ≠ 1 ∧ ∀ p, cutT s t p n 0 = ([], e) := by
 cases n with
 | zero => exact .inr ⟨2, by omega, fun p => rfl⟩
 | succ n =>
  rcases hr : runT (subS s 0) t with ⟨v, u⟩ | ⟨k⟩
  ·refine .inl ⟨v, u, by omega, fun p => ⟨?_, fun h => ?_, fun h => ?_⟩⟩
   ·rw [cutT_step, hr]; dsimp only; split <;> simp
   ·rw [cutT_step, hr]; dsimp only; rw [if_neg (by rw [h]; simp)]
   ·rw [cutT_step, hr]; dsimp only; rw [if_pos h]
    intro ⟨h1, h2⟩
    dsimp only at h1 h2
    have h3 : (cutT s t p n (0 + u)).1 = [] := List.eq_nil_of_length_eq_zero (by simpa using h2)
    exact cut_nil_ne (e := (cutT s t p n (0 + u)).2) (Prod.ext h3 rfl) h1
  ·refine .inr ⟨if k = 2 then 3 else 4, by split <;> omega, fun p => ?_⟩
   rw [cutT_step, hr]
/-- where trials lie, and what they come to -/
theorem cut_mem {s : ByteArray} {t : GT} (p : GP) (hE : runE t s = 0) (ox : okT t) : ∀ (n a : Nat), a ≤ s.size → ∀ x ∈ (cutT s t p n a).1, (0 ≤ x.f ∧ x.f ≤ (s.size : Int)) ∧ (0 ≤ x.t ∧ x.t ≤ (s.size : Int)) ∧ okV x.v
 | 0, a, ha, x, hx => by simp [cutT] at hx
 | n + 1, a, ha, x, hx => by
  rw [cutT_step] at hx
  have hin := runT_in (runE_sub hE a ha) ox
  rcases hr : runT (subS s a) t with ⟨v, u⟩ | ⟨k⟩
  ·rw [hr] at hx hin
   rw [subS_size s a ha] at hin
   obtain ⟨-, hu, okx⟩ := hin
   have h0 : (0 ≤ (a : Int) ∧ (a : Int) ≤ (s.size : Int)) ∧ (0 ≤ ((a + u : Nat) : Int) ∧ ((a + u : Nat) : Int) ≤ (s.size : Int)) ∧ okV v := ⟨by omega, by omega, okx⟩
   dsimp only at hx
   split at hx
   ·rcases List.mem_cons.1 hx with rfl | hx
    ·exact h0
    ·exact cut_mem p hE ox n (a + u) (by omega) x hx
   ·rcases List.mem_singleton.1 hx with rfl
    exact h0
  ·rw [hr] at hx
   simp at hx
theorem cutE_most {t : GT} {p : GP} {s : ByteArray} {n n' : Int} (h : 0 ≤ n ∧ n ≤ 1000) (h' : 0 ≤ n' ∧ n' ≤ 1000) : cutE t p s n = cutE t p s n' := by
 unfold cutE
 rw [if_neg (c := n < 0 ∨ 1000 < n) (by omega), if_neg (c := n' < 0 ∨ 1000 < n') (by omega)]
theorem app_list (s s2 : ByteArray) : (s ++ s2).data.toList = s.data.toList ++ s2.data.toList := by simp
theorem isBits_app {s s2 : ByteArray} (h : isBits (s ++ s2) = true) : isBits s = true := by
 unfold isBits oddB at h ⊢
 rw [app_list, List.all_append, Bool.not_not, Bool.and_eq_true, Bool.and_eq_true] at h
 rw [Bool.not_not, Bool.and_eq_true]
 have h1 := of_decide_eq_true h.1
 rw [ByteArray.size_append] at h1
 exact ⟨decide_eq_true (by omega), h.2.1⟩
theorem app_front (s s2 : ByteArray) : Front s (s ++ s2) := by
 refine ⟨by rw [ByteArray.size_append]; omega, fun i hi => ?_⟩
 have h : i < s.data.toList.length := by rw [Array.length_toList]; exact hi
 rw [app_list, List.getD_eq_getElem?_getD, List.getD_eq_getElem?_getD, List.getElem?_append_left h]
theorem cutE_app {t : GT} {p : GP} {s s2 : ByteArray} {n : Int} (h : isBits (s ++ s2) = true) : cutE t p (s ++ s2) n = cutE t p s n := by
 have h1 : runE t (s ++ s2) = runE t s := by unfold runE; rw [h, isBits_app h]
 unfold cutE
 rw [h1]
end Go.Proofs.YtcbdfjeehimcfaaGreat
namespace Go.Proofs.YtcbdfjeehimcfaaGreat
open Go Go.RowKit
/-- told, of a row that is known -/
theorem r29same_of (d : Int) (l l' : List GR) (A A' : Nat → Prop) (w : World) (a a' : Option Addr) (c c' : Nat) (hl : l.length ≤ 1048576) (hl' : l'.length ≤ 1048576) (hd : 0 ≤ d ∧ d ≤ 1099511627776) (S : Nat) (hS : S ≤ 1099511627776)
  (ho : ∀ x ∈ l, (0 ≤ x.f ∧ x.f ≤ (S : Int)) ∧ (0 ≤ x.t ∧ x.t ≤ (S : Int)) ∧ okV x.v) (ho' : ∀ x ∈ l', (0 ≤ x.f ∧ x.f ≤ (S : Int)) ∧ (0 ≤ x.t ∧ x.t ≤ (S : Int)) ∧ okV x.v) (hr : RRs w A l a) (hr' : RRs w A' l' a') (hs : sameRs d l l' = true) :
  Calls Tryz.prog 14 #[.slice a l.length c, .slice a' l'.length c', .int .i64 d] w fun e w' => e = .returned (.bool true) ∧ Below w.heap.size w w' := by
 have h := r29same_any l l' d A A' w a a' c c' hl hl' hd (fun x hx => by obtain ⟨h1, h2, h3⟩ := ho x hx; exact ⟨by omega, by omega, h3⟩) (fun x hx => by obtain ⟨h1, h2, h3⟩ := ho' x hx; exact ⟨by unfold isI64; omega, by unfold isI64; omega, h3⟩) hr hr'
 rw [hs] at h
 exact h
set_option maxRecDepth 100000 in
set_option maxHeartbeats 8000000 in
theorem lmore_err (t : GT) (p : GP) (s : ByteArray) (n k : Int) (w : World) (A A2 : Nat → Prop) (m : TA) (mp : PA) (ox : okT t) (hs1 : sizeT t ≤ 1048576) (hl : RT w A t m) (op : okP p) (hp1 : sizeP p ≤ 1048576) (hr : RP w A2 p mp) (hss : s.size ≤ 1048576) (hk : 0 ≤ k ∧ k ≤ 255) (hn : 0 ≤ n ∧ n ≤ 50) (hE : cutE t p s n ≠ 0) :
  Calls Tryz.prog 6 #[TV t m, PV p mp, .string s, .int .i64 n, .int .u8 k] w fun e w' => e = .returned (.bool true) ∧ Below w.heap.size w w' := by
 obtain ⟨ma, mb, mc, md, me, mf, mg, mh, mi, mj, mk, ml⟩ := m
 obtain ⟨na, nb, nc, nd⟩ := mp
 have HL := Lib.hid hl
 have HR := Lib.hid hr
 have OX := Lib.hid ox
 have OP := Lib.hid op
 have hs : sizeT t ≤ 1099511627776 := by omega
 have hp : sizeP p ≤ 1099511627776 := by omega
 have hs9 : s.size ≤ 9223372036854775807 := by omega
 have hE2 : cutE t p s (n + k) = cutE t p s n := cutE_most (by omega) (by omega)
 have h1 : (cutE t p s n != 0) = true := by simp [hE]
 have HCE2 : Hid (cutE t p s (n + k) ≠ 0) := Lib.hid (by rw [hE2]; exact hE)
 have HCE := Lib.hid hE
 have HE2 := Lib.hid hE2
 have g1 : decide (n < 0) = false := by simp; omega
 have g2 : decide (50 < n) = false := by simp; omega
 clear hl hr ox op hE hE2
 go_enter Tryz.func6, Tryz.ntmps6
 go_wp2_with (first
  | (go_at_call 10; (with_reducible refine (long29_any t p s _ _ A A2 ⟨ma, mb, mc, md, me, mf, mg, mh, mi, mj, mk, ml⟩ ⟨na, nb, nc, nd⟩ OX.out hs1 (by exact RT.ext (Agree.below Below.r) _ _ HL.out) OP.out (by exact RP.ext (Agree.below Below.r) _ _ HR.out)).mono ?_); rintro e w1 ⟨⟨b1, rfl⟩, hb1⟩; obtain ⟨hc1, hf1⟩ := bcells hb1; have hz1 := hb1.size; (try simp at hz1); have y1 : w.heap.size < w1.heap.size := (by omega); have y2 : w.heap.size + 1 < w1.heap.size := (by omega); cases b1)
  | (go_at_call 11; (with_reducible refine (awake_any _).mono ?_); rintro e wa ⟨rfl, hba⟩; obtain ⟨hca, hfa⟩ := bcells hba; have hza := hba.size; (try simp at hza); have y3 : w.heap.size < wa.heap.size := (by omega); have y4 : w.heap.size + 1 < wa.heap.size := (by omega))
  | (go_at_call 13; (with_reducible refine (cut_err t p s n _ A A2 ⟨ma, mb, mc, md, me, mf, mg, mh, mi, mj, mk, ml⟩ ⟨na, nb, nc, nd⟩ OX.out hs (by exact RT.ext (Agree.below Below.r) _ _ HL.out) OP.out hp (by exact RP.ext (Agree.below Below.r) _ _ HR.out) hs9 HCE.out).mono ?_); rintro e w3 ⟨rfl, hb3⟩; obtain ⟨hc3, hf3⟩ := bcells hb3; have hz3 := hb3.size; (try simp at hz3); have y5 : w.heap.size < w3.heap.size := (by omega); have y6 : w.heap.size + 1 < w3.heap.size := (by omega))
  | (go_at_call 13; (with_reducible refine (cut_err t p s (n + k) _ A A2 ⟨ma, mb, mc, md, me, mf, mg, mh, mi, mj, mk, ml⟩ ⟨na, nb, nc, nd⟩ OX.out hs (by exact RT.ext (Agree.below Below.r) _ _ HL.out) OP.out hp (by exact RP.ext (Agree.below Below.r) _ _ HR.out) hs9 HCE2.out).mono ?_); rintro e w4 ⟨rfl, hb4⟩; rw [HE2.out]))
 all_goals go_ret
 all_goals exact ⟨rfl, Below.r⟩
set_option maxRecDepth 100000 in
set_option maxHeartbeats 8000000 in
theorem lmore_far (t : GT) (p : GP) (s : ByteArray) (n k : Int) (w : World) (A A2 : Nat → Prop) (m : TA) (mp : PA) (ox : okT t) (hs1 : sizeT t ≤ 1048576) (hl : RT w A t m) (op : okP p) (hp1 : sizeP p ≤ 1048576) (hr : RP w A2 p mp) (hn : n < 0 ∨ 50 < n) :
  Calls Tryz.prog 6 #[TV t m, PV p mp, .string s, .int .i64 n, .int .u8 k] w fun e w' => e = .returned (.bool true) ∧ Below w.heap.size w w' := by
 obtain ⟨ma, mb, mc, md, me, mf, mg, mh, mi, mj, mk, ml⟩ := m
 obtain ⟨na, nb, nc, nd⟩ := mp
 have HL := Lib.hid hl
 have HR := Lib.hid hr
 have OX := Lib.hid ox
 have OP := Lib.hid op
 clear hl hr ox op
 rcases hn with hn | hn
 all_goals
  first
   | have g1 : decide (n < 0) = true := by simp; omega
   | have g1 : decide (n < 0) = false := by simp; omega
  try have g2 : decide (50 < n) = true := by simp; omega
  go_enter Tryz.func6, Tryz.ntmps6
  go_wp2_with (first
   | (go_at_call 10; (with_reducible refine (long29_any t p s _ _ A A2 ⟨ma, mb, mc, md, me, mf, mg, mh, mi, mj, mk, ml⟩ ⟨na, nb, nc, nd⟩ OX.out hs1 (by exact RT.ext (Agree.below Below.r) _ _ HL.out) OP.out (by exact RP.ext (Agree.below Below.r) _ _ HR.out)).mono ?_); rintro e w1 ⟨⟨b1, rfl⟩, hb1⟩; obtain ⟨hc1, hf1⟩ := bcells hb1; have hz1 := hb1.size; (try simp at hz1); have y1 : w.heap.size < w1.heap.size := (by omega); have y2 : w.heap.size + 1 < w1.heap.size := (by omega); cases b1)
   | (go_at_call 11; (with_reducible refine (awake_any _).mono ?_); rintro e wa ⟨rfl, hba⟩))
  all_goals go_ret
  all_goals exact ⟨rfl, Below.r⟩
end Go.Proofs.YtcbdfjeehimcfaaGreat
namespace Go.Proofs.YtcbdfjeehimcfaaGreat
open Go Go.RowKit
set_option maxRecDepth 100000 in
set_option maxHeartbeats 16000000 in
theorem lmore_ok (t : GT) (p : GP) (s : ByteArray) (N K : Nat) (w : World) (A A2 : Nat → Prop) (m : TA) (mp : PA) (ox : okT t) (hs1 : sizeT t ≤ 1048576) (hl : RT w A t m) (op : okP p) (hp1 : sizeP p ≤ 1048576) (hr : RP w A2 p mp) (hss : s.size ≤ 1048576) (hk : K ≤ 255) (hn : N ≤ 50) (hE : cutE t p s N = 0) (l : List GR) (en : Int) (hR : cutT s t p N 0 = (l, en)) :
  Calls Tryz.prog 6 #[TV t m, PV p mp, .string s, .int .i64 N, .int .u8 K] w fun e w' => e = .returned (.bool true) ∧ Below w.heap.size w w' := by
 obtain ⟨ma, mb, mc, md, me, mf, mg, mh, mi, mj, mk, ml⟩ := m
 obtain ⟨na, nb, nc, nd⟩ := mp
 have HL := Lib.hid hl
 have HR := Lib.hid hr
 have OX := Lib.hid ox
 have OP := Lib.hid op
 have hs : sizeT t ≤ 1099511627776 := by omega
 have hp : sizeP p ≤ 1099511627776 := by omega
 have hRE : runE t s = 0 := by
  unfold cutE at hE
  split at hE
  ·omega
  ·omega
 have hE2 : cutE t p s ((N + K : Nat) : Int) = 0 := (cutE_most (by omega) (by omega)).trans hE
 obtain ⟨hm1, r, e2, hm2⟩ := cut_more s t p K N 0 l en hR
 have hmem := cut_mem p hRE ox N 0 (by omega)
 rw [hR] at hmem
 have HMEM := Lib.hid hmem
 have hl1 : l.length ≤ 50 := by have := (cut_len s t p N 0 l en hR).1; omega
 have hl2 : (l ++ r).length ≤ 305 := by have := (cut_len s t p (N + K) 0 _ e2 hm2).1; omega
 have HCUT : Hid (∀ W, RT W A t ⟨ma, mb, mc, md, me, mf, mg, mh, mi, mj, mk, ml⟩ → RP W A2 p ⟨na, nb, nc, nd⟩ → Calls Tryz.prog 13 #[TV t ⟨ma, mb, mc, md, me, mf, mg, mh, mi, mj, mk, ml⟩, PV p ⟨na, nb, nc, nd⟩, .string s, .int .i64 N] W fun e w' => Below W.heap.size W w' ∧ ∃ a c, e = .returned (.tuple #[.slice a l.length (l.length + c), .int .u8 en, .int .i64 0]) ∧ RRs w' (fun b => W.heap.size ≤ b) l a) :=
  Lib.hid (fun W h1 h2 => (cut_okc t p s N W A A2 ⟨ma, mb, mc, md, me, mf, mg, mh, mi, mj, mk, ml⟩ ⟨na, nb, nc, nd⟩ ox hs h1 op hp h2 hE).mono fun e w' h => by rw [hR] at h; exact h)
 have HCUT2 : Hid (∀ W, RT W A t ⟨ma, mb, mc, md, me, mf, mg, mh, mi, mj, mk, ml⟩ → RP W A2 p ⟨na, nb, nc, nd⟩ → Calls Tryz.prog 13 #[TV t ⟨ma, mb, mc, md, me, mf, mg, mh, mi, mj, mk, ml⟩, PV p ⟨na, nb, nc, nd⟩, .string s, .int .i64 ((N : Int) + (K : Int))] W fun e w' => Below W.heap.size W w' ∧ ∃ a c, e = .returned (.tuple #[.slice a (l.length + r.length) (l.length + r.length + c), .int .u8 e2, .int .i64 0]) ∧ RRs w' (fun b => W.heap.size ≤ b) (l ++ r) a) :=
  Lib.hid (fun W h1 h2 => by
   have h := cut_okc t p s (N + K) W A A2 ⟨ma, mb, mc, md, me, mf, mg, mh, mi, mj, mk, ml⟩ ⟨na, nb, nc, nd⟩ ox hs h1 op hp h2 hE2
   rw [hm2, Int.natCast_add] at h
   unfold CutC at h
   dsimp only at h
   rw [List.length_append] at h
   exact h)
 have HQ : Hid ((en == 2) = true ∨ ((en == 2) = false ∧ (e2 == en) = true ∧ ((l.length : Int) + (r.length : Int) == (l.length : Int)) = true)) := Lib.hid (by
  by_cases h : en = 2
  ·exact .inl (by simp [h])
  ·have h3 := hm1 h
   rw [hm2] at h3
   simp only [Prod.mk.injEq] at h3
   have h4 : r = [] := by simpa using h3.1
   exact .inr ⟨by simp [h], by simp [h3.2], by simp [h4]⟩)
 rw [List.length_append] at hl2
 clear hl hr ox op hE hE2 hRE hmem hR hm1 hm2
 have g1 : decide ((N : Int) < 0) = false := decide_eq_false (by omega)
 have g2 : decide ((50 : Int) < (N : Int)) = false := decide_eq_false (by omega)
 have g3 : decide ((l.length : Int) + (r.length : Int) < (l.length : Int)) = false := decide_eq_false (by omega)
 go_enter Tryz.func6, Tryz.ntmps6
 go_wp2_with (first
  | (go_at_call 10; (with_reducible refine (long29_any t p s _ _ A A2 ⟨ma, mb, mc, md, me, mf, mg, mh, mi, mj, mk, ml⟩ ⟨na, nb, nc, nd⟩ OX.out hs1 (by exact RT.ext (Agree.below Below.r) _ _ HL.out) OP.out (by exact RP.ext (Agree.below Below.r) _ _ HR.out)).mono ?_); rintro e w1 ⟨⟨b1, rfl⟩, hb1⟩; obtain ⟨hc1, hf1⟩ := bcells hb1; have hz1 := hb1.size; (try simp at hz1); have y1 : w.heap.size < w1.heap.size := (by omega); have y2 : w.heap.size + 1 < w1.heap.size := (by omega); cases b1)
  | (go_at_call 11; (with_reducible refine (awake_any _).mono ?_); rintro e wa ⟨rfl, hba⟩; obtain ⟨hca, hfa⟩ := bcells hba; have hza := hba.size; (try simp at hza); have y3 : w.heap.size < wa.heap.size := (by omega); have y4 : w.heap.size + 1 < wa.heap.size := (by omega))
  | (go_at_call 13; (with_reducible refine (HCUT.out _ (by exact RT.ext (Agree.below Below.r) _ _ HL.out) (by exact RP.ext (Agree.below Below.r) _ _ HR.out)).mono ?_); rintro e w3 ⟨hb3, a, c, rfl, hrr⟩; have HRR := Lib.hid (RRs.mono (A' := fun _ => True) (fun _ _ _ => trivial) _ _ hrr); clear hrr; obtain ⟨hc3, hf3⟩ := bcells hb3; have hz3 := hb3.size; (try simp at hz3); have y5 : w.heap.size < w3.heap.size := (by omega); have y6 : w.heap.size + 1 < w3.heap.size := (by omega))
  | (go_at_call 13; (with_reducible refine (HCUT2.out _ (by exact RT.ext (Agree.below Below.r) _ _ HL.out) (by exact RP.ext (Agree.below Below.r) _ _ HR.out)).mono ?_); rintro e w4 ⟨hb4, a2, c2, rfl, hrr⟩; have i0 : (0 : Int) ≤ (l.length : Int) := (by omega); have i1 : (l.length : Int) ≤ (l.length : Int) + (r.length : Int) + (c2 : Int) := (by omega); have HRR2 := Lib.hid (RRs.mono (A' := fun _ => True) (fun _ _ _ => trivial) _ _ hrr); clear hrr; obtain ⟨hc4, hf4⟩ := bcells hb4; have hz4 := hb4.size; (try simp at hz4); have y7 : w.heap.size < w4.heap.size := (by omega); have y8 : w.heap.size + 1 < w4.heap.size := (by omega)))
 all_goals (try (go_ret; exact ⟨rfl, Below.r⟩))
 have HRL := Lib.hid (RRs.ext (Agree.below hb4) _ _ HRR.out)
 have HRM : Hid (RRs w4 (fun _ => True) l a2) := Lib.hid ((fun h => by rwa [List.take_left] at h) (RRs.take HRR2.out l.length))
 have HSM := Lib.hid (sameRs_self l)
 go_region_held3 (fun W => Below w4.heap.size w4 W) (((exact Below.r))) ((first | (go_at_call 15; (with_reducible refine (told_any l (fun _ => True) _ a _ (by omega) (by exact RRs.ext (Agree.below Below.r) _ _ HRL.out)).mono ?_); rintro e w5 ⟨hb5, a5, c5, rfl, hr5⟩; have HR5 := Lib.hid (RRs.mono (A' := fun _ => True) (fun _ _ _ => trivial) _ _ hr5); clear hr5; have hz5 := hb5.size; (try simp at hz5)) | (go_at_call 15; (with_reducible refine (told_any l (fun _ => True) _ a2 _ (by omega) (by exact RRs.ext (Agree.below Below.r) _ _ HRM.out)).mono ?_); rintro e w6 ⟨hb6, a6, c6, rfl, hr6⟩; have HR6 := Lib.hid (RRs.mono (A' := fun _ => True) (fun _ _ _ => trivial) _ _ hr6); clear hr6; have hz6 := hb6.size; (try simp at hz6)) | (go_at_call 14; (with_reducible refine (r29same_of 0 l l (fun _ => True) (fun _ => True) _ a5 a6 c5 c6 (by omega) (by omega) (by omega) s.size (by omega) HMEM.out HMEM.out (by exact RRs.ext (Agree.below Below.r) _ _ HR5.out) (by exact RRs.ext (Agree.below Below.r) _ _ HR6.out) HSM.out).mono ?_); rintro e w7 ⟨rfl, hb7⟩; have hz7 := hb7.size; (try simp at hz7))))
 all_goals rcases HQ.out with q1 | ⟨q1, q2, q3⟩
 all_goals go_wp2_with fail
 all_goals go_ret
 all_goals refine ⟨ret_bool ?_, Below.r⟩
 all_goals simp only [*, Bool.true_or, Bool.or_true, Bool.and_self]
theorem lmore_any (w : World) (t : GT) (A : Nat → Prop) (m : TA) (ox : okT t) (hs : sizeT t ≤ 1048576) (hl : RT w A t m) (p : GP) (A2 : Nat → Prop) (mp : PA) (op : okP p) (hp : sizeP p ≤ 1048576) (hr : RP w A2 p mp) (s : ByteArray) (hss : s.size ≤ 1048576) (n k : Int) (hk : 0 ≤ k ∧ k ≤ 255) :
  Calls Tryz.prog 6 #[TV t m, PV p mp, .string s, .int .i64 n, .int .u8 k] w fun e w' => e = .returned (.bool true) ∧ Below w.heap.size w w' := by
 by_cases hn : n < 0 ∨ 50 < n
 ·exact lmore_far t p s n k w A A2 m mp ox hs hl op hp hr hn
 ·by_cases hE : cutE t p s n = 0
  ·obtain ⟨N, rfl⟩ : ∃ N : Nat, n = (N : Int) := ⟨n.toNat, by omega⟩
   obtain ⟨K, rfl⟩ : ∃ K : Nat, k = (K : Int) := ⟨k.toNat, by omega⟩
   exact lmore_ok t p s N K w A A2 m mp ox hs hl op hp hr hss (by omega) (by omega) hE _ _ rfl
  ·exact lmore_err t p s n k w A A2 m mp ox hs hl op hp hr hss hk (by omega) hE
end Go.Proofs.YtcbdfjeehimcfaaGreat
