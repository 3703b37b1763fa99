/- What the proof of the statement TrialRow needs: part 51 of 50. -/
import Derived.Deep.CutRange
import Derived.Test.YtcbdfjeehimcfaaGreatQ48
set_option linter.unusedVariables false
set_option linter.unusedSimpArgs false
namespace Go.Proofs.YtcbdfjeehimcfaaGreat
open Go Go.RowKit
set_option maxRecDepth 100000 in
set_option maxHeartbeats 32000000 in
theorem lrow_1 (t : GT) (p : GP) (s : ByteArray) (N : Nat) (w : World) (A A2 : Nat → Prop) (m : TA) (mp : PA) (ox : okT t) (hs1 : sizeT t ≤ 1048576) (hl : RT w A t m) (op : okP p) (hp1 : sizeP p ≤ 1048576) (hr : RP w A2 p mp) (hE : cutE t p s N = 0) (l : List GR) (en : Int) (hR : cutT s t p N 0 = (l, en)) (hen : (en == 1) = true) :
  Calls Tryz.prog 5 #[TV t m, PV p mp, .string s, .int .i64 N] w fun e w' => e = .returned (.bool true) ∧ Below w.heap.size w w' := by
 obtain ⟨ma, mb, mc, md, me, mf, mg, mh, mi, mj, mk, ml⟩ := m
 obtain ⟨na, nb, nc, nd⟩ := mp
 have HL := Lib.hid hl
 have HR := Lib.hid hr
 have OX := Lib.hid ox
 have OP := Lib.hid op
 have hs : sizeT t ≤ 1099511627776 := by omega
 have hp : sizeP p ≤ 1099511627776 := by omega
 obtain ⟨hRE, hPE, hN⟩ : runE t s = 0 ∧ (checkPE p).2 = 0 ∧ N ≤ 1000 := by
  unfold cutE at hE
  split at hE
  ·omega
  ·split at hE
   ·omega
   ·split at hE
    ·omega
    ·refine ⟨by omega, by omega, by omega⟩
 have hmay : mayP p = true := by unfold mayP; simp [hPE]
 have hbits : isBits s = true := by
  unfold runE at hRE
  split at hRE
  ·omega
  ·split at hRE
   ·assumption
   ·omega
 have h1024 : s.size ≤ 1024 := by
  unfold isBits at hbits
  rw [Bool.and_eq_true] at hbits
  exact of_decide_eq_true hbits.1
 have HMAY := Lib.hid hmay
 have HRE := Lib.hid hRE
 have HCUT : Hid (∀ W, RT W A t ⟨ma, mb, mc, md, me, mf, mg, mh, mi, mj, mk, ml⟩ → RP W A2 p ⟨na, nb, nc, nd⟩ → Calls Tryz.prog 13 #[TV t ⟨ma, mb, mc, md, me, mf, mg, mh, mi, mj, mk, ml⟩, PV p ⟨na, nb, nc, nd⟩, .string s, .int .i64 N] W fun e w' => Below W.heap.size W w' ∧ ∃ a c, e = .returned (.tuple #[.slice a l.length c, .int .u8 en, .int .i64 0]) ∧ RRs w' (fun b => W.heap.size ≤ b) l a) :=
  Lib.hid (fun W h1 h2 => (cut_ok t p s N W A A2 ⟨ma, mb, mc, md, me, mf, mg, mh, mi, mj, mk, ml⟩ ⟨na, nb, nc, nd⟩ ox hs h1 op hp h2 hE).mono fun e w' h => by rw [hR] at h; exact h)
 have HR0 := Lib.hid hR
 have hcl := cut_len s t p N 0 l en hR
 have HCL := Lib.hid hcl
 have hlen := hcl.1
 clear hl hr ox op hE hRE hPE hmay hbits hR hcl
 go_enter Tryz.func5, Tryz.ntmps5
 go_wp2_with (first
  | (go_at_call 10; (with_reducible refine (long29_any t p s _ _ A A2 ⟨ma, mb, mc, md, me, mf, mg, mh, mi, mj, mk, ml⟩ ⟨na, nb, nc, nd⟩ OX.out hs1 (by exact RT.ext (Agree.below Below.r) _ _ HL.out) OP.out (by exact RP.ext (Agree.below Below.r) _ _ HR.out)).mono ?_); rintro e w1 ⟨⟨b1, rfl⟩, hb1⟩; obtain ⟨hc1, hf1⟩ := bcells hb1; have hz1 := hb1.size; (try simp at hz1); have y1 : w.heap.size < w1.heap.size := (by omega); have y2 : w.heap.size + 1 < w1.heap.size := (by omega); cases b1)
  | (go_at_call 11; (with_reducible refine (awake_any _).mono ?_); rintro e wa ⟨rfl, hba⟩; obtain ⟨hca, hfa⟩ := bcells hba; have hza := hba.size; (try simp at hza); have y3 : w.heap.size < wa.heap.size := (by omega); have y4 : w.heap.size + 1 < wa.heap.size := (by omega))
  | (go_at_call 13; refine (HCUT.out _ (by exact RT.ext (Agree.below Below.r) _ _ HL.out) (by exact RP.ext (Agree.below Below.r) _ _ HR.out)).mono ?_; rintro e w3 ⟨hb3, a, c, rfl, hrr⟩; have HRR := Lib.hid (RRs.mono (A' := fun _ => True) (fun _ _ _ => trivial) _ _ hrr); clear hrr; obtain ⟨hc3, hf3⟩ := bcells hb3; have hz3 := hb3.size; (try simp at hz3)))
 rotate_right
 ·go_ret
  exact ⟨rfl, Below.r⟩
 have hbw3 : Below w.heap.size w w3 := Below.r
 have HBT : Hid (At w3 w.heap.size 0 [.int .u8 t.k, .int .u8 t.v.k, .int .i64 t.v.n, .slice ma t.v.l.length mb, .slice mc t.vs.length md, .int .i64 t.lo, .int .i64 t.hi, .slice me t.w.length mf, .int .u8 t.p.k, .int .u8 t.p.v.k, .int .i64 t.p.v.n, .slice mg t.p.v.l.length mh, .int .i64 t.p.n, .slice mi t.p.a.length mj, .slice mk t.a.length ml]) := Lib.hid (At15z.2 ⟨by go_simp, by go_simp, by go_simp, by go_simp, by go_simp, by go_simp, by go_simp, by go_simp, by go_simp, by go_simp, by go_simp, by go_simp, by go_simp, by go_simp, by go_simp⟩)
 have HBP : Hid (At w3 (w.heap.size + 1) 0 [.int .u8 p.k, .int .u8 p.v.k, .int .i64 p.v.n, .slice na p.v.l.length nb, .int .i64 p.n, .slice nc p.a.length nd]) := Lib.hid (At6z.2 ⟨by go_simp, by go_simp, by go_simp, by go_simp, by go_simp, by go_simp⟩)
 have hlow : w.heap.size + 1 < w3.heap.size := by omega
 clear hc1 hf1 hca hfa hc3 hf3 hb1 hba hb3
 go_loopg [12, 13] (l.length) (fun gk t12 t13 wr => ∃ (j i : Nat), gk + j = l.length ∧ t12 = .int .i64 i ∧ t13 = .int .i64 j ∧ i ≤ s.size ∧ Below w3.heap.size w3 wr ∧ Hid (cutT s t p (N - j) i = (l.drop j, en) ∨ (en = 1 ∧ j = l.length)))
 case atStart => exact ⟨0, 0, by omega, rfl, rfl, by omega, Below.refl _ _, Lib.hid (.inl (by simpa using HR0.out))⟩
 case round =>
  obtain ⟨j, i, hj, rfl, rfl, hi, hbr, HI⟩ := hrel
  have hzr := hbr.size
  have hbw : Below w.heap.size w wr := hbw3.trans (hbr.mono (by omega))
  have hre := runE_sub HRE.out i hi
  have hin := runT_in (s := subS s i) hre OX.out
  have hsz := subS_size s i hi
  have HRS := Lib.hid hre
  have hs9 : (subS s i).size ≤ 9223372036854775807 := by omega
  have hiI : (i : Int) ≤ (s.size : Int) := by omega
  have QT := Lib.hid (RT.ext (Agree.below hbw) _ _ HL.out)
  obtain ⟨c0, c1, c2, c3, c4, c5, c6, c7, c8, c9, ca, cb, cc, cd, ce⟩ := At15z.1 (At.ext (Agree.below hbr) (A := fun _ => True) trivial _ _ HBT.out)
  have u0 : w.heap.size < wr.heap.size := by omega
  have u1 : w.heap.size + 1 < wr.heap.size := by omega
  clear hre
  by_cases hlt : j < l.length
  ·have hd : l.drop j = l[j] :: l.drop (j + 1) := List.drop_eq_getElem_cons hlt
   have hcc : cutT s t p (N - j) i = (l[j] :: l.drop (j + 1), en) := by
    rcases HI.out with h | ⟨_, h⟩
    ·rw [hd] at h; exact h
    ·omega
   obtain ⟨hN0, x, u, hW, hlj, hc2⟩ := cut_cons hcc
   rw [hW] at hin
   obtain ⟨-, hu, okx⟩ := hin
   have hu2 : i + u ≤ s.size := by omega
   have OKX := Lib.hid okx
   have HW := Lib.hid hW
   obtain ⟨b, o, mj', rfl, -, hbs, g0, gx⟩ := HRR.out.get j hlt
   rw [hlj] at g0 gx
   have G0 : Hid (At w3 b (o + j * 5) [.int .i64 (i : Int), .int .i64 ((i : Int) + (u : Int)), .int .u8 x.k, .int .i64 x.n, .slice mj'.a x.l.length mj'.c]) := Lib.hid (by rw [← Int.natCast_add]; exact g0)
   have GX : Hid (RV w3 (fun _ => True) x mj'.a) := Lib.hid gx
   have wiu : IntKind.i64.wrap ((i : Int) + (u : Int)) = (i : Int) + (u : Int) := IntWalk.i64_in _ (by omega)
   have wl : IntKind.i64.wrap ((l.length : Int) - 1) = (l.length : Int) - 1 := IntWalk.i64_in _ (by omega)
   have hd1 : decide ((i : Int) + (u : Int) < (i : Int)) = false := by simp; omega
   have hd2 : decide ((s.size : Int) < (i : Int) + (u : Int)) = false := by simp; omega
   have HC2 := Lib.hid hc2
   clear hd hcc hlj okx hW g0 gx hsz hc2
   go_upto_region 10 with fail
   go_cut [14, 15] from 46 to 138 (fun v14 v15 wx => ∃ (BX : Nat) (mv : VA), v14 = .pointer (some ⟨BX, 0, none⟩) ∧ v15 = .int .i64 0 ∧ Below w3.heap.size w3 wx ∧ At wx BX 0 [.int .u8 1, .int .u8 x.k, .int .i64 x.n, .slice mv.a x.l.length mv.c, .int .i64 u] ∧ BX < wx.heap.size ∧ RV wx (fun _ => True) x mv.a)
   case first =>
    go_region_held3 (fun W => ∀ k, W.cell? ⟨w.heap.size, k, none⟩ = wr.cell? ⟨w.heap.size, k, none⟩) ((intro k; refine Below.cell (B := wr.heap.size) (w := wr) (p := ⟨w.heap.size, k, none⟩) ?_ u0; ((repeat (first | with_reducible exact Below.refl _ _ | with_reducible assumption | with_reducible refine Below.trans ?_ (Below.mono (by with_reducible assumption) (by first | omega | (simp; done) | (simp; omega))) | with_reducible refine Below.drew ?_ | with_reducible refine Below.alloc ?_ (by first | omega | (simp; done) | (simp; omega)) _ | with_reducible refine Below.setCell ?_ (by first | omega | (simp; done) | (simp; omega)) _)); done))) ((go_at_call 19; refine (run_ok t (subS s i) _ A ⟨ma, mb, mc, md, me, mf, mg, mh, mi, mj, mk, ml⟩ OX.out hs (by exact RT.ext (A := A) (Agree.below Below.r) _ _ QT.out) hs9 HRS.out x u HW.out).mono ?_; rintro e w2 ⟨hb2, mv, rfl, hrv⟩; have HRV := Lib.hid hrv; clear hrv; have hz2 := hb2.size; (try simp at hz2); have hbr2 : Below wr.heap.size wr w2 := Below.r; have v0 : w.heap.size < w2.heap.size := (by omega); have v1 : w.heap.size + 1 < w2.heap.size := (by omega); have v2 : wr.heap.size ≤ w2.heap.size := (by omega); (try (have y5' : wr.heap.size < w2.heap.size := (by omega); have q0 : w2.cell? ⟨wr.heap.size, 0, none⟩ = some (.int .u8 0) := (hb2.cell (by simp)).trans (by go_simp); have q1 : w2.cell? ⟨wr.heap.size, 1, none⟩ = some (.int .u8 0) := (hb2.cell (by simp)).trans (by go_simp); have q2 : w2.cell? ⟨wr.heap.size, 2, none⟩ = some (.int .i64 0) := (hb2.cell (by simp)).trans (by go_simp); have q3 : w2.cell? ⟨wr.heap.size, 3, none⟩ = some (.slice none 0 0) := (hb2.cell (by simp)).trans (by go_simp); have q4 : w2.cell? ⟨wr.heap.size, 4, none⟩ = some (.int .i64 0) := (hb2.cell (by simp)).trans (by go_simp); have qf : ∀ k, w2.frozen? ⟨wr.heap.size, k, none⟩ = false := fun k => (hb2.frozen (by simp)).trans (by go_simp)))))
    all_goals go_wp2_with fail
    all_goals go_meet
    ·exact ⟨w2.heap.size, mv, rfl, rfl, Below.r, At5z.2 ⟨by go_simp, by go_simp, by go_simp, by go_simp, by go_simp⟩, by first | omega | (simp; done) | (simp; omega), RV.mono (fun _ _ _ => trivial) _ _ (RV.ext (Agree.below Below.r) _ _ HRV.out)⟩
    ·exact ⟨wr.heap.size, mv, rfl, rfl, Below.r, At5z.2 ⟨by go_simp, by go_simp, by go_simp, by go_simp, by go_simp⟩, by first | omega | (simp; done) | (simp; omega), RV.mono (fun _ _ _ => trivial) _ _ (RV.ext (fun p v hA hc => Agree.but (c := wr.heap.size) But.r p v (fun e => by simp at hA; omega) hc) _ _ HRV.out)⟩
   case rest =>
    obtain ⟨BX, mv, rfl, rfl, hb6, hbx, hx6, hrv6⟩ := hcut
    have HRV6 := Lib.hid hrv6
    clear hrv6
    have hz6 := hb6.size
    obtain ⟨z0, z1, z2, z3, z4⟩ := At5z.1 hbx
    obtain ⟨y0, y1, y2, y3, y4⟩ := At5.1 (G0.out.ext (Agree.below hb6) (A := fun _ => True) trivial)
    obtain ⟨p0, p1, p2, p3, p4, p5⟩ := At6z.1 (At.ext (Agree.below hb6) (A := fun _ => True) trivial _ _ HBP.out)
    have s6 : b < wc.heap.size := by omega
    have s7 : w.heap.size + 1 < wc.heap.size := by omega
    obtain ⟨hv, HH, hjl, HI2⟩ : ∃ hv : Bool, Hid ((mayP p && holdsP p x) = hv) ∧ ((j : Int) == (l.length : Int) - 1) = (!hv) ∧ Hid (cutT s t p (N - (j + 1)) (i + u) = (l.drop (j + 1), en) ∨ (en = 1 ∧ j + 1 = l.length)) := by
     rcases HC2.out with ⟨hh, hnx⟩ | ⟨hh, hnil, hen1⟩
     ·rw [show N - j - 1 = N - (j + 1) by omega] at hnx
      refine ⟨true, Lib.hid (by rw [hh, HMAY.out]; rfl), beq_eq_false_iff_ne.2 (fun e => ?_), Lib.hid (.inl hnx)⟩
      have h0 : l.drop (j + 1) = [] := List.drop_eq_nil_of_le (by omega)
      rw [h0] at hnx
      exact cut_nil_ne hnx (by simpa using hen)
     ·have hj1 : j + 1 = l.length := by
       have := congrArg List.length hnil
       simp at this
       omega
      exact ⟨false, Lib.hid (by rw [hh]; simp), beq_iff_eq.2 (by omega), Lib.hid (.inr ⟨hen1, hj1⟩)⟩
    as_aux_lemma =>
     go_wp2_with fail
     dsimp only [List.append]
     go_region_held3 (fun W => ∀ c k, c < wc.heap.size → W.cell? ⟨c, k, none⟩ = wc.cell? ⟨c, k, none⟩) ((intro c k hc; refine Below.cell (B := wc.heap.size) (w := wc) (p := ⟨c, k, none⟩) ?_ hc; ((repeat (first | with_reducible exact Below.refl _ _ | with_reducible assumption | with_reducible refine Below.trans ?_ (Below.mono (by with_reducible assumption) (by first | omega | (simp; done) | (simp; omega))) | with_reducible refine Below.drew ?_ | with_reducible refine Below.alloc ?_ (by first | omega | (simp; done) | (simp; omega)) _ | with_reducible refine Below.setCell ?_ (by first | omega | (simp; done) | (simp; omega)) _)); done))) ((first | (go_at_call 20; refine (same_self x _ (fun _ => True) (fun _ => True) mj' mv OKX.out (by exact RV.ext (Agree.below Below.r) _ _ GX.out) (by exact RV.ext (Agree.below Below.r) _ _ HRV6.out)).mono ?_; rintro e w7 ⟨rfl, hb7⟩; obtain ⟨hc7, hf7⟩ := bcells hb7; have hz7 := hb7.size; (try simp at hz7); have t6 : b < w7.heap.size := (by omega); have t7 : w.heap.size + 1 < w7.heap.size := (by omega); have t8 : BX < w7.heap.size := (by omega)) | (go_at_call 21; refine (Holds_at p x hv HH.out A2 (fun _ => True) ⟨na, nb, nc, nd⟩ mv _ OP.out hp (by exact RP.ext (Agree.below Below.r) _ _ HR.out) OKX.out (by exact RV.ext (Agree.below Below.r) _ _ HRV6.out)).mono ?_; rintro e w8 ⟨rfl, hb8⟩; obtain ⟨hc8, hf8⟩ := bcells hb8; have hz8 := hb8.size; (try simp at hz8); have yb8 : ∀ k, w8.cell? ⟨b, k, none⟩ = wc.cell? ⟨b, k, none⟩ := (fun k => Below.cell (B := wc.heap.size) (w := wc) (p := ⟨b, k, none⟩) Below.r s6); clear hc8 hf8)))
     go_wp2_with fail
     go_roundg (gk - 1)
     case measure => omega
     case rel => exact ⟨j + 1, i + u, by omega, by go_num, by go_num, hu2, Below.r, HI2⟩
  ·have hjl : j = l.length := by omega
   have hk := HI.out
   rw [hjl, List.drop_length] at hk
   have hfin : en = 1 ∨ en = 2 ∨ (en = 3 ∧ runT (subS s i) t = .no 2) ∨ (en = 4 ∧ runT (subS s i) t = .no 3) := by
    rcases hk with h | ⟨h, _⟩
    ·rcases cut_nil h with ⟨_, h2⟩ | ⟨_, k, h3, h4⟩
     ·exact .inr (.inl h2)
     ·rw [h3] at hin
      have hk23 : k = 2 ∨ k = 3 := hin
      rcases hk23 with rfl | rfl
      ·exact .inr (.inr (.inl ⟨by simpa using h4, h3⟩))
      ·exact .inr (.inr (.inr ⟨by simpa using h4, h3⟩))
    ·exact .inl h
   clear hk hin hsz
   obtain ⟨f1, f2, f3, f4, -⟩ := HCL.out
   rcases hfin with rfl | rfl | ⟨rfl, hW⟩ | ⟨rfl, hW⟩
   ·have n1 : 0 < l.length := f2 rfl
    have g1 : decide ((0 : Int) < (l.length : Int)) = true := by have := f2 rfl; simp; omega
    have g2 : decide ((l.length : Int) ≤ (N : Int)) = true := by simp; omega
    clear f1 f2 f3 f4 HCL
    as_aux_lemma =>
     go_wp2_with fail
     go_region_held3 (fun W => ∀ k, W.cell? ⟨w.heap.size, k, none⟩ = wr.cell? ⟨w.heap.size, k, none⟩) ((intro k; refine Below.cell (B := wr.heap.size) (w := wr) (p := ⟨w.heap.size, k, none⟩) ?_ u0; ((repeat (first | with_reducible exact Below.refl _ _ | with_reducible assumption | with_reducible refine Below.trans ?_ (Below.mono (by with_reducible assumption) (by first | omega | (simp; done) | (simp; omega))) | with_reducible refine Below.drew ?_ | with_reducible refine Below.alloc ?_ (by first | omega | (simp; done) | (simp; omega)) _ | with_reducible refine Below.setCell ?_ (by first | omega | (simp; done) | (simp; omega)) _)); done))) ((go_at_call 19; refine (run_err t (subS s i) _ A ⟨ma, mb, mc, md, me, mf, mg, mh, mi, mj, mk, ml⟩ OX.out hs (by exact RT.ext (A := A) (Agree.below Below.r) _ _ QT.out) hs9).mono ?_; rintro e w2 ⟨hb2, k1, v1, m1, n1, rfl⟩; have hz2 := hb2.size; (try simp at hz2); have hbr2 : Below wr.heap.size wr w2 := Below.r; have v0 : w.heap.size < w2.heap.size := (by omega); have v1 : w.heap.size + 1 < w2.heap.size := (by omega); have v2 : wr.heap.size ≤ w2.heap.size := (by omega); (try (have y5' : wr.heap.size < w2.heap.size := (by omega); have q0 : w2.cell? ⟨wr.heap.size, 0, none⟩ = some (.int .u8 0) := (hb2.cell (by simp)).trans (by go_simp); have q1 : w2.cell? ⟨wr.heap.size, 1, none⟩ = some (.int .u8 0) := (hb2.cell (by simp)).trans (by go_simp); have q2 : w2.cell? ⟨wr.heap.size, 2, none⟩ = some (.int .i64 0) := (hb2.cell (by simp)).trans (by go_simp); have q3 : w2.cell? ⟨wr.heap.size, 3, none⟩ = some (.slice none 0 0) := (hb2.cell (by simp)).trans (by go_simp); have q4 : w2.cell? ⟨wr.heap.size, 4, none⟩ = some (.int .i64 0) := (hb2.cell (by simp)).trans (by go_simp); have qf : ∀ k, w2.frozen? ⟨wr.heap.size, k, none⟩ = false := fun k => (hb2.frozen (by simp)).trans (by go_simp)))))
     all_goals go_wp2_with fail
     all_goals go_ret
     all_goals refine ⟨ret_bool ?_, Below.r⟩
     all_goals first | rfl | (exfalso; omega) | (simp; done) | (simp; omega)
   ·simp at hen
   ·simp at hen
   ·simp at hen
end Go.Proofs.YtcbdfjeehimcfaaGreat
