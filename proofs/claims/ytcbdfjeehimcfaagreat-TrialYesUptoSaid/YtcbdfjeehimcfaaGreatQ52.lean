/- What the proofs of the Trial statements need: part 53. -/
import Derived.IntWalk
import Derived.Test.YtcbdfjeehimcfaaGreatQ20
import Derived.Test.YtcbdfjeehimcfaaGreatQ43
import Derived.Test.YtcbdfjeehimcfaaGreatQ47
import Derived.Test.YtcbdfjeehimcfaaGreatQ50
import Derived.Test.YtcbdfjeehimcfaaGreatQ51
set_option linter.unusedVariables false
set_option linter.unusedSimpArgs false
namespace Go.Proofs.YtcbdfjeehimcfaaGreat
open Go Go.RowKit
theorem okYes : okP ⟨1, ⟨0, 0, []⟩, 0, []⟩ := okP_iff.2 ⟨by unfold isU8; simp, okV_iff.2 ⟨by unfold isU8; simp, by unfold isI64; simp, by simp, by simp [okVs]⟩, by unfold isI64; simp, by simp, by simp [okPs]⟩
theorem okNo : okP ⟨2, ⟨0, 0, []⟩, 0, []⟩ := okP_iff.2 ⟨by unfold isU8; simp, okV_iff.2 ⟨by unfold isU8; simp, by unfold isI64; simp, by simp, by simp [okVs]⟩, by unfold isI64; simp, by simp, by simp [okPs]⟩
theorem okNot {p : GP} (h : okP p) : okP ⟨5, ⟨0, 0, []⟩, 0, [p]⟩ := okP_iff.2 ⟨by unfold isU8; simp, okV_iff.2 ⟨by unfold isU8; simp, by unfold isI64; simp, by simp, by simp [okVs]⟩, by unfold isI64; simp, by simp, by simp only [okPs]; exact ⟨h, trivial⟩⟩
theorem chkYes : (checkPE ⟨1, ⟨0, 0, []⟩, 0, []⟩).2 = 0 := by kernel_rfl
theorem chkNo : (checkPE ⟨2, ⟨0, 0, []⟩, 0, []⟩).2 = 0 := by kernel_rfl
theorem RPleaf (w : World) (A : Nat → Prop) (k : Int) (m : PA) : RP w A ⟨k, ⟨0, 0, []⟩, 0, []⟩ m := by simp [RP, RV, RVs, RPs]
set_option maxRecDepth 100000 in
set_option maxHeartbeats 8000000 in
theorem lyes_err (t : GT) (p : GP) (s : ByteArray) (n : Int) (w : World) (A A2 : Nat → Prop) (m : TA) (mp : PA) (ox : okT t) (hs1 : sizeT t ≤ 1048576) (hl : RT w A t m) (op : okP p) (hp1 : sizeP p ≤ 1048576) (hr : RP w A2 p mp) (hss : s.size ≤ 1048576) (hE : cutE t ⟨1, ⟨0, 0, []⟩, 0, []⟩ s n ≠ 0) :
  Calls Tryz.prog 9 #[TV t m, PV p mp, .string s, .int .i64 n] w fun e w' => e = .returned (.bool true) ∧ Below w.heap.size w w' := by
 obtain ⟨ma, mb, mc, md, me, mf, mg, mh, mi, mj, mk, ml⟩ := m
 obtain ⟨na, nb, nc, nd⟩ := mp
 have HL := Lib.hid hl
 have HR := Lib.hid hr
 have OX := Lib.hid ox
 have OP := Lib.hid op
 have hs : sizeT t ≤ 1099511627776 := by omega
 have hp : sizeP p ≤ 1099511627776 := by omega
 have hs9 : s.size ≤ 9223372036854775807 := by omega
 have hE2 : cutE t ⟨2, ⟨0, 0, []⟩, 0, []⟩ s n = cutE t ⟨1, ⟨0, 0, []⟩, 0, []⟩ s n := cutE_same chkNo chkYes
 have HM : Hid ((cutE t ⟨1, ⟨0, 0, []⟩, 0, []⟩ s n == 11) = true → mayT t = false) := Lib.hid (fun h => cutE_may chkYes (by simpa using h))
 obtain ⟨E, hE0⟩ : ∃ E, E = cutE t ⟨1, ⟨0, 0, []⟩, 0, []⟩ s n := ⟨_, rfl⟩
 rw [← hE0] at hE HM
 have h1 : (E != 0) = true := by simp [hE]
 have HC1 : Hid (∀ W, RT W A t ⟨ma, mb, mc, md, me, mf, mg, mh, mi, mj, mk, ml⟩ → Calls Tryz.prog 13 #[TV t ⟨ma, mb, mc, md, me, mf, mg, mh, mi, mj, mk, ml⟩, PV ⟨1, ⟨0, 0, []⟩, 0, []⟩ ⟨none, 0, none, 0⟩, .string s, .int .i64 n] W fun e w' => e = .returned (.tuple #[.slice none 0 0, .int .u8 0, .int .i64 E]) ∧ Below W.heap.size W w') :=
  Lib.hid (fun W h => by rw [hE0]; exact cut_err t ⟨1, ⟨0, 0, []⟩, 0, []⟩ s n W A (fun _ => True) ⟨ma, mb, mc, md, me, mf, mg, mh, mi, mj, mk, ml⟩ ⟨none, 0, none, 0⟩ ox hs h okYes (by simp [sizeP, sizeV, sizeVs, sizePs]) (RPleaf _ _ _ _) hs9 (by rw [← hE0]; exact hE))
 have HC2 : Hid (∀ W, RT W A t ⟨ma, mb, mc, md, me, mf, mg, mh, mi, mj, mk, ml⟩ → Calls Tryz.prog 13 #[TV t ⟨ma, mb, mc, md, me, mf, mg, mh, mi, mj, mk, ml⟩, PV ⟨2, ⟨0, 0, []⟩, 0, []⟩ ⟨none, 0, none, 0⟩, .string s, .int .i64 n] W fun e w' => e = .returned (.tuple #[.slice none 0 0, .int .u8 0, .int .i64 E]) ∧ Below W.heap.size W w') :=
  Lib.hid (fun W h => by rw [hE0, ← hE2]; exact cut_err t ⟨2, ⟨0, 0, []⟩, 0, []⟩ s n W A (fun _ => True) ⟨ma, mb, mc, md, me, mf, mg, mh, mi, mj, mk, ml⟩ ⟨none, 0, none, 0⟩ ox hs h okNo (by simp [sizeP, sizeV, sizeVs, sizePs]) (RPleaf _ _ _ _) hs9 (by rw [hE2, ← hE0]; exact hE))
 clear hl hr ox op hE hE2 hE0
 go_enter Tryz.func9, Tryz.ntmps9
 go_wp2_with (first
  | (go_at_call 10; (with_reducible refine (long29_any t p s _ _ A A2 ⟨ma, mb, mc, md, me, mf, mg, mh, mi, mj, mk, ml⟩ ⟨na, nb, nc, nd⟩ OX.out hs1 (by exact RT.ext (Agree.below Below.r) _ _ HL.out) OP.out (by exact RP.ext (Agree.below Below.r) _ _ HR.out)).mono ?_); rintro e w1 ⟨⟨b1, rfl⟩, hb1⟩; obtain ⟨hc1, hf1⟩ := bcells hb1; have hz1 := hb1.size; (try simp at hz1); have y1 : w.heap.size < w1.heap.size := (by omega); have y2 : w.heap.size + 1 < w1.heap.size := (by omega); cases b1)
  | (go_at_call 11; (with_reducible refine (awake_any _).mono ?_); rintro e wa ⟨rfl, hba⟩; obtain ⟨hca, hfa⟩ := bcells hba; have hza := hba.size; (try simp at hza); have y3 : w.heap.size < wa.heap.size := (by omega); have y4 : w.heap.size + 1 < wa.heap.size := (by omega)))
 rotate_right
 ·go_ret
  exact ⟨rfl, Below.r⟩
 have hbwa : Below w.heap.size w wa := Below.r
 have HBT : Hid (At wa w.heap.size 0 [.int .u8 t.k, .int .u8 t.v.k, .int .i64 t.v.n, .slice ma t.v.l.length mb, .slice mc t.vs.length md, .int .i64 t.lo, .int .i64 t.hi, .slice me t.w.length mf, .int .u8 t.p.k, .int .u8 t.p.v.k, .int .i64 t.p.v.n, .slice mg t.p.v.l.length mh, .int .i64 t.p.n, .slice mi t.p.a.length mj, .slice mk t.a.length ml]) := Lib.hid (At15z.2 ⟨by go_simp, by go_simp, by go_simp, by go_simp, by go_simp, by go_simp, by go_simp, by go_simp, by go_simp, by go_simp, by go_simp, by go_simp, by go_simp, by go_simp, by go_simp⟩)
 have HBP : Hid (At wa (w.heap.size + 1) 0 [.int .u8 p.k, .int .u8 p.v.k, .int .i64 p.v.n, .slice na p.v.l.length nb, .int .i64 p.n, .slice nc p.a.length nd]) := Lib.hid (At6z.2 ⟨by go_simp, by go_simp, by go_simp, by go_simp, by go_simp, by go_simp⟩)
 clear hc1 hf1 hca hfa hb1 hba
 obtain ⟨c0, c1, c2, c3, c4, c5, c6, c7, c8, c9, ca, cb, cc, cd, ce⟩ := At15z.1 HBT.out
 go_region_held3 (fun W => ∀ c k, c < wa.heap.size → W.cell? ⟨c, k, none⟩ = wa.cell? ⟨c, k, none⟩) ((intro c k hc; refine Below.cell (B := wa.heap.size) (w := wa) (p := ⟨c, k, none⟩) ?_ hc; (exact Below.r))) ((first | (go_at_call 23; (with_reducible refine (pYes_any _).mono ?_); rintro e w2 ⟨rfl, hb2⟩; have hz2 := hb2.size; (try simp at hz2); have u2a : w.heap.size < w2.heap.size := (by omega); have u2b : w.heap.size + 1 < w2.heap.size := (by omega)) | (go_at_call 13; refine (HC1.out _ (by exact RT.ext (Agree.below Below.r) _ _ HL.out)).mono ?_; rintro e w3 ⟨rfl, hb3⟩; have hz3 := hb3.size; (try simp at hz3); have u3a : w.heap.size < w3.heap.size := (by omega); have u3b : w.heap.size + 1 < w3.heap.size := (by omega))))
 go_wp2_with fail
 have hat : Below wa.heap.size wa w3 := Below.r
 obtain ⟨c0, c1, c2, c3, c4, c5, c6, c7, c8, c9, ca, cb, cc, cd, ce⟩ := At15z.1 (At.ext (Agree.below hat) (A := fun _ => True) trivial _ _ HBT.out)
 obtain ⟨p0, p1, p2, p3, p4, p5⟩ := At6z.1 (At.ext (Agree.below hat) (A := fun _ => True) trivial _ _ HBP.out)
 clear hat
 go_region_held3 (fun W => ∀ c k, c < w3.heap.size → W.cell? ⟨c, k, none⟩ = w3.cell? ⟨c, k, none⟩) ((intro c k hc; refine Below.cell (B := w3.heap.size) (w := w3) (p := ⟨c, k, none⟩) ?_ hc; (exact Below.r))) ((first | (go_at_call 24; (with_reducible refine (pNo_any _).mono ?_); rintro e w4 ⟨rfl, hb4⟩; have hz4 := hb4.size; (try simp at hz4); have u4a : w.heap.size < w4.heap.size := (by omega); have u4b : w.heap.size + 1 < w4.heap.size := (by omega)) | (go_at_call 13; refine (HC2.out _ (by exact RT.ext (Agree.below Below.r) _ _ HL.out)).mono ?_; rintro e w5 ⟨rfl, hb5⟩; have hz5 := hb5.size; (try simp at hz5); have u5a : w.heap.size < w5.heap.size := (by omega); have u5b : w.heap.size + 1 < w5.heap.size := (by omega))))
 cases h11 : (E == 11)
 ·have h12 : (E != 11) = true := by simpa using h11
  go_wp2_with fail
  go_ret
  exact ⟨rfl, Below.r⟩
 ·have h12 : (E != 11) = false := by simpa using h11
  have hm := HM.out h11
  have HMT := Lib.hid hm
  clear hm
  go_wp2_with (go_at_call 25; refine (mayT_any t _ A ⟨ma, mb, mc, md, me, mf, mg, mh, mi, mj, mk, ml⟩ OX.out hs (by exact RT.ext (Agree.below Below.r) _ _ HL.out)).mono ?_; rw [HMT.out]; rintro e w6 ⟨rfl, hb6⟩)
  go_ret
  exact ⟨rfl, Below.r⟩
end Go.Proofs.YtcbdfjeehimcfaaGreat
namespace Go.Proofs.YtcbdfjeehimcfaaGreat
open Go Go.RowKit
set_option maxRecDepth 100000 in
set_option maxHeartbeats 16000000 in
theorem lyes_none (t : GT) (p : GP) (s : ByteArray) (N : Nat) (w : World) (A A2 : Nat → Prop) (m : TA) (mp : PA) (ox : okT t) (hs1 : sizeT t ≤ 1048576) (hl : RT w A t m) (op : okP p) (hp1 : sizeP p ≤ 1048576) (hr : RP w A2 p mp) (hss : s.size ≤ 1048576) (hE : cutE t ⟨1, ⟨0, 0, []⟩, 0, []⟩ s N = 0) (en : Int) (hen : en ≠ 1) (hY : cutT s t ⟨1, ⟨0, 0, []⟩, 0, []⟩ N 0 = ([], en)) (hN : cutT s t ⟨2, ⟨0, 0, []⟩, 0, []⟩ N 0 = ([], en)) (mq : Bool) (hmq : mayP ⟨5, ⟨0, 0, []⟩, 0, [p]⟩ = mq) :
  Calls Tryz.prog 9 #[TV t m, PV p mp, .string s, .int .i64 N] w fun e w' => e = .returned (.bool true) ∧ Below w.heap.size w w' := by
 obtain ⟨ma, mb, mc, md, me, mf, mg, mh, mi, mj, mk, ml⟩ := m
 obtain ⟨na, nb, nc, nd⟩ := mp
 have HL := Lib.hid hl
 have HR := Lib.hid hr
 have OX := Lib.hid ox
 have OP := Lib.hid op
 have hs : sizeT t ≤ 1099511627776 := by omega
 have hp : sizeP p ≤ 1099511627776 := by omega
 have hE1 : cutE t ⟨1, ⟨0, 0, []⟩, 0, []⟩ s N = 0 := hE
 have hE2 : cutE t ⟨2, ⟨0, 0, []⟩, 0, []⟩ s N = 0 := (cutE_same chkNo chkYes).trans hE
 have OQ := Lib.hid (okNot op)
 have hq : sizeP ⟨5, ⟨0, 0, []⟩, 0, [p]⟩ ≤ 1099511627776 := by simp [sizeP, sizeV, sizeVs, sizePs]; omega
 have HC1 : Hid (∀ W, RT W A t ⟨ma, mb, mc, md, me, mf, mg, mh, mi, mj, mk, ml⟩ → Calls Tryz.prog 13 #[TV t ⟨ma, mb, mc, md, me, mf, mg, mh, mi, mj, mk, ml⟩, PV ⟨1, ⟨0, 0, []⟩, 0, []⟩ ⟨none, 0, none, 0⟩, .string s, .int .i64 N] W fun e w' => Below W.heap.size W w' ∧ ∃ a c, e = .returned (.tuple #[.slice a 0 c, .int .u8 en, .int .i64 0])) :=
  Lib.hid (fun W h => (cut_ok t ⟨1, ⟨0, 0, []⟩, 0, []⟩ s N W A (fun _ => True) ⟨ma, mb, mc, md, me, mf, mg, mh, mi, mj, mk, ml⟩ ⟨none, 0, none, 0⟩ ox hs h okYes (by simp [sizeP, sizeV, sizeVs, sizePs]) (RPleaf _ _ _ _) hE1).mono fun e w' h => by rw [hY] at h; obtain ⟨h1, a, c, h2, _⟩ := h; exact ⟨h1, a, c, h2⟩)
 have HC2 : Hid (∀ W, RT W A t ⟨ma, mb, mc, md, me, mf, mg, mh, mi, mj, mk, ml⟩ → Calls Tryz.prog 13 #[TV t ⟨ma, mb, mc, md, me, mf, mg, mh, mi, mj, mk, ml⟩, PV ⟨2, ⟨0, 0, []⟩, 0, []⟩ ⟨none, 0, none, 0⟩, .string s, .int .i64 N] W fun e w' => Below W.heap.size W w' ∧ ∃ a c, e = .returned (.tuple #[.slice a 0 c, .int .u8 en, .int .i64 0])) :=
  Lib.hid (fun W h => (cut_ok t ⟨2, ⟨0, 0, []⟩, 0, []⟩ s N W A (fun _ => True) ⟨ma, mb, mc, md, me, mf, mg, mh, mi, mj, mk, ml⟩ ⟨none, 0, none, 0⟩ ox hs h okNo (by simp [sizeP, sizeV, sizeVs, sizePs]) (RPleaf _ _ _ _) hE2).mono fun e w' h => by rw [hN] at h; obtain ⟨h1, a, c, h2, _⟩ := h; exact ⟨h1, a, c, h2⟩)
 have HMQ := Lib.hid hmq
 have g1 : (en == 1) = false := by simp [hen]
 have g2 : (en != 1) = true := by simp [hen]
 have g3 : (en != en) = false := by simp
 have g4 : min (1 : Int) 0 = 0 := rfl
 clear hl hr ox op hE hE1 hE2 hY hN hmq hen
 go_enter Tryz.func9, Tryz.ntmps9
 go_wp2_with (first
  | (go_at_call 10; (with_reducible refine (long29_any t p s _ _ A A2 ⟨ma, mb, mc, md, me, mf, mg, mh, mi, mj, mk, ml⟩ ⟨na, nb, nc, nd⟩ OX.out hs1 (by exact RT.ext (Agree.below Below.r) _ _ HL.out) OP.out (by exact RP.ext (Agree.below Below.r) _ _ HR.out)).mono ?_); rintro e w1 ⟨⟨b1, rfl⟩, hb1⟩; obtain ⟨hc1, hf1⟩ := bcells hb1; have hz1 := hb1.size; (try simp at hz1); have y1 : w.heap.size < w1.heap.size := (by omega); have y2 : w.heap.size + 1 < w1.heap.size := (by omega); cases b1)
  | (go_at_call 11; (with_reducible refine (awake_any _).mono ?_); rintro e wa ⟨rfl, hba⟩; obtain ⟨hca, hfa⟩ := bcells hba; have hza := hba.size; (try simp at hza); have y3 : w.heap.size < wa.heap.size := (by omega); have y4 : w.heap.size + 1 < wa.heap.size := (by omega)))
 rotate_right
 ·go_ret
  exact ⟨rfl, Below.r⟩
 have hbwa : Below w.heap.size w wa := Below.r
 have HBT : Hid (At wa w.heap.size 0 [.int .u8 t.k, .int .u8 t.v.k, .int .i64 t.v.n, .slice ma t.v.l.length mb, .slice mc t.vs.length md, .int .i64 t.lo, .int .i64 t.hi, .slice me t.w.length mf, .int .u8 t.p.k, .int .u8 t.p.v.k, .int .i64 t.p.v.n, .slice mg t.p.v.l.length mh, .int .i64 t.p.n, .slice mi t.p.a.length mj, .slice mk t.a.length ml]) := Lib.hid (At15z.2 ⟨by go_simp, by go_simp, by go_simp, by go_simp, by go_simp, by go_simp, by go_simp, by go_simp, by go_simp, by go_simp, by go_simp, by go_simp, by go_simp, by go_simp, by go_simp⟩)
 have HBP : Hid (At wa (w.heap.size + 1) 0 [.int .u8 p.k, .int .u8 p.v.k, .int .i64 p.v.n, .slice na p.v.l.length nb, .int .i64 p.n, .slice nc p.a.length nd]) := Lib.hid (At6z.2 ⟨by go_simp, by go_simp, by go_simp, by go_simp, by go_simp, by go_simp⟩)
 clear hc1 hf1 hca hfa hb1 hba
 obtain ⟨c0, c1, c2, c3, c4, c5, c6, c7, c8, c9, ca, cb, cc, cd, ce⟩ := At15z.1 HBT.out
 go_region_held3 (fun W => ∀ c k, c < wa.heap.size → W.cell? ⟨c, k, none⟩ = wa.cell? ⟨c, k, none⟩) ((intro c k hc; refine Below.cell (B := wa.heap.size) (w := wa) (p := ⟨c, k, none⟩) ?_ hc; (exact Below.r))) ((first | (go_at_call 23; (with_reducible refine (pYes_any _).mono ?_); rintro e w2 ⟨rfl, hb2⟩; have hz2 := hb2.size; (try simp at hz2); have u2a : w.heap.size < w2.heap.size := (by omega); have u2b : w.heap.size + 1 < w2.heap.size := (by omega)) | (go_at_call 13; refine (HC1.out _ (by exact RT.ext (Agree.below Below.r) _ _ HL.out)).mono ?_; rintro e w3 ⟨hb3, a3, k3, rfl⟩; have hz3 := hb3.size; (try simp at hz3); have u3a : w.heap.size < w3.heap.size := (by omega); have u3b : w.heap.size + 1 < w3.heap.size := (by omega))))
 go_wp2_with fail
 have hat : Below wa.heap.size wa w3 := Below.r
 obtain ⟨c0, c1, c2, c3, c4, c5, c6, c7, c8, c9, ca, cb, cc, cd, ce⟩ := At15z.1 (At.ext (Agree.below hat) (A := fun _ => True) trivial _ _ HBT.out)
 obtain ⟨p0, p1, p2, p3, p4, p5⟩ := At6z.1 (At.ext (Agree.below hat) (A := fun _ => True) trivial _ _ HBP.out)
 clear hat
 go_region_held3 (fun W => ∀ c k, c < w3.heap.size → W.cell? ⟨c, k, none⟩ = w3.cell? ⟨c, k, none⟩) ((intro c k hc; refine Below.cell (B := w3.heap.size) (w := w3) (p := ⟨c, k, none⟩) ?_ hc; (exact Below.r))) ((first | (go_at_call 24; (with_reducible refine (pNo_any _).mono ?_); rintro e w4 ⟨rfl, hb4⟩; have hz4 := hb4.size; (try simp at hz4); have u4a : w.heap.size < w4.heap.size := (by omega); have u4b : w.heap.size + 1 < w4.heap.size := (by omega)) | (go_at_call 13; refine (HC2.out _ (by exact RT.ext (Agree.below Below.r) _ _ HL.out)).mono ?_; rintro e w5 ⟨hb5, a5, k5, rfl⟩; have hz5 := hb5.size; (try simp at hz5); have u5a : w.heap.size < w5.heap.size := (by omega); have u5b : w.heap.size + 1 < w5.heap.size := (by omega))))
 have hat : Below wa.heap.size wa w5 := Below.r
 obtain ⟨c0, c1, c2, c3, c4, c5, c6, c7, c8, c9, ca, cb, cc, cd, ce⟩ := At15z.1 (At.ext (Agree.below hat) (A := fun _ => True) trivial _ _ HBT.out)
 obtain ⟨p0, p1, p2, p3, p4, p5⟩ := At6z.1 (At.ext (Agree.below hat) (A := fun _ => True) trivial _ _ HBP.out)
 clear hat
 cases mq
 all_goals
  go_wp2_with (first | (go_at_call 26; refine (pNot_any p ⟨na, nb, nc, nd⟩ _ A2 OP.out (by exact RP.ext (Agree.below Below.r) _ _ HR.out)).mono ?_; rintro e w6 ⟨hb6, ⟨qa, qb, qc, qd⟩, rfl, hr6⟩; have HQ6 := Lib.hid (RP.mono (A' := fun _ => True) (fun _ _ _ => trivial) _ _ hr6); clear hr6; obtain ⟨hc6, hf6⟩ := bcells hb6; have hz6 := hb6.size; (try simp at hz6); have u6a : w.heap.size < w6.heap.size := (by omega); have u6b : w.heap.size + 1 < w6.heap.size := (by omega)) | (go_at_call 27; refine (mayP_any ⟨5, ⟨0, 0, []⟩, 0, [p]⟩ _ (fun _ => True) ⟨qa, qb, qc, qd⟩ OQ.out hq (by exact RP.ext (Agree.below Below.r) _ _ HQ6.out)).mono ?_; rw [HMQ.out]; rintro e w7 ⟨rfl, hb7⟩; obtain ⟨hc7, hf7⟩ := bcells hb7; have hz7 := hb7.size; (try simp at hz7); have u7a : w.heap.size < w7.heap.size := (by omega); have u7b : w.heap.size + 1 < w7.heap.size := (by omega); have u7c : w6.heap.size < w7.heap.size := (by omega)))
  all_goals go_ret
  all_goals exact ⟨rfl, Below.r⟩
end Go.Proofs.YtcbdfjeehimcfaaGreat
namespace Go.Proofs.YtcbdfjeehimcfaaGreat
open Go Go.RowKit
set_option maxRecDepth 100000 in
set_option maxHeartbeats 16000000 in
theorem lyes_not (t : GT) (p : GP) (s : ByteArray) (N : Nat) (w : World) (A A2 : Nat → Prop) (m : TA) (mp : PA) (ox : okT t) (hs1 : sizeT t ≤ 1048576) (hl : RT w A t m) (op : okP p) (hp1 : sizeP p ≤ 1048576) (hr : RP w A2 p mp) (hss : s.size ≤ 1048576) (hE : cutE t ⟨1, ⟨0, 0, []⟩, 0, []⟩ s N = 0) (l : List GR) (en : Int) (hen : en ≠ 1) (hl0 : 0 < l.length) (x0 : GR) (hY : cutT s t ⟨1, ⟨0, 0, []⟩, 0, []⟩ N 0 = (l, en)) (hN : cutT s t ⟨2, ⟨0, 0, []⟩, 0, []⟩ N 0 = ([x0], 1)) (hmq : mayP ⟨5, ⟨0, 0, []⟩, 0, [p]⟩ = false) :
  Calls Tryz.prog 9 #[TV t m, PV p mp, .string s, .int .i64 N] w fun e w' => e = .returned (.bool true) ∧ Below w.heap.size w w' := by
 obtain ⟨ma, mb, mc, md, me, mf, mg, mh, mi, mj, mk, ml⟩ := m
 obtain ⟨na, nb, nc, nd⟩ := mp
 have HL := Lib.hid hl
 have HR := Lib.hid hr
 have OX := Lib.hid ox
 have OP := Lib.hid op
 have hs : sizeT t ≤ 1099511627776 := by omega
 have hp : sizeP p ≤ 1099511627776 := by omega
 have hE1 : cutE t ⟨1, ⟨0, 0, []⟩, 0, []⟩ s N = 0 := hE
 have hE2 : cutE t ⟨2, ⟨0, 0, []⟩, 0, []⟩ s N = 0 := (cutE_same chkNo chkYes).trans hE
 have OQ := Lib.hid (okNot op)
 have hq : sizeP ⟨5, ⟨0, 0, []⟩, 0, [p]⟩ ≤ 1099511627776 := by simp [sizeP, sizeV, sizeVs, sizePs]; omega
 have HC1 : Hid (∀ W, RT W A t ⟨ma, mb, mc, md, me, mf, mg, mh, mi, mj, mk, ml⟩ → Calls Tryz.prog 13 #[TV t ⟨ma, mb, mc, md, me, mf, mg, mh, mi, mj, mk, ml⟩, PV ⟨1, ⟨0, 0, []⟩, 0, []⟩ ⟨none, 0, none, 0⟩, .string s, .int .i64 N] W fun e w' => Below W.heap.size W w' ∧ ∃ a c, e = .returned (.tuple #[.slice a l.length c, .int .u8 en, .int .i64 0])) :=
  Lib.hid (fun W h => (cut_ok t ⟨1, ⟨0, 0, []⟩, 0, []⟩ s N W A (fun _ => True) ⟨ma, mb, mc, md, me, mf, mg, mh, mi, mj, mk, ml⟩ ⟨none, 0, none, 0⟩ ox hs h okYes (by simp [sizeP, sizeV, sizeVs, sizePs]) (RPleaf _ _ _ _) hE1).mono fun e w' h => by rw [hY] at h; obtain ⟨h1, a, c, h2, _⟩ := h; exact ⟨h1, a, c, h2⟩)
 have HC2 : Hid (∀ W, RT W A t ⟨ma, mb, mc, md, me, mf, mg, mh, mi, mj, mk, ml⟩ → Calls Tryz.prog 13 #[TV t ⟨ma, mb, mc, md, me, mf, mg, mh, mi, mj, mk, ml⟩, PV ⟨2, ⟨0, 0, []⟩, 0, []⟩ ⟨none, 0, none, 0⟩, .string s, .int .i64 N] W fun e w' => Below W.heap.size W w' ∧ ∃ a c, e = .returned (.tuple #[.slice a 1 c, .int .u8 1, .int .i64 0])) :=
  Lib.hid (fun W h => (cut_ok t ⟨2, ⟨0, 0, []⟩, 0, []⟩ s N W A (fun _ => True) ⟨ma, mb, mc, md, me, mf, mg, mh, mi, mj, mk, ml⟩ ⟨none, 0, none, 0⟩ ox hs h okNo (by simp [sizeP, sizeV, sizeVs, sizePs]) (RPleaf _ _ _ _) hE2).mono fun e w' h => by rw [hN] at h; obtain ⟨h1, a, c, h2, _⟩ := h; exact ⟨h1, a, c, h2⟩)
 have HMQ := Lib.hid hmq
 have g1 : (en == 1) = false := by simp [hen]
 have g3 : decide ((0 : Int) < (l.length : Int)) = true := decide_eq_true (by omega)
 have g4 : min (1 : Int) (l.length : Int) = 1 := by omega
 have g5 : (1 : Int) ≤ (l.length : Int) := by omega
 clear hl hr ox op hE hE1 hE2 hY hN hmq hen hl0
 go_enter Tryz.func9, Tryz.ntmps9
 go_wp2_with (first
  | (go_at_call 10; (with_reducible refine (long29_any t p s _ _ A A2 ⟨ma, mb, mc, md, me, mf, mg, mh, mi, mj, mk, ml⟩ ⟨na, nb, nc, nd⟩ OX.out hs1 (by exact RT.ext (Agree.below Below.r) _ _ HL.out) OP.out (by exact RP.ext (Agree.below Below.r) _ _ HR.out)).mono ?_); rintro e w1 ⟨⟨b1, rfl⟩, hb1⟩; obtain ⟨hc1, hf1⟩ := bcells hb1; have hz1 := hb1.size; (try simp at hz1); have y1 : w.heap.size < w1.heap.size := (by omega); have y2 : w.heap.size + 1 < w1.heap.size := (by omega); cases b1)
  | (go_at_call 11; (with_reducible refine (awake_any _).mono ?_); rintro e wa ⟨rfl, hba⟩; obtain ⟨hca, hfa⟩ := bcells hba; have hza := hba.size; (try simp at hza); have y3 : w.heap.size < wa.heap.size := (by omega); have y4 : w.heap.size + 1 < wa.heap.size := (by omega)))
 rotate_right
 ·go_ret
  exact ⟨rfl, Below.r⟩
 have hbwa : Below w.heap.size w wa := Below.r
 have HBT : Hid (At wa w.heap.size 0 [.int .u8 t.k, .int .u8 t.v.k, .int .i64 t.v.n, .slice ma t.v.l.length mb, .slice mc t.vs.length md, .int .i64 t.lo, .int .i64 t.hi, .slice me t.w.length mf, .int .u8 t.p.k, .int .u8 t.p.v.k, .int .i64 t.p.v.n, .slice mg t.p.v.l.length mh, .int .i64 t.p.n, .slice mi t.p.a.length mj, .slice mk t.a.length ml]) := Lib.hid (At15z.2 ⟨by go_simp, by go_simp, by go_simp, by go_simp, by go_simp, by go_simp, by go_simp, by go_simp, by go_simp, by go_simp, by go_simp, by go_simp, by go_simp, by go_simp, by go_simp⟩)
 have HBP : Hid (At wa (w.heap.size + 1) 0 [.int .u8 p.k, .int .u8 p.v.k, .int .i64 p.v.n, .slice na p.v.l.length nb, .int .i64 p.n, .slice nc p.a.length nd]) := Lib.hid (At6z.2 ⟨by go_simp, by go_simp, by go_simp, by go_simp, by go_simp, by go_simp⟩)
 clear hc1 hf1 hca hfa hb1 hba
 obtain ⟨c0, c1, c2, c3, c4, c5, c6, c7, c8, c9, ca, cb, cc, cd, ce⟩ := At15z.1 HBT.out
 go_region_held3 (fun W => ∀ c k, c < wa.heap.size → W.cell? ⟨c, k, none⟩ = wa.cell? ⟨c, k, none⟩) ((intro c k hc; refine Below.cell (B := wa.heap.size) (w := wa) (p := ⟨c, k, none⟩) ?_ hc; (exact Below.r))) ((first | (go_at_call 23; (with_reducible refine (pYes_any _).mono ?_); rintro e w2 ⟨rfl, hb2⟩; have hz2 := hb2.size; (try simp at hz2); have u2a : w.heap.size < w2.heap.size := (by omega); have u2b : w.heap.size + 1 < w2.heap.size := (by omega)) | (go_at_call 13; refine (HC1.out _ (by exact RT.ext (Agree.below Below.r) _ _ HL.out)).mono ?_; rintro e w3 ⟨hb3, a3, k3, rfl⟩; have hz3 := hb3.size; (try simp at hz3); have u3a : w.heap.size < w3.heap.size := (by omega); have u3b : w.heap.size + 1 < w3.heap.size := (by omega))))
 go_wp2_with fail
 have hat : Below wa.heap.size wa w3 := Below.r
 obtain ⟨c0, c1, c2, c3, c4, c5, c6, c7, c8, c9, ca, cb, cc, cd, ce⟩ := At15z.1 (At.ext (Agree.below hat) (A := fun _ => True) trivial _ _ HBT.out)
 obtain ⟨p0, p1, p2, p3, p4, p5⟩ := At6z.1 (At.ext (Agree.below hat) (A := fun _ => True) trivial _ _ HBP.out)
 clear hat
 go_region_held3 (fun W => ∀ c k, c < w3.heap.size → W.cell? ⟨c, k, none⟩ = w3.cell? ⟨c, k, none⟩) ((intro c k hc; refine Below.cell (B := w3.heap.size) (w := w3) (p := ⟨c, k, none⟩) ?_ hc; (exact Below.r))) ((first | (go_at_call 24; (with_reducible refine (pNo_any _).mono ?_); rintro e w4 ⟨rfl, hb4⟩; have hz4 := hb4.size; (try simp at hz4); have u4a : w.heap.size < w4.heap.size := (by omega); have u4b : w.heap.size + 1 < w4.heap.size := (by omega)) | (go_at_call 13; refine (HC2.out _ (by exact RT.ext (Agree.below Below.r) _ _ HL.out)).mono ?_; rintro e w5 ⟨hb5, a5, k5, rfl⟩; have hz5 := hb5.size; (try simp at hz5); have u5a : w.heap.size < w5.heap.size := (by omega); have u5b : w.heap.size + 1 < w5.heap.size := (by omega))))
 have hat : Below wa.heap.size wa w5 := Below.r
 obtain ⟨c0, c1, c2, c3, c4, c5, c6, c7, c8, c9, ca, cb, cc, cd, ce⟩ := At15z.1 (At.ext (Agree.below hat) (A := fun _ => True) trivial _ _ HBT.out)
 obtain ⟨p0, p1, p2, p3, p4, p5⟩ := At6z.1 (At.ext (Agree.below hat) (A := fun _ => True) trivial _ _ HBP.out)
 clear hat
 go_wp2_with (first | (go_at_call 26; refine (pNot_any p ⟨na, nb, nc, nd⟩ _ A2 OP.out (by exact RP.ext (Agree.below Below.r) _ _ HR.out)).mono ?_; rintro e w6 ⟨hb6, ⟨qa, qb, qc, qd⟩, rfl, hr6⟩; have HQ6 := Lib.hid (RP.mono (A' := fun _ => True) (fun _ _ _ => trivial) _ _ hr6); clear hr6; obtain ⟨hc6, hf6⟩ := bcells hb6; have hz6 := hb6.size; (try simp at hz6); have u6a : w.heap.size < w6.heap.size := (by omega); have u6b : w.heap.size + 1 < w6.heap.size := (by omega)) | (go_at_call 27; refine (mayP_any ⟨5, ⟨0, 0, []⟩, 0, [p]⟩ _ (fun _ => True) ⟨qa, qb, qc, qd⟩ OQ.out hq (by exact RP.ext (Agree.below Below.r) _ _ HQ6.out)).mono ?_; rw [HMQ.out]; rintro e w7 ⟨rfl, hb7⟩; obtain ⟨hc7, hf7⟩ := bcells hb7; have hz7 := hb7.size; (try simp at hz7); have u7a : w.heap.size < w7.heap.size := (by omega); have u7b : w.heap.size + 1 < w7.heap.size := (by omega); have u7c : w6.heap.size < w7.heap.size := (by omega)))
 all_goals go_ret
 all_goals exact ⟨rfl, Below.r⟩
end Go.Proofs.YtcbdfjeehimcfaaGreat
namespace Go.Proofs.YtcbdfjeehimcfaaGreat
open Go Go.RowKit
set_option maxRecDepth 100000 in
set_option maxHeartbeats 16000000 in
theorem lyes_both (t : GT) (p : GP) (s : ByteArray) (N : Nat) (w : World) (A A2 : Nat → Prop) (m : TA) (mp : PA) (ox : okT t) (hs1 : sizeT t ≤ 1048576) (hl : RT w A t m) (op : okP p) (hp1 : sizeP p ≤ 1048576) (hr : RP w A2 p mp) (hss : s.size ≤ 1048576) (hE : cutE t ⟨1, ⟨0, 0, []⟩, 0, []⟩ s N = 0) (l : List GR) (en : Int) (hen : en ≠ 1) (hl0 : 0 < l.length) (x0 : GR) (hY : cutT s t ⟨1, ⟨0, 0, []⟩, 0, []⟩ N 0 = (l, en)) (hN : cutT s t ⟨2, ⟨0, 0, []⟩, 0, []⟩ N 0 = ([x0], 1)) (hmq : mayP ⟨5, ⟨0, 0, []⟩, 0, [p]⟩ = true) (x y : List GR) (ax bx : Int) (hX : cutT s t p N 0 = (x, ax)) (hZ : cutT s t ⟨5, ⟨0, 0, []⟩, 0, [p]⟩ N 0 = (y, bx)) (hx0 : 0 < x.length) (hy0 : 0 < y.length) (hor : ((ax == 1) = false ∧ (bx == 1) = true ∧ ((y.length : Int) == 1) = true) ∨ ((ax == 1) = true ∧ ((x.length : Int) == 1) = false ∧ (bx == 1) = true ∧ ((y.length : Int) == 1) = true) ∨ ((bx == 1) = false ∧ (ax == 1) = true ∧ ((x.length : Int) == 1) = true) ∨ ((bx == 1) = true ∧ ((y.length : Int) == 1) = false ∧ (ax == 1) = true ∧ ((x.length : Int) == 1) = true)) :
  Calls Tryz.prog 9 #[TV t m, PV p mp, .string s, .int .i64 N] w fun e w' => e = .returned (.bool true) ∧ Below w.heap.size w w' := by
 obtain ⟨ma, mb, mc, md, me, mf, mg, mh, mi, mj, mk, ml⟩ := m
 obtain ⟨na, nb, nc, nd⟩ := mp
 have HL := Lib.hid hl
 have HR := Lib.hid hr
 have OX := Lib.hid ox
 have OP := Lib.hid op
 have hs : sizeT t ≤ 1099511627776 := by omega
 have hp : sizeP p ≤ 1099511627776 := by omega
 have hE1 : cutE t ⟨1, ⟨0, 0, []⟩, 0, []⟩ s N = 0 := hE
 have hE2 : cutE t ⟨2, ⟨0, 0, []⟩, 0, []⟩ s N = 0 := (cutE_same chkNo chkYes).trans hE
 have OQ := Lib.hid (okNot op)
 have hq : sizeP ⟨5, ⟨0, 0, []⟩, 0, [p]⟩ ≤ 1099511627776 := by simp [sizeP, sizeV, sizeVs, sizePs]; omega
 have hE3 : cutE t p s N = 0 := (cutE_same (may_iff.1 (may_not hmq).1) chkYes).trans hE
 have hE4 : cutE t ⟨5, ⟨0, 0, []⟩, 0, [p]⟩ s N = 0 := (cutE_same (may_iff.1 hmq) chkYes).trans hE
 have HC3 : Hid (∀ W (mq : PA), RT W A t ⟨ma, mb, mc, md, me, mf, mg, mh, mi, mj, mk, ml⟩ → RP W A2 p mq → Calls Tryz.prog 13 #[TV t ⟨ma, mb, mc, md, me, mf, mg, mh, mi, mj, mk, ml⟩, PV p mq, .string s, .int .i64 N] W fun e w' => Below W.heap.size W w' ∧ ∃ a c, e = .returned (.tuple #[.slice a x.length c, .int .u8 ax, .int .i64 0])) :=
  Lib.hid (fun W mq h h' => (cut_ok t p s N W A A2 ⟨ma, mb, mc, md, me, mf, mg, mh, mi, mj, mk, ml⟩ mq ox hs h op hp h' hE3).mono fun e w' h => by rw [hX] at h; obtain ⟨h1, a, c, h2, _⟩ := h; exact ⟨h1, a, c, h2⟩)
 have HC4 : Hid (∀ W qa qb qc qd, RT W A t ⟨ma, mb, mc, md, me, mf, mg, mh, mi, mj, mk, ml⟩ → RP W (fun _ => True) ⟨5, ⟨0, 0, []⟩, 0, [p]⟩ ⟨qa, qb, qc, qd⟩ → Calls Tryz.prog 13 #[TV t ⟨ma, mb, mc, md, me, mf, mg, mh, mi, mj, mk, ml⟩, .agg #[.int .u8 5, .int .u8 0, .int .i64 0, .slice qa 0 qb, .int .i64 0, .slice qc 1 qd], .string s, .int .i64 N] W fun e w' => Below W.heap.size W w' ∧ ∃ a c, e = .returned (.tuple #[.slice a y.length c, .int .u8 bx, .int .i64 0])) :=
  Lib.hid (fun W qa qb qc qd h h' => (cut_ok t ⟨5, ⟨0, 0, []⟩, 0, [p]⟩ s N W A (fun _ => True) ⟨ma, mb, mc, md, me, mf, mg, mh, mi, mj, mk, ml⟩ ⟨qa, qb, qc, qd⟩ ox hs h OQ.out hq h' hE4).mono fun e w' h => by rw [hZ] at h; obtain ⟨h1, a, c, h2, _⟩ := h; exact ⟨h1, a, c, h2⟩)
 have HC1 : Hid (∀ W, RT W A t ⟨ma, mb, mc, md, me, mf, mg, mh, mi, mj, mk, ml⟩ → Calls Tryz.prog 13 #[TV t ⟨ma, mb, mc, md, me, mf, mg, mh, mi, mj, mk, ml⟩, PV ⟨1, ⟨0, 0, []⟩, 0, []⟩ ⟨none, 0, none, 0⟩, .string s, .int .i64 N] W fun e w' => Below W.heap.size W w' ∧ ∃ a c, e = .returned (.tuple #[.slice a l.length c, .int .u8 en, .int .i64 0])) :=
  Lib.hid (fun W h => (cut_ok t ⟨1, ⟨0, 0, []⟩, 0, []⟩ s N W A (fun _ => True) ⟨ma, mb, mc, md, me, mf, mg, mh, mi, mj, mk, ml⟩ ⟨none, 0, none, 0⟩ ox hs h okYes (by simp [sizeP, sizeV, sizeVs, sizePs]) (RPleaf _ _ _ _) hE1).mono fun e w' h => by rw [hY] at h; obtain ⟨h1, a, c, h2, _⟩ := h; exact ⟨h1, a, c, h2⟩)
 have HC2 : Hid (∀ W, RT W A t ⟨ma, mb, mc, md, me, mf, mg, mh, mi, mj, mk, ml⟩ → Calls Tryz.prog 13 #[TV t ⟨ma, mb, mc, md, me, mf, mg, mh, mi, mj, mk, ml⟩, PV ⟨2, ⟨0, 0, []⟩, 0, []⟩ ⟨none, 0, none, 0⟩, .string s, .int .i64 N] W fun e w' => Below W.heap.size W w' ∧ ∃ a c, e = .returned (.tuple #[.slice a 1 c, .int .u8 1, .int .i64 0])) :=
  Lib.hid (fun W h => (cut_ok t ⟨2, ⟨0, 0, []⟩, 0, []⟩ s N W A (fun _ => True) ⟨ma, mb, mc, md, me, mf, mg, mh, mi, mj, mk, ml⟩ ⟨none, 0, none, 0⟩ ox hs h okNo (by simp [sizeP, sizeV, sizeVs, sizePs]) (RPleaf _ _ _ _) hE2).mono fun e w' h => by rw [hN] at h; obtain ⟨h1, a, c, h2, _⟩ := h; exact ⟨h1, a, c, h2⟩)
 have HMQ := Lib.hid hmq
 have HOR := Lib.hid hor
 have g1 : (en == 1) = false := by simp [hen]
 have g3 : decide ((0 : Int) < (l.length : Int)) = true := decide_eq_true (by omega)
 have g4 : min (1 : Int) (l.length : Int) = 1 := by omega
 have g5 : (1 : Int) ≤ (l.length : Int) := by omega
 have g6 : ((l.length : Int) == 0) = false := beq_eq_false_iff_ne.2 (by omega)
 have g7 : ((x.length : Int) == 0) = false := beq_eq_false_iff_ne.2 (by omega)
 have g8 : ((y.length : Int) == 0) = false := beq_eq_false_iff_ne.2 (by omega)
 clear hl hr ox op hE hE1 hE2 hE3 hE4 hY hN hX hZ hmq hen hl0 hx0 hy0 hor
 go_enter Tryz.func9, Tryz.ntmps9
 go_wp2_with (first
  | (go_at_call 10; (with_reducible refine (long29_any t p s _ _ A A2 ⟨ma, mb, mc, md, me, mf, mg, mh, mi, mj, mk, ml⟩ ⟨na, nb, nc, nd⟩ OX.out hs1 (by exact RT.ext (Agree.below Below.r) _ _ HL.out) OP.out (by exact RP.ext (Agree.below Below.r) _ _ HR.out)).mono ?_); rintro e w1 ⟨⟨b1, rfl⟩, hb1⟩; obtain ⟨hc1, hf1⟩ := bcells hb1; have hz1 := hb1.size; (try simp at hz1); have y1 : w.heap.size < w1.heap.size := (by omega); have y2 : w.heap.size + 1 < w1.heap.size := (by omega); cases b1)
  | (go_at_call 11; (with_reducible refine (awake_any _).mono ?_); rintro e wa ⟨rfl, hba⟩; obtain ⟨hca, hfa⟩ := bcells hba; have hza := hba.size; (try simp at hza); have y3 : w.heap.size < wa.heap.size := (by omega); have y4 : w.heap.size + 1 < wa.heap.size := (by omega)))
 rotate_right
 ·go_ret
  exact ⟨rfl, Below.r⟩
 have hbwa : Below w.heap.size w wa := Below.r
 have HBT : Hid (At wa w.heap.size 0 [.int .u8 t.k, .int .u8 t.v.k, .int .i64 t.v.n, .slice ma t.v.l.length mb, .slice mc t.vs.length md, .int .i64 t.lo, .int .i64 t.hi, .slice me t.w.length mf, .int .u8 t.p.k, .int .u8 t.p.v.k, .int .i64 t.p.v.n, .slice mg t.p.v.l.length mh, .int .i64 t.p.n, .slice mi t.p.a.length mj, .slice mk t.a.length ml]) := Lib.hid (At15z.2 ⟨by go_simp, by go_simp, by go_simp, by go_simp, by go_simp, by go_simp, by go_simp, by go_simp, by go_simp, by go_simp, by go_simp, by go_simp, by go_simp, by go_simp, by go_simp⟩)
 have HBP : Hid (At wa (w.heap.size + 1) 0 [.int .u8 p.k, .int .u8 p.v.k, .int .i64 p.v.n, .slice na p.v.l.length nb, .int .i64 p.n, .slice nc p.a.length nd]) := Lib.hid (At6z.2 ⟨by go_simp, by go_simp, by go_simp, by go_simp, by go_simp, by go_simp⟩)
 clear hc1 hf1 hca hfa hb1 hba
 obtain ⟨c0, c1, c2, c3, c4, c5, c6, c7, c8, c9, ca, cb, cc, cd, ce⟩ := At15z.1 HBT.out
 go_region_held3 (fun W => ∀ c k, c < wa.heap.size → W.cell? ⟨c, k, none⟩ = wa.cell? ⟨c, k, none⟩) ((intro c k hc; refine Below.cell (B := wa.heap.size) (w := wa) (p := ⟨c, k, none⟩) ?_ hc; (exact Below.r))) ((first | (go_at_call 23; (with_reducible refine (pYes_any _).mono ?_); rintro e w2 ⟨rfl, hb2⟩; have hz2 := hb2.size; (try simp at hz2); have u2a : w.heap.size < w2.heap.size := (by omega); have u2b : w.heap.size + 1 < w2.heap.size := (by omega)) | (go_at_call 13; refine (HC1.out _ (by exact RT.ext (Agree.below Below.r) _ _ HL.out)).mono ?_; rintro e w3 ⟨hb3, a3, k3, rfl⟩; have hz3 := hb3.size; (try simp at hz3); have u3a : w.heap.size < w3.heap.size := (by omega); have u3b : w.heap.size + 1 < w3.heap.size := (by omega))))
 go_wp2_with fail
 have hat : Below wa.heap.size wa w3 := Below.r
 obtain ⟨c0, c1, c2, c3, c4, c5, c6, c7, c8, c9, ca, cb, cc, cd, ce⟩ := At15z.1 (At.ext (Agree.below hat) (A := fun _ => True) trivial _ _ HBT.out)
 obtain ⟨p0, p1, p2, p3, p4, p5⟩ := At6z.1 (At.ext (Agree.below hat) (A := fun _ => True) trivial _ _ HBP.out)
 clear hat
 go_region_held3 (fun W => ∀ c k, c < w3.heap.size → W.cell? ⟨c, k, none⟩ = w3.cell? ⟨c, k, none⟩) ((intro c k hc; refine Below.cell (B := w3.heap.size) (w := w3) (p := ⟨c, k, none⟩) ?_ hc; (exact Below.r))) ((first | (go_at_call 24; (with_reducible refine (pNo_any _).mono ?_); rintro e w4 ⟨rfl, hb4⟩; have hz4 := hb4.size; (try simp at hz4); have u4a : w.heap.size < w4.heap.size := (by omega); have u4b : w.heap.size + 1 < w4.heap.size := (by omega)) | (go_at_call 13; refine (HC2.out _ (by exact RT.ext (Agree.below Below.r) _ _ HL.out)).mono ?_; rintro e w5 ⟨hb5, a5, k5, rfl⟩; have hz5 := hb5.size; (try simp at hz5); have u5a : w.heap.size < w5.heap.size := (by omega); have u5b : w.heap.size + 1 < w5.heap.size := (by omega))))
 have hat : Below wa.heap.size wa w5 := Below.r
 obtain ⟨c0, c1, c2, c3, c4, c5, c6, c7, c8, c9, ca, cb, cc, cd, ce⟩ := At15z.1 (At.ext (Agree.below hat) (A := fun _ => True) trivial _ _ HBT.out)
 obtain ⟨p0, p1, p2, p3, p4, p5⟩ := At6z.1 (At.ext (Agree.below hat) (A := fun _ => True) trivial _ _ HBP.out)
 clear hat
 go_upto_region 14 with (first | (go_at_call 26; refine (pNot_any p ⟨na, nb, nc, nd⟩ _ A2 OP.out (by exact RP.ext (Agree.below Below.r) _ _ HR.out)).mono ?_; rintro e w6 ⟨hb6, ⟨qa, qb, qc, qd⟩, rfl, hr6⟩; have HQ6 := Lib.hid (RP.mono (A' := fun _ => True) (fun _ _ _ => trivial) _ _ hr6); clear hr6; obtain ⟨hc6, hf6⟩ := bcells hb6; have hz6 := hb6.size; (try simp at hz6); have u6a : w.heap.size < w6.heap.size := (by omega); have u6b : w.heap.size + 1 < w6.heap.size := (by omega)) | (go_at_call 27; refine (mayP_any ⟨5, ⟨0, 0, []⟩, 0, [p]⟩ _ (fun _ => True) ⟨qa, qb, qc, qd⟩ OQ.out hq (by exact RP.ext (Agree.below Below.r) _ _ HQ6.out)).mono ?_; rw [HMQ.out]; rintro e w7 ⟨rfl, hb7⟩; obtain ⟨hc7, hf7⟩ := bcells hb7; have hz7 := hb7.size; (try simp at hz7); have u7a : w.heap.size < w7.heap.size := (by omega); have u7b : w.heap.size + 1 < w7.heap.size := (by omega); have u7c : w6.heap.size < w7.heap.size := (by omega)) | (go_at_call 13; (with_reducible refine (HC3.out _ ⟨na, nb, nc, nd⟩ (by exact RT.ext (Agree.below Below.r) _ _ HL.out) (by exact RP.ext (Agree.below Below.r) _ _ HR.out)).mono ?_); rintro e w8 ⟨hb8, a8, k8, rfl⟩; obtain ⟨hc8, hf8⟩ := bcells hb8; have hz8 := hb8.size; (try simp at hz8); have u8a : w.heap.size < w8.heap.size := (by omega); have u8b : w.heap.size + 1 < w8.heap.size := (by omega); have u8c : w6.heap.size < w8.heap.size := (by omega)) | (go_at_call 13; (with_reducible refine (HC4.out _ qa qb qc qd (by exact RT.ext (Agree.below Below.r) _ _ HL.out) (by exact RP.ext (Agree.below Below.r) _ _ HQ6.out)).mono ?_); rintro e w9 ⟨hb9, a9, k9, rfl⟩))
 rcases HOR.out with ⟨q1, q2, q3⟩ | ⟨q1, q2, q3, q4⟩ | ⟨q1, q2, q3⟩ | ⟨q1, q2, q3, q4⟩
 all_goals go_wp2_with fail
 all_goals go_ret
 all_goals exact ⟨rfl, Below.r⟩
end Go.Proofs.YtcbdfjeehimcfaaGreat
namespace Go.Proofs.YtcbdfjeehimcfaaGreat
open Go Go.RowKit
theorem len_one {l : List GR} (h : l.length = 1) : ((l.length : Int) == 1) = true := by simp [h]
theorem lyes_any (w : World) (t : GT) (A : Nat → Prop) (m : TA) (ox : okT t) (hs : sizeT t ≤ 1048576) (hl : RT w A t m) (p : GP) (A2 : Nat → Prop) (mp : PA) (op : okP p) (hp : sizeP p ≤ 1048576) (hr : RP w A2 p mp) (s : ByteArray) (hss : s.size ≤ 1048576) (n : Int) :
  Calls Tryz.prog 9 #[TV t m, PV p mp, .string s, .int .i64 n] w fun e w' => e = .returned (.bool true) ∧ Below w.heap.size w w' := by
 by_cases hE : cutE t ⟨1, ⟨0, 0, []⟩, 0, []⟩ s n = 0
 ·have hn : 0 ≤ n := by unfold cutE at hE; (repeat' split at hE) <;> omega
  obtain ⟨N, rfl⟩ : ∃ N : Nat, n = (N : Int) := ⟨n.toNat, by omega⟩
  rcases cut_one s t N with ⟨v, u, hN, h⟩ | ⟨e, he, h⟩
  ·have hY : ∀ v, holdsP ⟨1, ⟨0, 0, []⟩, 0, []⟩ v = true := fun v => by simp [holdsP]
   have h2 := (h ⟨2, ⟨0, 0, []⟩, 0, []⟩).2.1 (by simp [holdsP])
   have h1 := cut_yes s t _ hY N 0
   have h3 := List.length_pos_iff.2 (h ⟨1, ⟨0, 0, []⟩, 0, []⟩).1
   cases hmq : mayP ⟨5, ⟨0, 0, []⟩, 0, [p]⟩
   ·exact lyes_not t p s N w A A2 m mp ox hs hl op hp hr hss hE _ _ h1 h3 _ rfl h2 hmq
   ·have hq := (may_not hmq).2 v
    have hx0 := List.length_pos_iff.2 (h p).1
    have hy0 := List.length_pos_iff.2 (h ⟨5, ⟨0, 0, []⟩, 0, [p]⟩).1
    refine lyes_both t p s N w A A2 m mp ox hs hl op hp hr hss hE _ _ h1 h3 _ rfl h2 hmq _ _ _ _ rfl rfl hx0 hy0 ?_
    cases hv : holdsP p v
    ·rw [hv] at hq
     have h5 := (h p).2.1 hv
     have h6 := (h ⟨5, ⟨0, 0, []⟩, 0, [p]⟩).2.2 hq
     rw [h5]
     cases hb : ((cutT s t ⟨5, ⟨0, 0, []⟩, 0, [p]⟩ N 0).2 == 1)
     ·exact .inr (.inr (.inl ⟨rfl, rfl, rfl⟩))
     ·refine .inr (.inr (.inr ⟨rfl, beq_eq_false_iff_ne.2 (fun e => h6 ⟨by simpa using hb, by omega⟩), rfl, rfl⟩))
    ·rw [hv] at hq
     have h5 := (h ⟨5, ⟨0, 0, []⟩, 0, [p]⟩).2.1 hq
     have h6 := (h p).2.2 hv
     rw [h5]
     cases hb : ((cutT s t p N 0).2 == 1)
     ·exact .inl ⟨rfl, rfl, rfl⟩
     ·exact .inr (.inl ⟨rfl, beq_eq_false_iff_ne.2 (fun e => h6 ⟨by simpa using hb, by omega⟩), rfl, rfl⟩)
  ·exact lyes_none t p s N w A A2 m mp ox hs hl op hp hr hss hE e he (h _) (h _) _ rfl
 ·exact lyes_err t p s n w A A2 m mp ox hs hl op hp hr hss hE
end Go.Proofs.YtcbdfjeehimcfaaGreat
