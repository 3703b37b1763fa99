/- What the proofs of the Trial statements need: part 50. -/
import Derived.Test.YtcbdfjeehimcfaaGreatQ47
set_option linter.unusedVariables false
set_option linter.unusedSimpArgs false
namespace Go.Proofs.YtcbdfjeehimcfaaGreat
open Go Go.RowKit
set_option maxRecDepth 100000 in
set_option maxHeartbeats 8000000 in
theorem ltwo_err (t : GT) (p : GP) (s : ByteArray) (n f : Int) (w : World) (A A2 : Nat → Prop) (m : TA) (mp : PA) (ox : okT t) (hs1 : sizeT t ≤ 1048576) (hl : RT w A t m) (op : okP p) (hp1 : sizeP p ≤ 1048576) (hr : RP w A2 p mp) (hss : s.size ≤ 1048576) (hE : cutE t p s n ≠ 0) :
  Calls Tryz.prog 8 #[TV t m, PV p mp, .string s, .int .i64 n, .int .u8 f] w fun e w' => e = .returned (.bool true) ∧ Below w.heap.size w w' := by
 obtain ⟨ma, mb, mc, md, me, mf, mg, mh, mi, mj, mk, ml⟩ := m
 obtain ⟨na, nb, nc, nd⟩ := mp
 have HL := Lib.hid hl
 have HR := Lib.hid hr
 have OX := Lib.hid ox
 have OP := Lib.hid op
 have hs : sizeT t ≤ 1099511627776 := by omega
 have hp : sizeP p ≤ 1099511627776 := by omega
 have hs9 : s.size ≤ 9223372036854775807 := by omega
 have h1 : (cutE t p s n != 0) = true := by simp [hE]
 have HCE := Lib.hid hE
 clear hl hr ox op hE
 go_enter Tryz.func8, Tryz.ntmps8
 go_wp2_with (first
  | (go_at_call 10; (with_reducible refine (long29_any t p s _ _ A A2 ⟨ma, mb, mc, md, me, mf, mg, mh, mi, mj, mk, ml⟩ ⟨na, nb, nc, nd⟩ OX.out hs1 (by exact RT.ext (Agree.below Below.r) _ _ HL.out) OP.out (by exact RP.ext (Agree.below Below.r) _ _ HR.out)).mono ?_); rintro e w1 ⟨⟨b1, rfl⟩, hb1⟩; obtain ⟨hc1, hf1⟩ := bcells hb1; have hz1 := hb1.size; (try simp at hz1); have y1 : w.heap.size < w1.heap.size := (by omega); have y2 : w.heap.size + 1 < w1.heap.size := (by omega); cases b1)
  | (go_at_call 11; (with_reducible refine (awake_any _).mono ?_); rintro e wa ⟨rfl, hba⟩; obtain ⟨hca, hfa⟩ := bcells hba; have hza := hba.size; (try simp at hza); have y3 : w.heap.size < wa.heap.size := (by omega); have y4 : w.heap.size + 1 < wa.heap.size := (by omega))
  | (go_at_call 13; (with_reducible refine (cut_err t p s n _ A A2 ⟨ma, mb, mc, md, me, mf, mg, mh, mi, mj, mk, ml⟩ ⟨na, nb, nc, nd⟩ OX.out hs (by exact RT.ext (Agree.below Below.r) _ _ HL.out) OP.out hp (by exact RP.ext (Agree.below Below.r) _ _ HR.out) hs9 HCE.out).mono ?_); rintro e w3 ⟨rfl, hb3⟩))
 all_goals go_ret
 all_goals exact ⟨rfl, Below.r⟩
set_option maxRecDepth 100000 in
set_option maxHeartbeats 8000000 in
theorem ltwo_nil (t : GT) (p : GP) (s : ByteArray) (N : Nat) (f : Int) (w : World) (A A2 : Nat → Prop) (m : TA) (mp : PA) (ox : okT t) (hs1 : sizeT t ≤ 1048576) (hl : RT w A t m) (op : okP p) (hp1 : sizeP p ≤ 1048576) (hr : RP w A2 p mp) (hss : s.size ≤ 1048576) (hE : cutE t p s N = 0) (en : Int) (hR : cutT s t p N 0 = ([], en)) :
  Calls Tryz.prog 8 #[TV t m, PV p mp, .string s, .int .i64 N, .int .u8 f] w fun e w' => e = .returned (.bool true) ∧ Below w.heap.size w w' := by
 obtain ⟨ma, mb, mc, md, me, mf, mg, mh, mi, mj, mk, ml⟩ := m
 obtain ⟨na, nb, nc, nd⟩ := mp
 have HL := Lib.hid hl
 have HR := Lib.hid hr
 have OX := Lib.hid ox
 have OP := Lib.hid op
 have hs : sizeT t ≤ 1099511627776 := by omega
 have hp : sizeP p ≤ 1099511627776 := by omega
 have HCUT : Hid (∀ W, RT W A t ⟨ma, mb, mc, md, me, mf, mg, mh, mi, mj, mk, ml⟩ → RP W A2 p ⟨na, nb, nc, nd⟩ → Calls Tryz.prog 13 #[TV t ⟨ma, mb, mc, md, me, mf, mg, mh, mi, mj, mk, ml⟩, PV p ⟨na, nb, nc, nd⟩, .string s, .int .i64 N] W fun e w' => Below W.heap.size W w' ∧ ∃ a c, e = .returned (.tuple #[.slice a 0 c, .int .u8 en, .int .i64 0])) :=
  Lib.hid (fun W h1 h2 => (cut_ok t p s N W A A2 ⟨ma, mb, mc, md, me, mf, mg, mh, mi, mj, mk, ml⟩ ⟨na, nb, nc, nd⟩ ox hs h1 op hp h2 hE).mono fun e w' h => by rw [hR] at h; obtain ⟨h1, a, c, h2, _⟩ := h; exact ⟨h1, a, c, h2⟩)
 clear hl hr ox op hE hR
 go_enter Tryz.func8, Tryz.ntmps8
 go_wp2_with (first
  | (go_at_call 10; (with_reducible refine (long29_any t p s _ _ A A2 ⟨ma, mb, mc, md, me, mf, mg, mh, mi, mj, mk, ml⟩ ⟨na, nb, nc, nd⟩ OX.out hs1 (by exact RT.ext (Agree.below Below.r) _ _ HL.out) OP.out (by exact RP.ext (Agree.below Below.r) _ _ HR.out)).mono ?_); rintro e w1 ⟨⟨b1, rfl⟩, hb1⟩; obtain ⟨hc1, hf1⟩ := bcells hb1; have hz1 := hb1.size; (try simp at hz1); have y1 : w.heap.size < w1.heap.size := (by omega); have y2 : w.heap.size + 1 < w1.heap.size := (by omega); cases b1)
  | (go_at_call 11; (with_reducible refine (awake_any _).mono ?_); rintro e wa ⟨rfl, hba⟩; obtain ⟨hca, hfa⟩ := bcells hba; have hza := hba.size; (try simp at hza); have y3 : w.heap.size < wa.heap.size := (by omega); have y4 : w.heap.size + 1 < wa.heap.size := (by omega))
  | (go_at_call 13; (with_reducible refine (HCUT.out _ (by exact RT.ext (Agree.below Below.r) _ _ HL.out) (by exact RP.ext (Agree.below Below.r) _ _ HR.out)).mono ?_); rintro e w3 ⟨hb3, a, c, rfl⟩))
 all_goals go_ret
 all_goals exact ⟨rfl, Below.r⟩
end Go.Proofs.YtcbdfjeehimcfaaGreat
