/- What the proofs of the Trial statements need: part 47. -/
import Derived.Test.YtojjdneicmbfjaaGreatDoorQ38
import Derived.Test.YtojjdneicmbfjaaGreatDoorQ52
set_option linter.unusedVariables false
set_option linter.unusedSimpArgs false
namespace Go.Proofs.YtojjdneicmbfjaaGreatDoor
open Go Go.RowKit
theorem shr_again {t : GT} {p : GP} {u : ByteArray} {v : GV} (ox : okT t) (hE : shrE t p u = 0) (hF : failT t p u = some (u, v)) {s : ByteArray} {y : GV} {n : Nat} (hT : shrT t p 1024 u v 0 = (s, y, n)) :
  shrE t p s = 0 ∧ failT t p s = some (s, y) ∧ n ≤ 1024 ∧ s.size ≤ u.size ∧ ((n = 0 ∧ s = u) ∨ (0 < n ∧ s ≠ u ∧ cmpS s u = -1)) ∧ (n < 1024 → shrT t p 1024 s y 0 = (s, y, 0)) := by
 obtain ⟨h1, h2, h3, h4, h5, h6, h7⟩ := shr_all ox 1024 u v 0 hF
 rw [hT] at h1 h2 h3 h4 h5 h6 h7
 dsimp only at h1 h2 h3 h4 h5 h6 h7
 obtain ⟨e1, e2, -⟩ := shrE_zero hE
 refine ⟨?_, h1, by omega, h7, ?_, fun hn => ?_⟩
 ·have hr : runE t s = 0 := by
   unfold failT at h1
   split at h1
   ·cases h1
   ·rename_i h; omega
  unfold shrE
  rw [if_neg (by omega), if_neg (by omega), h1]
  simp
 ·rcases Nat.eq_zero_or_pos n with h | h
  ·exact .inl ⟨h, (h4 h).1⟩
  ·have hk := h5 h
   refine .inr ⟨h, fun e => by rw [e] at hk; omega, ?_⟩
   rw [cmpS_key]
   unfold cmpI
   rw [if_pos (by omega)]
 ·have hs := h6 (by omega)
  rw [show (1024 : Nat) = 1023 + 1 from rfl, shrT, hs]
theorem same_zero (w : World) : Calls Tryz.prog 26 #[.agg #[.int .u8 0, .int .i64 0, .slice none 0 0], .agg #[.int .u8 0, .int .i64 0, .slice none 0 0]] w fun e w' => e = .returned (.bool true) ∧ Below w.heap.size w w' :=
 same_self ⟨0, 0, []⟩ w (fun _ => True) (fun _ => True) ⟨none, 0⟩ ⟨none, 0⟩ (okV_leaf (by unfold isU8; omega) (by unfold isI64; omega)) (by simp [RV, RVs]) (by simp [RV, RVs])
set_option maxRecDepth 100000 in
set_option maxHeartbeats 64000000 in
theorem csteps_err (t : GT) (p : GP) (u : ByteArray) (w : World) (A A2 : Nat → Prop) (m : TA) (mp : PA) (ox : okT t) (hs1 : sizeT t ≤ 1048576) (hl : RT w A t m) (op : okP p) (hp1 : sizeP p ≤ 1048576) (hr : RP w A2 p mp) (hss : u.size ≤ 1048576) (hG : GW w) (hE : shrE t p u ≠ 0) :
  Calls Tryz.prog 8 #[TV t m, PV p mp, .string u] w fun e w' => e = .returned (.bool true) ∧ Below w.heap.size w w' := by
 obtain ⟨ma, mb, mc, md, me, mf, mg, mh, mi, mj, mk, ml⟩ := m
 obtain ⟨na, nb, nc, nd⟩ := mp
 have HL := Lib.hid hl
 have HR := Lib.hid hr
 have OX := Lib.hid ox
 have OP := Lib.hid op
 have HG := Lib.hid hG
 have hs : sizeT t ≤ 1099511627776 := by omega
 have hp : sizeP p ≤ 1099511627776 := by omega
 have HE := Lib.hid hE
 have h1' : (shrE t p u != 0) = true := by simp [hE]
 clear hl hr ox op hG hE
 go_enter Tryz.func8, Tryz.ntmps8
 go_wp2_with (first
  | (go_at_call 11; (with_reducible refine (long31_any t p u _ _ A A2 ⟨ma, mb, mc, md, me, mf, mg, mh, mi, mj, mk, ml⟩ ⟨na, nb, nc, nd⟩ OX.out hs1 (by exact RT.ext (Agree.below Below.r) _ _ HL.out) OP.out (by exact RP.ext (Agree.below Below.r) _ _ HR.out)).mono ?_); rintro e w1 ⟨⟨b1, rfl⟩, hb1⟩; obtain ⟨hc1, hf1⟩ := bcells hb1; have hz1 := hb1.size; (try simp at hz1); have y1 : w.heap.size < w1.heap.size := (by omega); have y2 : w.heap.size + 1 < w1.heap.size := (by omega); cases b1)
  | (go_at_call 12; (with_reducible refine (cawake_any _ (HG.out.below Below.r)).mono ?_); rintro e wa ⟨rfl, hba⟩; obtain ⟨hca, hfa⟩ := bcells hba; have hza := hba.size; (try simp at hza); have y3 : w.heap.size < wa.heap.size := (by omega); have y4 : w.heap.size + 1 < wa.heap.size := (by omega))
  | (go_at_call 14; (with_reducible refine (shrink_err t p u _ A A2 ⟨ma, mb, mc, md, me, mf, mg, mh, mi, mj, mk, ml⟩ ⟨na, nb, nc, nd⟩ OX.out hs (by exact RT.ext (Agree.below Below.r) _ _ HL.out) OP.out hp (by exact RP.ext (Agree.below Below.r) _ _ HR.out) (by omega) HE.out).mono ?_); rintro e w3 ⟨rfl, hb3⟩; obtain ⟨hc3, hf3⟩ := bcells hb3; have hz3 := hb3.size; (try simp at hz3); have y5 : w.heap.size < w3.heap.size := (by omega))
  | (go_at_call 26; (with_reducible refine (same_zero _).mono ?_); rintro e w4 ⟨rfl, hb4⟩; obtain ⟨hc4, hf4⟩ := bcells hb4; have hz4 := hb4.size; (try simp at hz4)))
 all_goals go_ret
 all_goals exact ⟨rfl, Below.r⟩
set_option maxRecDepth 100000 in
set_option maxHeartbeats 64000000 in
theorem csteps_w (t : GT) (p : GP) (u : ByteArray) (w : World) (A A2 : Nat → Prop) (m : TA) (mp : PA) (ox : okT t) (hs1 : sizeT t ≤ 1048576) (hl : RT w A t m) (op : okP p) (hp1 : sizeP p ≤ 1048576) (hr : RP w A2 p mp) (hss : u.size ≤ 1048576) (hG : GW w) (s x : ByteArray) (yk yn zk zn : Int) (yl zl : List GV) (n k : Int) (oy : okV ⟨yk, yn, yl⟩)
  (hS1 : ∀ W, RT W A t m → RP W A2 p mp → GW W → Calls Tryz.prog 14 #[TV t m, PV p mp, .string u] W fun e w' => Below W.heap.size W w' ∧ ∃ my : VA, e = .returned (.tuple #[.string s, .agg #[.int .u8 yk, .int .i64 yn, .slice my.a yl.length my.c], .int .i64 n, .int .i64 0]) ∧ RV w' (fun b => W.heap.size ≤ b) ⟨yk, yn, yl⟩ my.a)
  (hS2 : ∀ W, RT W A t m → RP W A2 p mp → GW W → Calls Tryz.prog 14 #[TV t m, PV p mp, .string s] W fun e w' => Below W.heap.size W w' ∧ ∃ my : VA, e = .returned (.tuple #[.string x, .agg #[.int .u8 zk, .int .i64 zn, .slice my.a zl.length my.c], .int .i64 k, .int .i64 0]) ∧ RV w' (fun b => W.heap.size ≤ b) ⟨zk, zn, zl⟩ my.a)
  (hs2 : s.size ≤ 1048576)
  (q0 : ((n == 0) = true ∧ (s.toList == u.toList) = true ∧ decide (0 < n) = false ∧ cmpS s u = 0) ∨ ((n == 0) = false ∧ (s.toList == u.toList) = false ∧ decide (0 < n) = true ∧ cmpS s u = -1))
  (q1 : (n == 1024) = true ∨ ((n == 1024) = false ∧ x = s ∧ k = 0 ∧ zk = yk ∧ zn = yn ∧ zl = yl)) :
  Calls Tryz.prog 8 #[TV t m, PV p mp, .string u] w fun e w' => e = .returned (.bool true) ∧ Below w.heap.size w w' := by
 obtain ⟨ma, mb, mc, md, me, mf, mg, mh, mi, mj, mk, ml⟩ := m
 obtain ⟨na, nb, nc, nd⟩ := mp
 have HL := Lib.hid hl
 have HR := Lib.hid hr
 have OX := Lib.hid ox
 have OP := Lib.hid op
 have HG := Lib.hid hG
 have hs : sizeT t ≤ 1099511627776 := by omega
 have hp : sizeP p ≤ 1099511627776 := by omega
 have OY := Lib.hid oy
 have HS1 := Lib.hid hS1
 have HS2 := Lib.hid hS2
 clear hl hr ox op hG oy hS1 hS2
 rcases q0 with ⟨h0, h1, h2, h3⟩ | ⟨h0, h1, h2, h3⟩
 all_goals have H3 := Lib.hid h3
 all_goals clear h3
 all_goals rcases q1 with h4 | ⟨h4, rfl, rfl, rfl, rfl, rfl⟩
 all_goals as_aux_lemma =>
  go_enter Tryz.func8, Tryz.ntmps8
  go_wp2_with (first
   | (go_at_call 11; (with_reducible refine (long31_any t p u _ _ A A2 ⟨ma, mb, mc, md, me, mf, mg, mh, mi, mj, mk, ml⟩ ⟨na, nb, nc, nd⟩ OX.out hs1 (by exact RT.ext (Agree.below Below.r) _ _ HL.out) OP.out (by exact RP.ext (Agree.below Below.r) _ _ HR.out)).mono ?_); rintro e w1 ⟨⟨b1, rfl⟩, hb1⟩; obtain ⟨hc1, hf1⟩ := bcells hb1; have hz1 := hb1.size; (try simp at hz1); have y1 : w.heap.size < w1.heap.size := (by omega); have y2 : w.heap.size + 1 < w1.heap.size := (by omega); cases b1)
   | (go_at_call 12; (with_reducible refine (cawake_any _ (HG.out.below Below.r)).mono ?_); rintro e wa ⟨rfl, hba⟩; obtain ⟨hca, hfa⟩ := bcells hba; have hza := hba.size; (try simp at hza); have y3 : w.heap.size < wa.heap.size := (by omega); have y4 : w.heap.size + 1 < wa.heap.size := (by omega))
   | (go_at_call 14; (with_reducible refine (HS1.out _ (by exact RT.ext (Agree.below Below.r) _ _ HL.out) (by exact RP.ext (Agree.below Below.r) _ _ HR.out) (HG.out.below Below.r)).mono ?_); rintro e w3 ⟨hb3, my, rfl, hrv⟩; have HRV := Lib.hid (RV.mono (A' := fun b => b < w3.heap.size) (fun b _ h => h) _ _ hrv); clear hrv; obtain ⟨hc3, hf3⟩ := bcells hb3; have hz3 := hb3.size; (try simp at hz3); have y5 : w.heap.size < w3.heap.size := (by omega); have y6 : w.heap.size + 1 < w3.heap.size := (by omega))
   | (go_at_call 32; (with_reducible refine (cmpB_any _ _ _ (by omega) (by omega)).mono ?_); rw [H3.out]; rintro e w4 ⟨rfl, hb4⟩; obtain ⟨hc4, hf4⟩ := bcells hb4; have hz4 := hb4.size; (try simp at hz4); have y7 : w.heap.size < w4.heap.size := (by omega); have y8 : w.heap.size + 1 < w4.heap.size := (by omega); have y9 : w3.heap.size < w4.heap.size := (by omega))
   | (go_at_call 14; (with_reducible refine (HS2.out _ (by exact RT.ext (Agree.below Below.r) _ _ HL.out) (by exact RP.ext (Agree.below Below.r) _ _ HR.out) (HG.out.below Below.r)).mono ?_); rintro e w5 ⟨hb5, mz, rfl, hrv⟩; have HRZ := Lib.hid (RV.mono (A' := fun b => b < w5.heap.size) (fun b _ h => h) _ _ hrv); clear hrv; obtain ⟨hc5, hf5⟩ := bcells hb5; have hz5 := hb5.size; (try simp at hz5); have z1 : w.heap.size < w5.heap.size := (by omega); have z2 : w3.heap.size < w5.heap.size := (by omega))
   | (go_at_call 26; (with_reducible refine (same_self ⟨zk, zn, zl⟩ _ (fun b => b < w5.heap.size) (fun b => b < w3.heap.size) mz my OY.out (by exact RV.ext (Agree.trans (Agree.below (show Below w5.heap.size w5 _ from Below.r)) (Agree.refl _ _)) _ _ HRZ.out) (by exact RV.ext (Agree.below (show Below w3.heap.size w3 _ from Below.r)) _ _ HRV.out)).mono ?_); rintro e w6 ⟨rfl, hb6⟩))
  all_goals go_ret
  all_goals exact ⟨rfl, Below.r⟩
set_option maxRecDepth 100000 in
theorem csteps_any (w : World) (t : GT) (A : Nat → Prop) (m : TA) (ox : okT t) (hs1 : sizeT t ≤ 1048576) (hl : RT w A t m) (p : GP) (A2 : Nat → Prop) (mp : PA) (op : okP p) (hp1 : sizeP p ≤ 1048576) (hr : RP w A2 p mp) (u : ByteArray) (hss : u.size ≤ 1048576) (hG : GW w) :
  Calls Tryz.prog 8 #[TV t m, PV p mp, .string u] w fun e w' => e = .returned (.bool true) ∧ Below w.heap.size w w' := by
 by_cases hE : shrE t p u = 0
 case neg => exact csteps_err t p u w A A2 m mp ox hs1 hl op hp1 hr hss hG hE
 obtain ⟨e1, e2, v, hF⟩ := shrE_zero hE
 generalize hT : shrT t p 1024 u v 0 = T
 obtain ⟨s, ⟨yk, yn, yl⟩, n⟩ := T
 obtain ⟨h1, h2, h3, h4, h5, h6⟩ := shr_again ox hE hF hT
 generalize hT2 : shrT t p 1024 s ⟨yk, yn, yl⟩ 0 = T2
 obtain ⟨x, ⟨zk, zn, zl⟩, k⟩ := T2
 have hs : sizeT t ≤ 1099511627776 := by omega
 have hp : sizeP p ≤ 1099511627776 := by omega
 refine csteps_w t p u w A A2 m mp ox hs1 hl op hp1 hr hss hG s x yk yn zk zn yl zl (n : Int) (k : Int) (fail_whole ox h2).2.2.2.2.2.2.1 (fun W g1 g2 g3 => ?_) (fun W g1 g2 g3 => ?_) (by omega) ?_ ?_
 ·have := shrink_ok t p u W A A2 m mp ox hs g1 op hp g2 hE v hF g3
  rw [hT] at this
  exact this
 ·have := shrink_ok t p s W A A2 m mp ox hs g1 op hp g2 h1 ⟨yk, yn, yl⟩ h2 g3
  rw [hT2] at this
  exact this
 ·rcases h5 with ⟨rfl, rfl⟩ | ⟨g1, g2, g3⟩
  ·refine .inl ⟨by simp, beq_self_eq_true _, by simp, ?_⟩
   rw [cmpS_key]
   simp [cmpI]
  ·refine .inr ⟨by simp; omega, strNe g2, by simpa using g1, g3⟩
 ·by_cases hn : n = 1024
  ·exact .inl (by simp [hn])
  ·have g := h6 (by omega)
   rw [hT2] at g
   simp only [Prod.mk.injEq, GV.mk.injEq] at g
   exact .inr ⟨by simp; omega, g.1, by simp [g.2.2], g.2.1.1, g.2.1.2.1, g.2.1.2.2⟩
end Go.Proofs.YtojjdneicmbfjaaGreatDoor
