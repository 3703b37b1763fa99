/- What the proofs of the Trial statements need: part 51. -/
import Derived.Deep.CutRange
import Derived.Test.YtcbdfjeehimcfaaGreatQ49
set_option linter.unusedVariables false
set_option linter.unusedSimpArgs false
namespace Go.Proofs.YtcbdfjeehimcfaaGreat
open Go Go.RowKit
set_option maxRecDepth 100000 in
set_option maxHeartbeats 16000000 in
theorem ltwo_ok (t : GT) (p : GP) (s : ByteArray) (N F : Nat) (w : World) (A A2 : Nat → Prop) (m : TA) (mp : PA) (ox : okT t) (hs1 : sizeT t ≤ 1048576) (hl : RT w A t m) (op : okP p) (hp1 : sizeP p ≤ 1048576) (hr : RP w A2 p mp) (hss : s.size ≤ 1048576) (hf : F ≤ 255) (hE : cutE t p s N = 0) (l : List GR) (en : Int) (hR : cutT s t p N 0 = (l, en)) (hl0 : 0 < l.length) :
  Calls Tryz.prog 8 #[TV t m, PV p mp, .string s, .int .i64 N, .int .u8 F] w fun e w' => e = .returned (.bool true) ∧ Below w.heap.size w w' := by
 obtain ⟨ma, mb, mc, md, me, mf, mg, mh, mi, mj, mk, ml⟩ := m
 obtain ⟨na, nb, nc, nd⟩ := mp
 have HL := Lib.hid hl
 have HR := Lib.hid hr
 have OX := Lib.hid ox
 have OP := Lib.hid op
 have hs : sizeT t ≤ 1099511627776 := by omega
 have hp : sizeP p ≤ 1099511627776 := by omega
 have hRE : runE t s = 0 := by
  unfold cutE at hE
  split at hE
  ·omega
  ·omega
 have hPE : (checkPE p).2 = 0 ∧ N ≤ 1000 := by unfold cutE at hE; (repeat' split at hE) <;> omega
 obtain ⟨k, hk⟩ : ∃ k : Nat, k = F % l.length := ⟨_, rfl⟩
 have hkl : k < l.length := by rw [hk]; exact Nat.mod_lt _ hl0
 obtain ⟨hkN, B, hB, hc2⟩ := cut_drop s t p k N 0 l en hR hkl
 have hmem := cut_mem p hRE ox N 0 (by omega)
 rw [hR] at hmem
 have hBs : B ≤ s.size := by
  rcases hB with ⟨_, rfl⟩ | ⟨h1, _, h2⟩
  ·omega
  ·have := (hmem _ (List.getElem_mem h1)).2.1; omega
 have hsub := cut_sub s t p B (N - k) 0
 rw [Nat.add_zero, hc2] at hsub
 obtain ⟨r, e2, hr2⟩ : ∃ r e2, cutT (subS s B) t p (N - k) 0 = (r, e2) := ⟨_, _, rfl⟩
 rw [hr2] at hsub
 simp only [Prod.mk.injEq] at hsub
 obtain ⟨hdrop, rfl⟩ := hsub
 have hRE2 := runE_sub hRE B hBs
 have hmem2 := cut_mem p hRE2 ox (N - k) 0 (by omega)
 rw [hr2, subS_size s B hBs] at hmem2
 have hLr : l.length - k = r.length := by rw [← List.length_drop, hdrop, List.length_map]
 have hl1 : l.length ≤ 1000 := by have := (cut_len s t p N 0 l en hR).1; omega
 have hsame : sameRs B r (l.drop k) = true := by rw [hdrop]; exact sameRs_sh B r
 have hNk : ((N - k : Nat) : Int) = (N : Int) - (k : Int) := by omega
 have hE2 : cutE t p (subS s B) ((N - k : Nat) : Int) = 0 := by
  unfold cutE
  rw [if_neg (by rw [hRE2]; simp), if_neg (by rw [hPE.1]; simp), if_neg (by omega)]
 have HM1 : Hid (∀ x ∈ r, (0 ≤ x.f ∧ x.f ≤ (s.size : Int)) ∧ (0 ≤ x.t ∧ x.t ≤ (s.size : Int)) ∧ okV x.v) := Lib.hid (fun x hx => by obtain ⟨h1, h2, h3⟩ := hmem2 x hx; exact ⟨by omega, by omega, h3⟩)
 have HM2 : Hid (∀ x ∈ l.drop k, (0 ≤ x.f ∧ x.f ≤ (s.size : Int)) ∧ (0 ≤ x.t ∧ x.t ≤ (s.size : Int)) ∧ okV x.v) := Lib.hid (fun x hx => hmem x (List.mem_of_mem_drop hx))
 have HSM := Lib.hid hsame
 have HCUT : Hid (∀ W, RT W A t ⟨ma, mb, mc, md, me, mf, mg, mh, mi, mj, mk, ml⟩ → RP W A2 p ⟨na, nb, nc, nd⟩ → Calls Tryz.prog 13 #[TV t ⟨ma, mb, mc, md, me, mf, mg, mh, mi, mj, mk, ml⟩, PV p ⟨na, nb, nc, nd⟩, .string s, .int .i64 N] W fun e w' => Below W.heap.size W w' ∧ ∃ a c, e = .returned (.tuple #[.slice a l.length (l.length + c), .int .u8 en, .int .i64 0]) ∧ RRs w' (fun b => W.heap.size ≤ b) l a) :=
  Lib.hid (fun W h1 h2 => (cut_okc t p s N W A A2 ⟨ma, mb, mc, md, me, mf, mg, mh, mi, mj, mk, ml⟩ ⟨na, nb, nc, nd⟩ ox hs h1 op hp h2 hE).mono fun e w' h => by rw [hR] at h; exact h)
 have HCUT2 : Hid (∀ W, RT W A t ⟨ma, mb, mc, md, me, mf, mg, mh, mi, mj, mk, ml⟩ → RP W A2 p ⟨na, nb, nc, nd⟩ → Calls Tryz.prog 13 #[TV t ⟨ma, mb, mc, md, me, mf, mg, mh, mi, mj, mk, ml⟩, PV p ⟨na, nb, nc, nd⟩, .string (subS s B), .int .i64 ((N : Int) - (k : Int))] W fun e w' => Below W.heap.size W w' ∧ ∃ a c, e = .returned (.tuple #[.slice a r.length c, .int .u8 en, .int .i64 0]) ∧ RRs w' (fun b => W.heap.size ≤ b) r a) :=
  Lib.hid (fun W h1 h2 => by
   have h := cut_ok t p (subS s B) (N - k) W A A2 ⟨ma, mb, mc, md, me, mf, mg, mh, mi, mj, mk, ml⟩ ⟨na, nb, nc, nd⟩ ox hs h1 op hp h2 hE2
   rw [hr2, hNk] at h
   exact h)
 have HT2 : Hid (∀ (W : World) b o c, RRs W (fun _ => True) (l.drop k) (some ⟨b, o, none⟩) → Calls Tryz.prog 15 #[.slice (some ⟨b, o, none⟩) r.length c] W fun e w' => Below W.heap.size W w' ∧ ∃ a cp, e = .returned (.slice a r.length cp) ∧ RRs w' (fun b => True ∨ W.heap.size ≤ b) (l.drop k) a) :=
  Lib.hid (fun W b o c h => by
   have h2 := told_any (l.drop k) (fun _ => True) W _ c (by rw [List.length_drop]; omega) h
   rw [List.length_drop, hLr] at h2
   exact h2)
 have HS2 : Hid (∀ (W : World) a a' c c', RRs W (fun _ => True) r a → RRs W (fun _ => True) (l.drop k) a' → Calls Tryz.prog 14 #[.slice a r.length c, .slice a' r.length c', .int .i64 B] W fun e w' => e = .returned (.bool true) ∧ Below W.heap.size W w') :=
  Lib.hid (fun W a a' c c' h1 h2 => by
   have h := r29same_of B r (l.drop k) (fun _ => True) (fun _ => True) W a a' c c' (by omega) (by rw [List.length_drop]; omega) (by omega) s.size (by omega) HM1.out HM2.out h1 h2 HSM.out
   rw [List.length_drop, hLr] at h
   exact h)
 have HBQ : Hid (k = 0 ∧ (B : Int) = 0 ∨ ∃ q : Nat, ∃ h : q < l.length, k = q + 1 ∧ l[q].t = (B : Int)) := Lib.hid (by
  rcases hB with ⟨h1, h2⟩ | ⟨h1, h2, h3⟩
  ·exact .inl ⟨h1, by omega⟩
  ·exact .inr ⟨k - 1, h1, by omega, h3⟩)
 have hkm : (F : Int) % (l.length : Int) = (k : Int) := by rw [hk]; exact (Int.natCast_emod F l.length).symm
 have hr1 : r.length ≤ 1000 := by omega
 have hN1 : N ≤ 1000 := hPE.2
 clear hl hr ox op hE hE2 hRE hRE2 hPE hmem hmem2 hR hB hc2 hr2 hdrop hk hsame hNk
 have g1 : ((l.length : Int) == 0) = false := beq_eq_false_iff_ne.2 (by omega)
 have g2 : decide ((B : Int) < 0) = false := decide_eq_false (by omega)
 have g3 : decide ((s.size : Int) < (B : Int)) = false := decide_eq_false (by omega)
 have i0 : (0 : Int) ≤ (k : Int) := by omega
 have i1 : (k : Int) ≤ (l.length : Int) := by omega
 have i2 : (0 : Int) ≤ (B : Int) := by omega
 have i3 : (B : Int) ≤ (s.size : Int) := by omega
 have wn : IntKind.i64.wrap ((N : Int) - (k : Int)) = (N : Int) - (k : Int) := IntWalk.i64_in _ (by omega)
 go_enter Tryz.func8, Tryz.ntmps8
 go_upto_if 51 with (first
  | (go_at_call 10; (with_reducible refine (long29_any t p s _ _ A A2 ⟨ma, mb, mc, md, me, mf, mg, mh, mi, mj, mk, ml⟩ ⟨na, nb, nc, nd⟩ OX.out hs1 (by exact RT.ext (Agree.below Below.r) _ _ HL.out) OP.out (by exact RP.ext (Agree.below Below.r) _ _ HR.out)).mono ?_); rintro e w1 ⟨⟨b1, rfl⟩, hb1⟩; obtain ⟨hc1, hf1⟩ := bcells hb1; have hz1 := hb1.size; (try simp at hz1); have y1 : w.heap.size < w1.heap.size := (by omega); have y2 : w.heap.size + 1 < w1.heap.size := (by omega); cases b1)
  | (go_at_call 11; (with_reducible refine (awake_any _).mono ?_); rintro e wa ⟨rfl, hba⟩; obtain ⟨hca, hfa⟩ := bcells hba; have hza := hba.size; (try simp at hza); have y3 : w.heap.size < wa.heap.size := (by omega); have y4 : w.heap.size + 1 < wa.heap.size := (by omega))
  | (go_at_call 13; (with_reducible refine (HCUT.out _ (by exact RT.ext (Agree.below Below.r) _ _ HL.out) (by exact RP.ext (Agree.below Below.r) _ _ HR.out)).mono ?_); rintro e w3 ⟨hb3, a, c, rfl, hrr⟩; obtain ⟨b, o, mz, rfl, -⟩ := hrr.get k hkl; have HRR := Lib.hid (RRs.mono (A' := fun _ => True) (fun _ _ _ => trivial) _ _ hrr); clear hrr mz; obtain ⟨hc3, hf3⟩ := bcells hb3; have hz3 := hb3.size; (try simp at hz3); have y5 : w.heap.size < w3.heap.size := (by omega); have y6 : w.heap.size + 1 < w3.heap.size := (by omega); have nk : ¬ (l.length + c = k) := (by omega)))
 all_goals (try (go_ret; exact ⟨rfl, Below.r⟩))
 have hbw3 : Below w.heap.size w w3 := Below.r
 have HBT : Hid (At w3 w.heap.size 0 [.int .u8 t.k, .int .u8 t.v.k, .int .i64 t.v.n, .slice ma t.v.l.length mb, .slice mc t.vs.length md, .int .i64 t.lo, .int .i64 t.hi, .slice me t.w.length mf, .int .u8 t.p.k, .int .u8 t.p.v.k, .int .i64 t.p.v.n, .slice mg t.p.v.l.length mh, .int .i64 t.p.n, .slice mi t.p.a.length mj, .slice mk t.a.length ml]) := Lib.hid (At15z.2 ⟨by go_simp, by go_simp, by go_simp, by go_simp, by go_simp, by go_simp, by go_simp, by go_simp, by go_simp, by go_simp, by go_simp, by go_simp, by go_simp, by go_simp, by go_simp⟩)
 have HBP : Hid (At w3 (w.heap.size + 1) 0 [.int .u8 p.k, .int .u8 p.v.k, .int .i64 p.v.n, .slice na p.v.l.length nb, .int .i64 p.n, .slice nc p.a.length nd]) := Lib.hid (At6z.2 ⟨by go_simp, by go_simp, by go_simp, by go_simp, by go_simp, by go_simp⟩)
 clear hc1 hf1 hca hfa hc3 hf3 hb1 hba hb3
 go_cut [15] from 50 to 57 (fun v15 wx => v15 = .int .i64 (B : Int) ∧ wx = w3)
 case first =>
  rcases HBQ.out with ⟨h0, h1⟩ | ⟨q, hq, h0, h1⟩
  ·have g4 : decide ((0 : Int) < (k : Int)) = false := decide_eq_false (by omega)
   go_wp2_with fail
   go_meet
   exact ⟨by rw [h1], rfl⟩
  ·have g4 : decide ((0 : Int) < (k : Int)) = true := decide_eq_true (by omega)
   have g5 : (k : Int) - 1 = (q : Int) := by omega
   have g6 : (0 : Int) ≤ (q : Int) := by omega
   have g7 : (q : Int) < (l.length : Int) := by omega
   obtain ⟨b', o', mz, he, -, hbs, g0, -⟩ := HRR.out.get q hq
   simp only [Option.some.injEq, Addr.mk.injEq, and_true] at he
   obtain ⟨rfl, rfl⟩ := he
   obtain ⟨-, z1, -⟩ := At5.1 g0
   rw [h1] at z1
   clear g0 h1
   go_wp2_with fail
   go_meet
   exact ⟨rfl, rfl⟩
 case rest =>
  obtain ⟨rfl, rfl⟩ := hcut
  obtain ⟨c0, c1, c2, c3, c4, c5, c6, c7, c8, c9, ca, cb, cc, cd, ce⟩ := At15z.1 HBT.out
  obtain ⟨p0, p1, p2, p3, p4, p5⟩ := At6z.1 HBP.out
  go_wp2_with fail
  go_region_held3 (fun W => ∀ c k, c < wc.heap.size → W.cell? ⟨c, k, none⟩ = wc.cell? ⟨c, k, none⟩) ((intro c k hc; refine Below.cell (B := wc.heap.size) (w := wc) (p := ⟨c, k, none⟩) ?_ hc; (exact Below.r))) ((go_at_call 13; refine (HCUT2.out _ (by exact RT.ext (Agree.below Below.r) _ _ HL.out) (by exact RP.ext (Agree.below Below.r) _ _ HR.out)).mono ?_; rintro e w4 ⟨hb4, a2, c2, rfl, hrr⟩; have HRR2 := Lib.hid (RRs.mono (A' := fun _ => True) (fun _ _ _ => trivial) _ _ hrr); clear hrr; have hz4 := hb4.size; (try simp at hz4)))
  go_wp2_with fail
  have HRD : Hid (RRs w4 (fun _ => True) (l.drop k) (some ⟨b, o + k * 5, none⟩)) := Lib.hid (RRs.ext (Agree.below (Below.mono (B := wc.heap.size) Below.r (Nat.le_refl _))) _ _ (RRs.drop HRR.out k))
  go_region_held3 (fun W => Below w4.heap.size w4 W) (((exact Below.r))) ((first | (go_at_call 15; (with_reducible refine (told_any r (fun _ => True) _ a2 _ (by omega) (by exact RRs.ext (Agree.below Below.r) _ _ HRR2.out)).mono ?_); rintro e w5 ⟨hb5, a5, c5, rfl, hr5⟩; have HR5 := Lib.hid (RRs.mono (A' := fun _ => True) (fun _ _ _ => trivial) _ _ hr5); clear hr5; have hz5 := hb5.size; (try simp at hz5)) | (go_at_call 15; (with_reducible refine (HT2.out _ b (o + k * 5) _ (by exact RRs.ext (Agree.below Below.r) _ _ HRD.out)).mono ?_); rintro e w6 ⟨hb6, a6, c6, rfl, hr6⟩; have HR6 := Lib.hid (RRs.mono (A' := fun _ => True) (fun _ _ _ => trivial) _ _ hr6); clear hr6; have hz6 := hb6.size; (try simp at hz6)) | (go_at_call 14; (with_reducible refine (HS2.out _ a5 a6 c5 c6 (by exact RRs.ext (Agree.below Below.r) _ _ HR5.out) (by exact RRs.ext (Agree.below Below.r) _ _ HR6.out)).mono ?_); rintro e w7 ⟨rfl, hb7⟩; have hz7 := hb7.size; (try simp at hz7))))
  go_wp2_with fail
  all_goals go_ret
  all_goals exact ⟨rfl, Below.r⟩
theorem ltwo_any (w : World) (t : GT) (A : Nat → Prop) (m : TA) (ox : okT t) (hs : sizeT t ≤ 1048576) (hl : RT w A t m) (p : GP) (A2 : Nat → Prop) (mp : PA) (op : okP p) (hp : sizeP p ≤ 1048576) (hr : RP w A2 p mp) (s : ByteArray) (hss : s.size ≤ 1048576) (n f : Int) (hf : 0 ≤ f ∧ f ≤ 255) :
  Calls Tryz.prog 8 #[TV t m, PV p mp, .string s, .int .i64 n, .int .u8 f] w fun e w' => e = .returned (.bool true) ∧ Below w.heap.size w w' := by
 by_cases hE : cutE t p s n = 0
 ·have hn : 0 ≤ n := by unfold cutE at hE; (repeat' split at hE) <;> omega
  obtain ⟨N, rfl⟩ : ∃ N : Nat, n = (N : Int) := ⟨n.toNat, by omega⟩
  obtain ⟨F, rfl⟩ : ∃ F : Nat, f = (F : Int) := ⟨f.toNat, by omega⟩
  obtain ⟨l, en, hR⟩ : ∃ l en, cutT s t p N 0 = (l, en) := ⟨_, _, rfl⟩
  by_cases h0 : l = []
  ·subst h0
   exact ltwo_nil t p s N F w A A2 m mp ox hs hl op hp hr hss hE en hR
  ·exact ltwo_ok t p s N F w A A2 m mp ox hs hl op hp hr hss (by omega) hE l en hR (List.length_pos_iff.2 h0)
 ·exact ltwo_err t p s n f w A A2 m mp ox hs hl op hp hr hss hE
end Go.Proofs.YtcbdfjeehimcfaaGreat
