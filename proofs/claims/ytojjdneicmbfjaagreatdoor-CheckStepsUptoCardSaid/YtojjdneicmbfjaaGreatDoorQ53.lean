/- What the proofs of the Trial statements need: part 44. -/
import Derived.Test.YtojjdneicmbfjaaGreatDoorQ0
import Derived.Test.YtojjdneicmbfjaaGreatDoorQ2
import Derived.Test.YtojjdneicmbfjaaGreatDoorQ3
import Derived.Test.YtojjdneicmbfjaaGreatDoorQ4
set_option linter.unusedVariables false
set_option linter.unusedSimpArgs false
namespace Go.Proofs.YtojjdneicmbfjaaGreatDoor
open Go Go.RowKit
set_option maxRecDepth 100000 in
theorem r14node_any (x : GV) (m : VA) (w : World) (ox : isU8 x.k ∧ isI64 x.n ∧ x.l.length ≤ 1048576) :
  Calls Tryz.prog 222 #[VV x m] w fun e w' => e = .returned (.int .i64 (nodeV x)) ∧ Below w.heap.size w w' := by
 obtain ⟨⟨x1, x2⟩, ⟨x3, x4⟩, x5⟩ := ox
 obtain ⟨ma, mc⟩ := m
 generalize hF : nodeV x = F
 have HF := Lib.hid hF
 clear hF
 go_enter Tryz.func222, Tryz.ntmps222
 go_wp2_with fail
 all_goals go_ret
 all_goals refine ⟨ret_int ?_, Below.r⟩
 all_goals rw [← HF.out]
 all_goals unfold nodeV
 all_goals (first | rfl | omega | ((try simp only [beq_iff_eq, beq_eq_false_iff_ne, bne_iff_ne, bne_eq_false_iff_eq, decide_eq_true_eq, decide_eq_false_iff_not, ne_eq, Bool.and_eq_true, Bool.or_eq_true, Bool.and_eq_false_iff, Bool.or_eq_false_iff, Bool.not_eq_true', Bool.not_eq_false'] at *); (repeat' split) <;> first | rfl | omega | contradiction | (simp_all; done) | (simp_all; omega)))
mutual
def allE : GV → Int
 | ⟨k, n, l⟩ => if nodeV ⟨k, n, l⟩ ≠ 0 then nodeV ⟨k, n, l⟩ else allEs l
def allEs : List GV → Int
 | [] => 0
 | x :: l => if allE x ≠ 0 then allE x else allEs l
end
theorem allE_eq (x : GV) : allE x = if nodeV x ≠ 0 then nodeV x else allEs x.l := by cases x; simp only [allE]
mutual
theorem allE_pre : ∀ (x : GV) (d : Nat), allE x = firstErr (preV d x)
 | ⟨k, n, l⟩, d => by simp only [allE, preV, firstErr, allEs_pre l (d + 1)]
theorem allEs_pre : ∀ (l : List GV) (d : Nat), allEs l = firstErr (preVs d l)
 | [], d => by simp only [allEs, preVs, firstErr]
 | x :: l, d => by simp only [allEs, preVs, firstErr_append, allE_pre x d, allEs_pre l d]
end
theorem allEs_append : ∀ (a b : List GV), allEs (a ++ b) = if allEs a ≠ 0 then allEs a else allEs b
 | [], b => by simp [allEs]
 | x :: a, b => by
  simp only [List.cons_append, allEs, allEs_append a b]
  by_cases h : allE x = 0 <;> simp [h]
theorem allEs_take (l : List GV) (j : Nat) (h : j < l.length) (h0 : allEs (l.take j) = 0) : allEs (l.take (j + 1)) = allE l[j] := by
 rw [List.take_succ_eq_append_getElem h, allEs_append, h0, if_neg (by simp)]
 simp only [allEs]
 split
 ·rfl
 ·rename_i h1; exact (Decidable.not_not.1 h1).symm
theorem allEs_stop (l : List GV) (j : Nat) (h0 : allEs (l.take j) ≠ 0) : allEs l = allEs (l.take j) := by
 conv => lhs; rw [← List.take_append_drop j l]
 rw [allEs_append, if_pos h0]
set_option maxRecDepth 100000 in
set_option maxHeartbeats 1000000 in
theorem r14all_any (N : Nat) : ∀ (x : GV) (w : World) (A : Nat → Prop) (m : VA), sizeV x ≤ N → okV x → RVs w A x.l m.a →
  Calls Tryz.prog 201 #[VV x m] w fun e w' => e = .returned (.int .i64 (allE x)) ∧ Below w.heap.size w w' := by
 induction N with
 | zero => intro x; have := sizeV_pos x; intros; omega
 | succ N ih =>
  rintro x w A ⟨ma, mc⟩ hN ox hl
  have IH := Lib.hid ih
  have HL := Lib.hid hl
  obtain ⟨x1, x2, hlen, oa⟩ := okV_iff.1 ox
  have O := Lib.hid oa
  have HU := Lib.hid (And.intro x1 (And.intro x2 hlen))
  have hse := sizeV_eq x
  rw [allE_eq]
  generalize hF : (if nodeV x ≠ 0 then nodeV x else allEs x.l) = F
  have HF := Lib.hid hF
  clear hF
  clear ih hl ox oa x1 x2
  go_enter Tryz.func201, Tryz.ntmps201
  go_wp2_with (go_at_call 222; refine (r14node_any x ⟨ma, mc⟩ _ HU.out).mono ?_; rintro e w1 ⟨rfl, hb⟩; have hB1 := hb; clear hb; obtain ⟨hc1, hf1⟩ := bcells hB1)
  have hz1 := hB1.size
  simp at hz1
  have q2 : w1.cell? ⟨w.heap.size, 2, none⟩ = some (.slice ma x.l.length mc) := (hB1.cell so).trans (by go_simp)
  have hbw1 : Below w.heap.size w w1 := Below.r
  go_loopg [3, 4] (x.l.length) (fun gk t3 i wr => ∃ (j : Nat) (E : Int), gk + j = x.l.length ∧ i = .int .i64 j ∧ t3 = .int .i64 E ∧ Hid (E = if nodeV x ≠ 0 then nodeV x else allEs (x.l.take j)) ∧ Below w.heap.size w wr ∧ w.heap.size < wr.heap.size ∧ wr.cell? ⟨w.heap.size, 2, none⟩ = some (.slice ma x.l.length mc))
  case atStart => exact ⟨0, _, by omega, rfl, rfl, Lib.hid (by simp [allEs]), hbw1, by omega, q2⟩
  case round =>
   obtain ⟨j, E, hj, rfl, rfl, HE, hb, hz, hcell⟩ := hrel
   by_cases hE : E = 0
   ·have hE' : (E == 0) = true := by simp [hE]
    have h0 : nodeV x = 0 ∧ allEs (x.l.take j) = 0 := by
     have := HE.out
     rw [hE] at this
     split at this
     ·rename_i h1; exact absurd this.symm h1
     ·rename_i h1; exact ⟨by simpa using h1, this.symm⟩
    have H0 := Lib.hid h0
    clear h0 hE
    by_cases hlt : j < x.l.length
    ·obtain ⟨b, o, mj, rfl, hA, hbs, g0, gx⟩ := HL.out.get j hlt
     obtain ⟨k0, k1, k2⟩ := At3.1 (g0.ext (Agree.below hb) (A := fun _ => True) trivial)
     have hs1 : b < wr.heap.size := by omega
     have hq1 := sizeVs_get x.l j hlt
     clear g0
     go_wp2_with (go_at_call 201; refine (IH.out x.l[j] _ A mj (by omega) (O.out.get j hlt) (by exact RVs.ext (Agree.below Below.z) _ _ (RV_iff.1 gx))).mono ?_; rintro e w2 ⟨rfl, hb2⟩)
     have hbb : Below w.heap.size w w2 := hb.trans (hb2.mono (by omega))
     go_roundg (gk - 1)
     case measure => omega
     case rel => exact ⟨j + 1, _, by omega, by go_num, rfl, Lib.hid (by rw [allEs_take _ _ hlt H0.out.2, if_neg (by simp [H0.out.1])]), hbb, by have := hb2.size; omega, (hb2.cell (by simp; omega)).trans hcell⟩
    ·have hjl : j = x.l.length := by omega
     go_wp2_with fail
     go_ret
     exact ⟨ret_int (by rw [HE.out, ← HF.out, hjl, List.take_length]), hb⟩
   ·have hE' : (E == 0) = false := by simp [hE]
    have hfin : E = F := by
     rw [← HF.out]
     have := HE.out
     split at this
     ·rename_i h1; rw [if_pos h1]; exact this
     ·rename_i h1; rw [if_neg h1, this]; exact (allEs_stop _ _ (by rw [← this]; exact hE)).symm
    have HFI := Lib.hid hfin
    clear hE hfin
    by_cases hlt : j < x.l.length
    all_goals
     go_wp2_with fail
     go_ret
     exact ⟨ret_int HFI.out, hb⟩
theorem sizeVs_takeS : ∀ (l : List GV) (j : Nat) (h : j < l.length), sizeVs (l.take (j + 1)) = sizeVs (l.take j) + sizeV l[j]
 | x :: l, 0, _ => by simp [sizeVs]
 | x :: l, j + 1, h => by have := sizeVs_takeS l j (by simpa using h); simp only [List.take_succ_cons, sizeVs, List.getElem_cons_succ] at this ⊢; omega
theorem sizeVs_takeL : ∀ (l : List GV) (j : Nat), sizeVs (l.take j) ≤ sizeVs l
 | [], j => by simp
 | x :: l, 0 => by simp [sizeVs]
 | x :: l, j + 1 => by have := sizeVs_takeL l j; simp only [List.take_succ_cons, sizeVs]; omega
set_option maxRecDepth 100000 in
set_option maxHeartbeats 1000000 in
theorem r14size_any (N : Nat) : ∀ (x : GV) (w : World) (A : Nat → Prop) (m : VA), sizeV x ≤ N → sizeV x ≤ 1099511627776 → okV x → RVs w A x.l m.a →
  Calls Tryz.prog 94 #[VV x m] w fun e w' => e = .returned (.int .i64 (sizeV x)) ∧ Below w.heap.size w w' := by
 induction N with
 | zero => intro x; have := sizeV_pos x; intros; omega
 | succ N ih =>
  rintro x w A ⟨ma, mc⟩ hN h40 ox hl
  have IH := Lib.hid ih
  have HL := Lib.hid hl
  obtain ⟨_, _, hlen, oa⟩ := okV_iff.1 ox
  have O := Lib.hid oa
  have hse := sizeV_eq x
  clear ih hl ox oa
  go_enter Tryz.func94, Tryz.ntmps94
  go_wp2_with fail
  go_loopg [3, 4] (x.l.length) (fun gk t3 i wr => ∃ (j n : Nat), gk + j = x.l.length ∧ i = .int .i64 j ∧ t3 = .int .i64 n ∧ Hid (n = 1 + sizeVs (x.l.take j)) ∧ n ≤ 1099511627776 ∧ Below w.heap.size w wr ∧ w.heap.size < wr.heap.size ∧ wr.cell? ⟨w.heap.size, 2, none⟩ = some (.slice ma x.l.length mc))
  case atStart => exact ⟨0, 1, by omega, rfl, rfl, Lib.hid (by simp [sizeVs]), by omega, Below.r, by simp, by go_simp⟩
  case round =>
   obtain ⟨j, n, hj, rfl, rfl, HE, hn, hb, hz, hcell⟩ := hrel
   by_cases hlt : j < x.l.length
   ·obtain ⟨b, o, mj, rfl, hA, hbs, g0, gx⟩ := HL.out.get j hlt
    obtain ⟨k0, k1, k2⟩ := At3.1 (g0.ext (Agree.below hb) (A := fun _ => True) trivial)
    have hs1 : b < wr.heap.size := by omega
    have hq1 := sizeVs_get x.l j hlt
    have hq2 : sizeVs (x.l.take (j + 1)) = sizeVs (x.l.take j) + sizeV x.l[j] ∧ sizeVs (x.l.take (j + 1)) ≤ sizeVs x.l := ⟨sizeVs_takeS _ _ hlt, sizeVs_takeL _ _⟩
    have hn2 : n + sizeV x.l[j] ≤ 1099511627776 := by have := HE.out; omega
    have HQ := Lib.hid hq2
    clear g0 hq2
    go_wp2_with (go_at_call 94; refine (IH.out x.l[j] _ A mj (by omega) (by omega) (O.out.get j hlt) (by exact RVs.ext (Agree.below Below.z) _ _ (RV_iff.1 gx))).mono ?_; rintro e w2 ⟨rfl, hb2⟩)
    have hbb : Below w.heap.size w w2 := hb.trans (hb2.mono (by omega))
    go_roundg (gk - 1)
    case measure => omega
    case rel => exact ⟨j + 1, n + sizeV x.l[j], by omega, by go_num, by go_num, Lib.hid (by have := HE.out; have := HQ.out.1; omega), hn2, hbb, by have := hb2.size; omega, (hb2.cell (by simp; omega)).trans hcell⟩
   ·have hjl : j = x.l.length := by omega
    go_wp2_with fail
    go_ret
    exact ⟨ret_int (by have := HE.out; rw [hjl, List.take_length] at this; omega), hb⟩
theorem deepVs_takeS : ∀ (l : List GV) (j : Nat) (h : j < l.length), deepVs (l.take (j + 1)) = max (deepVs (l.take j)) (deepV l[j])
 | x :: l, 0, _ => by simp [deepVs]
 | x :: l, j + 1, h => by have := deepVs_takeS l j (by simpa using h); simp only [List.take_succ_cons, deepVs, List.getElem_cons_succ] at this ⊢; omega
theorem deepVs_takeL : ∀ (l : List GV) (j : Nat), deepVs (l.take j) ≤ deepVs l
 | [], j => by simp
 | x :: l, 0 => by simp [deepVs]
 | x :: l, j + 1 => by have := deepVs_takeL l j; simp only [List.take_succ_cons, deepVs]; omega
theorem deepVs_get : ∀ (l : List GV) (j : Nat) (h : j < l.length), deepV l[j] ≤ deepVs l
 | x :: l, 0, _ => by simp only [List.getElem_cons_zero, deepVs]; omega
 | x :: l, j + 1, h => by have := deepVs_get l j (by simpa using h); simp only [deepVs, List.getElem_cons_succ] at this ⊢; omega
set_option maxRecDepth 100000 in
set_option maxHeartbeats 1000000 in
theorem r14deep_any (N : Nat) : ∀ (x : GV) (w : World) (A : Nat → Prop) (m : VA), sizeV x ≤ N → sizeV x ≤ 1099511627776 → okV x → RVs w A x.l m.a →
  Calls Tryz.prog 193 #[VV x m] w fun e w' => e = .returned (.int .i64 (deepV x)) ∧ Below w.heap.size w w' := by
 induction N with
 | zero => intro x; have := sizeV_pos x; intros; omega
 | succ N ih =>
  rintro x w A ⟨ma, mc⟩ hN h40 ox hl
  have IH := Lib.hid ih
  have HL := Lib.hid hl
  obtain ⟨_, _, hlen, oa⟩ := okV_iff.1 ox
  have O := Lib.hid oa
  have hse := sizeV_eq x
  have hd1 := deepV_le x
  have hd2 := deepV_eq x
  have HD := Lib.hid hd2
  clear ih hl ox oa hd2
  go_enter Tryz.func193, Tryz.ntmps193
  go_wp2_with fail
  go_loopg [3, 4] (x.l.length) (fun gk t3 i wr => ∃ (j n : Nat), gk + j = x.l.length ∧ i = .int .i64 j ∧ t3 = .int .i64 n ∧ Hid (n = deepVs (x.l.take j)) ∧ n ≤ 1099511627775 ∧ Below w.heap.size w wr ∧ w.heap.size < wr.heap.size ∧ wr.cell? ⟨w.heap.size, 2, none⟩ = some (.slice ma x.l.length mc))
  case atStart => exact ⟨0, 0, by omega, rfl, rfl, Lib.hid (by simp [deepVs]), by omega, Below.r, by simp, by go_simp⟩
  case round =>
   obtain ⟨j, n, hj, rfl, rfl, HE, hn, hb, hz, hcell⟩ := hrel
   by_cases hlt : j < x.l.length
   ·obtain ⟨b, o, mj, rfl, hA, hbs, g0, gx⟩ := HL.out.get j hlt
    obtain ⟨k0, k1, k2⟩ := At3.1 (g0.ext (Agree.below hb) (A := fun _ => True) trivial)
    have hs1 : b < wr.heap.size := by omega
    have hq1 := sizeVs_get x.l j hlt
    have hq3 := deepVs_takeL x.l (j + 1)
    have hq4 := deepVs_takeS x.l j hlt
    have hq5 : deepV x.l[j] ≤ 1099511627775 := by have := deepVs_get x.l j hlt; have := HD.out; omega
    have HQ := Lib.hid hq4
    clear g0 hq4 hq3
    by_cases hmx : n < deepV x.l[j]
    all_goals
     go_wp2_with (go_at_call 193; refine (IH.out x.l[j] _ A mj (by omega) (by omega) (O.out.get j hlt) (by exact RVs.ext (Agree.below Below.z) _ _ (RV_iff.1 gx))).mono ?_; rintro e w2 ⟨rfl, hb2⟩)
     have hbb : Below w.heap.size w w2 := hb.trans (hb2.mono (by omega))
     go_roundg (gk - 1)
     case measure => omega
     case rel => exact ⟨j + 1, max n (deepV x.l[j]), by omega, by go_num, by first | (rw [Nat.max_eq_right (by omega)]; done) | (rw [Nat.max_eq_left (by omega)]; done) | go_num, Lib.hid (by rw [HQ.out, HE.out]), by omega, hbb, by have := hb2.size; omega, (hb2.cell (by simp; omega)).trans hcell⟩
   ·have hjl : j = x.l.length := by omega
    go_wp2_with fail
    go_ret
    exact ⟨ret_int (by have := HE.out; rw [hjl, List.take_length] at this; have := HD.out; omega), hb⟩
set_option maxRecDepth 100000 in
set_option maxHeartbeats 1000000 in
theorem r14check_any (x : GV) (w : World) (A : Nat → Prop) (m : VA) (ox : okV x) (h40 : sizeV x ≤ 1099511627776) (hl : RVs w A x.l m.a) :
  Calls Tryz.prog 154 #[VV x m] w fun e w' => e = .returned (.int .i64 (checkV x)) ∧ Below w.heap.size w w' := by
 obtain ⟨ma, mc⟩ := m
 have HL := Lib.hid hl
 have OX := Lib.hid ox
 have hF : checkV x = if allE x ≠ 0 then allE x else if 128 < (deepV x : Int) then 9 else if 4096 < (sizeV x : Int) then 5 else 0 := by
  unfold checkV; rw [← allE_pre]
 rw [hF]
 clear hl ox hF
 by_cases h1 : allE x = 0
 case neg =>
  rw [if_pos h1]
  have h1' : (allE x == 0) = false := by simp [h1]
  clear h1
  go_enter Tryz.func154, Tryz.ntmps154
  go_wp2_with (go_at_call 201; refine (r14all_any _ x _ A ⟨ma, mc⟩ (Nat.le_refl _) OX.out (by exact RVs.ext (Agree.below Below.z) _ _ HL.out)).mono ?_; rintro e w1 ⟨rfl, hb⟩; have hB1 := hb; clear hb; obtain ⟨hc1, hf1⟩ := bcells hB1)
  go_ret
  exact ⟨rfl, Below.r⟩
 rw [if_neg (by simp [h1])]
 have h1' : (allE x == 0) = true := by simp [h1]
 generalize hF : (if 128 < (deepV x : Int) then (9 : Int) else if 4096 < (sizeV x : Int) then 5 else 0) = F
 have HF := Lib.hid hF
 clear hF
 have HA := Lib.hid h1
 clear h1 h1'
 go_enter Tryz.func154, Tryz.ntmps154
 go_wp2_with (first
  | (go_at_call 201; refine (r14all_any _ x _ A ⟨ma, mc⟩ (Nat.le_refl _) OX.out (by exact RVs.ext (Agree.below Below.z) _ _ HL.out)).mono ?_; rw [HA.out]; rintro e w1 ⟨rfl, hb⟩; have hB1 := hb; clear hb; obtain ⟨hc1, hf1⟩ := bcells hB1)
  | (go_at_call 193; refine (r14deep_any _ x _ A ⟨ma, mc⟩ (Nat.le_refl _) h40 OX.out (by exact RVs.ext (Agree.below Below.z) _ _ HL.out)).mono ?_; rintro e w2 ⟨rfl, hb⟩; have hB2 := Below.trans hB1 (Below.mono hb (Below.size hB1)); clear hb; obtain ⟨hc2, hf2⟩ := bcells hB2)
  | (go_at_call 94; refine (r14size_any _ x _ A ⟨ma, mc⟩ (Nat.le_refl _) h40 OX.out (by exact RVs.ext (Agree.below Below.z) _ _ HL.out)).mono ?_; rintro e w3 ⟨rfl, hb⟩; have hB3 := Below.trans hB2 (Below.mono hb (Below.size hB2)); clear hb; obtain ⟨hc3, hf3⟩ := bcells hB3))
 all_goals go_ret
 all_goals refine ⟨ret_int ?_, Below.z⟩
 all_goals rw [← HF.out]
 all_goals (first | rfl | omega | ((try simp only [beq_iff_eq, beq_eq_false_iff_ne, bne_iff_ne, bne_eq_false_iff_eq, decide_eq_true_eq, decide_eq_false_iff_not, ne_eq, Bool.and_eq_true, Bool.or_eq_true, Bool.and_eq_false_iff, Bool.or_eq_false_iff, Bool.not_eq_true', Bool.not_eq_false'] at *); (repeat' split) <;> first | rfl | omega | contradiction | (simp_all; done) | (simp_all; omega)))
set_option maxRecDepth 100000 in
set_option maxHeartbeats 4000000 in
theorem r17node_any (p : GP) (A : Nat → Prop) (m : PA) (w : World) (ox : okP p) (hsz : sizeP p ≤ 1099511627776) (hl : RP w A p m) :
  Calls Tryz.prog 102 #[PV p m] w fun e w' => e = .returned (.int .i64 (nodeP p)) ∧ Below w.heap.size w w' := by
 obtain ⟨ma, mc, mb, md⟩ := m
 obtain ⟨k, v, n, a⟩ := p
 obtain ⟨⟨x1, x2⟩, ov, ⟨x3, x4⟩, x5, oa⟩ := okP_iff.1 ox
 obtain ⟨v1, v2, v3, _⟩ := okV_iff.1 ov
 have HV := Lib.hid (And.intro v1 (And.intro v2 v3))
 have OV := Lib.hid ov
 have HLV := Lib.hid (RV_iff.1 (RP_iff.1 hl).1)
 have hse := sizeP_eq ⟨k, v, n, a⟩
 have hsv : sizeV v ≤ 1099511627776 := by simp only at hse; omega
 dsimp only at HV OV HLV x1 x2 x3 x4 x5
 clear ox oa ov v1 v2 v3 hl hse hsz
 by_cases hk : k < 1 ∨ 11 < k
 ·have hF : nodeP ⟨k, v, n, a⟩ = 11 := by unfold nodeP; rw [if_pos hk]
  rw [hF]
  clear hF
  rcases hk with hk | hk
  all_goals go_enter Tryz.func102, Tryz.ntmps102
  all_goals go_wp2_with fail
  all_goals go_ret
  all_goals exact ⟨rfl, Below.r⟩
 rcases (by omega : k = 1 ∨ k = 2 ∨ k = 3 ∨ k = 4 ∨ k = 5 ∨ k = 6 ∨ k = 7 ∨ k = 8 ∨ k = 9 ∨ k = 10 ∨ k = 11) with rfl | rfl | rfl | rfl | rfl | rfl | rfl | rfl | rfl | rfl | rfl
 all_goals clear hk
 all_goals
  generalize hF : nodeP _ = F
  have HF := Lib.hid hF
  clear hF
  go_enter Tryz.func102, Tryz.ntmps102
  go_wp2_with (first
   | (go_at_call 154; refine (r14check_any v _ A ⟨ma, mc⟩ OV.out hsv (by exact RVs.ext (Agree.below Below.z) _ _ HLV.out)).mono ?_; rintro e w1 ⟨rfl, hb⟩; have hB1 := hb; clear hb; obtain ⟨hc1, hf1⟩ := bcells hB1)
   | (go_at_call 155; refine (r17none_any v ⟨ma, mc⟩ _ HV.out).mono ?_; rintro e w1 ⟨rfl, hb⟩; have hB1 := hb; clear hb; obtain ⟨hc1, hf1⟩ := bcells hB1))
  all_goals go_ret
  all_goals refine ⟨ret_int ?_, Below.r⟩
  all_goals rw [← HF.out]
  all_goals unfold nodeP nodePrest numberE roomL roomM hasValueB
  all_goals first | (simp [*]; done) | (simp_all; done) | (simp_all; omega) | (first | rfl | omega | ((try simp only [beq_iff_eq, beq_eq_false_iff_ne, bne_iff_ne, bne_eq_false_iff_eq, decide_eq_true_eq, decide_eq_false_iff_not, ne_eq, Bool.and_eq_true, Bool.or_eq_true, Bool.and_eq_false_iff, Bool.or_eq_false_iff, Bool.not_eq_true', Bool.not_eq_false'] at *); (repeat' split) <;> first | rfl | omega | contradiction | (simp_all; done) | (simp_all; omega)))
set_option maxRecDepth 100000 in
set_option maxHeartbeats 1000000 in
theorem r17check_any (N : Nat) : ∀ (p : GP) (w : World) (A : Nat → Prop) (m : PA) (pl d : Int), sizeP p ≤ N → okP p → 0 ≤ pl → pl + sizeP p ≤ 1099511627776 → 0 ≤ d → d ≤ 13 → RP w A p m →
  Calls Tryz.prog 70 #[PV p m, .int .i64 pl, .int .i64 d] w fun e w' => e = .returned (.tuple #[.int .i64 (chkP pl d p).1, .int .i64 (chkP pl d p).2]) ∧ Below w.heap.size w w' := by
 induction N with
 | zero => intro p; have := sizeP_pos p; intros; omega
 | succ N ih =>
  rintro p w A ⟨ma, mc, mb, md⟩ pl d hN ox hp0 hp1 hd0 hd1 hl
  have IH := Lib.hid ih
  have HL := Lib.hid (RP_iff.1 hl).2
  have HP := Lib.hid hl
  have OX := Lib.hid ox
  obtain ⟨⟨x1, x2⟩, ov, ⟨x3, x4⟩, x5, oa⟩ := okP_iff.1 ox
  have O := Lib.hid oa
  have hse := sizeP_eq p
  have hsv := sizeV_pos p.v
  clear ih hl ox oa ov
  rw [chkP_eq]
  by_cases hd : 12 < d
  ·rw [if_pos hd]
   go_enter Tryz.func70, Tryz.ntmps70
   go_wp2_with fail
   go_ret2
   exact ⟨rfl, Below.z⟩
  rw [if_neg hd]
  have hsz : sizeP p ≤ 1099511627776 := by omega
  by_cases hn : nodeP p = 0
  case neg =>
   rw [if_pos hn]
   have hn' : (nodeP p != 0) = true := by simp [hn]
   clear hn
   go_enter Tryz.func70, Tryz.ntmps70
   go_wp2_with (go_at_call 102; refine (r17node_any p A ⟨ma, mc, mb, md⟩ _ OX.out hsz (by exact RP.ext (Agree.below Below.z) _ _ HP.out)).mono ?_; rintro e w1 ⟨rfl, hb⟩; have hB1 := hb; clear hb; obtain ⟨hc1, hf1⟩ := bcells hB1)
   go_ret2
   exact ⟨rfl, Below.z⟩
  rw [if_neg (by simp [hn])]
  have HN := Lib.hid hn
  have hn' : (nodeP p != 0) = false := by simp [hn]
  clear hn
  generalize hF : chkPs (pl + 1) (d + 1) p.a = F
  have HF := Lib.hid hF
  clear hF
  go_enter Tryz.func70, Tryz.ntmps70
  go_wp2_with (go_at_call 102; refine (r17node_any p A ⟨ma, mc, mb, md⟩ _ OX.out hsz (by exact RP.ext (Agree.below Below.z) _ _ HP.out)).mono ?_; rintro e w1 ⟨rfl, hb⟩; have hB1 := hb; clear hb; obtain ⟨hc1, hf1⟩ := bcells hB1)
  go_loopg [1, 8, 9] (p.a.length) (fun gk t1 t8 i wr => ∃ j : Nat, gk + j = p.a.length ∧ i = .int .i64 j ∧ t1 = .int .i64 (chkPs (pl + 1) (d + 1) (p.a.take j)).1 ∧ t8 = .int .i64 0 ∧ Hid ((chkPs (pl + 1) (d + 1) (p.a.take j)).2 = 0) ∧ Below w.heap.size w wr ∧ w.heap.size < wr.heap.size ∧ wr.cell? ⟨w.heap.size, 5, none⟩ = some (.slice mb p.a.length md))
  case atStart => exact ⟨0, by omega, rfl, by simp [chkPs], by rw [HN.out], by simp [chkPs, Hid], Below.z, by have := hB1.size; simp at this; omega, (hB1.cell so).trans (by go_simp)⟩
  case round =>
   obtain ⟨j, hj, rfl, rfl, rfl, HZ, hb, hz, hcell⟩ := hrel
   by_cases hlt : j < p.a.length
   ·obtain ⟨b, o, mj, rfl, hA, hbs, g0, gx⟩ := HL.out.get j hlt
    obtain ⟨k0, k1, k2, k3, k4, k5⟩ := At6.1 (g0.ext (Agree.below hb) (A := fun _ => True) trivial)
    have hs1 : b < wr.heap.size := by omega
    have hq := chkPs_place (p.a.take j) (pl + 1) (d + 1)
    have hq1 := sizePs_take p.a j
    have hq2 := sizePs_take_succ p.a j hlt
    have hq3 := sizePs_take p.a (j + 1)
    have hst := chkPs_take (pl + 1) (d + 1) p.a j hlt HZ.out
    have HST := Lib.hid hst
    clear hst g0
    generalize hQ : (chkPs (pl + 1) (d + 1) (p.a.take j)).1 = Q at *
    have HQ := Lib.hid hQ
    clear hQ
    go_wp2_with (go_at_call 70; refine (IH.out p.a[j] _ A mj Q (d + 1) (by omega) (O.out.get j hlt) (by omega) (by omega) (by omega) (by omega) (by exact RP.ext (Agree.below Below.z) _ _ gx)).mono ?_; rintro e w2 ⟨rfl, hb2⟩)
    all_goals have hbb : Below w.heap.size w w2 := hb.trans (hb2.mono (by omega))
    ·have hne : (chkP Q (d + 1) p.a[j]).2 ≠ 0 := by simpa using ‹((chkP Q (d + 1) p.a[j]).2 != 0) = true›
     go_ret2
     have h1 : chkP Q (d + 1) p.a[j] = F := by
      rw [← HF.out, ← HST.out]; exact (chkPs_stop _ _ _ _ (by rw [HST.out]; exact hne)).symm
     exact ⟨ret_ii (congrArg Prod.fst h1) (congrArg Prod.snd h1), hbb⟩
    ·have hne : (chkP Q (d + 1) p.a[j]).2 = 0 := by simpa using ‹((chkP Q (d + 1) p.a[j]).2 != 0) = false›
     go_roundg (gk - 1)
     case measure => omega
     case rel => exact ⟨j + 1, by omega, by go_num, by rw [HST.out], by rw [hne], by rw [HST.out]; exact hne, hbb, by have := hb2.size; omega, (hb2.cell (by simp; omega)).trans hcell⟩
   ·have hjl : j = p.a.length := by omega
    go_wp2_with fail
    go_ret2
    have h1 : chkPs (pl + 1) (d + 1) (p.a.take j) = F := by rw [hjl, List.take_length]; exact HF.out
    exact ⟨ret_ii (by rw [h1]) (by rw [← h1, HZ.out]), hb⟩
set_option maxRecDepth 100000 in
set_option maxHeartbeats 1000000 in
theorem r17nodes_any (N : Nat) : ∀ (p : GP) (w : World) (A : Nat → Prop) (m : PA), sizeP p ≤ N → okP p → sizeP p ≤ 1099511627776 → RP w A p m →
  Calls Tryz.prog 71 #[PV p m] w fun e w' => e = .returned (.int .i64 (nodesP p)) ∧ Below w.heap.size w w' := by
 induction N with
 | zero => intro p; have := sizeP_pos p; intros; omega
 | succ N ih =>
  rintro p w A ⟨ma, mc, mb, md⟩ hN ox hs hl
  have IH := Lib.hid ih
  have HL := Lib.hid (RP_iff.1 hl).2
  have HLV := Lib.hid (RV_iff.1 (RP_iff.1 hl).1)
  obtain ⟨⟨x1, x2⟩, ov, ⟨x3, x4⟩, x5, oa⟩ := okP_iff.1 ox
  have O := Lib.hid oa
  have OV := Lib.hid ov
  have hse := sizeP_eq p
  have hsv : sizeV p.v ≤ 1099511627776 := by omega
  have hpos := sizeV_pos p.v
  clear ih hl ox oa ov
  rw [nodesP_eq]
  obtain ⟨G, hGd⟩ : ∃ G, G = (if hasValueB p.k = true then sizeV p.v else 0) := ⟨_, rfl⟩
  rw [← hGd]
  have hGl : G ≤ sizeV p.v := by rw [hGd]; split <;> omega
  cases h3 : (p.k == 3)
  all_goals cases h4 : (p.k == 4)
  all_goals unfold hasValueB at hGd
  all_goals simp only [h3, h4, Bool.or_self, Bool.or_true, Bool.true_or, Bool.or_false, Bool.false_or, if_true, if_false, Bool.false_eq_true, reduceIte] at hGd
  all_goals have HGD := Lib.hid hGd
  all_goals clear hGd
  all_goals go_enter Tryz.func71, Tryz.ntmps71
  all_goals go_wp2_with (go_at_call 94; refine (r14size_any _ p.v _ A ⟨ma, mc⟩ (Nat.le_refl _) hsv OV.out (by exact RVs.ext (Agree.below Below.z) _ _ HLV.out)).mono ?_; rw [← HGD.out]; rintro e w1 ⟨rfl, hb1⟩; have hz1 := hb1.size; (try simp at hz1); obtain ⟨hc1, hf1⟩ := bcells hb1)
  all_goals
   go_loopg [3, 4] (p.a.length) (fun gk t3 i wr => ∃ (j n : Nat), gk + j = p.a.length ∧ i = .int .i64 j ∧ t3 = .int .i64 n ∧ Hid (n = 1 + G + nodesPs (p.a.take j)) ∧ n ≤ 1099511627776 ∧ Below w.heap.size w wr ∧ w.heap.size < wr.heap.size ∧ wr.cell? ⟨w.heap.size, 5, none⟩ = some (.slice mb p.a.length md))
   case atStart => exact ⟨0, 1 + G, by omega, rfl, by first | go_num | (have hg0 := HGD.out; subst hg0; rfl), Lib.hid (by simp [nodesPs]), by omega, Below.r, by first | (simp; done) | (simp; omega) | omega, by go_simp⟩
   case round =>
    obtain ⟨j, n, hj, rfl, rfl, HE, hn, hb, hz, hcell⟩ := hrel
    by_cases hlt : j < p.a.length
    ·obtain ⟨b, o, mj, rfl, hA, hbs, g0, gx⟩ := HL.out.get j hlt
     obtain ⟨k0, k1, k2, k3, k4, k5⟩ := At6.1 (g0.ext (Agree.below hb) (A := fun _ => True) trivial)
     have hs1 : b < wr.heap.size := by omega
     have hq1 := sizePs_get p.a j hlt
     have hq2 := nodesPs_take_succ p.a j hlt
     have hq3 := nodesPs_take_le p.a (j + 1)
     have hn2 : n + nodesP p.a[j] ≤ 1099511627776 := by have := HE.out; omega
     have hn3 := nodesP_le p.a[j]
     have HQ := Lib.hid hq2
     clear hq2 hq3 g0
     go_wp2_with (go_at_call 71; refine (IH.out p.a[j] _ A mj (by omega) (O.out.get j hlt) (by omega) (by exact RP.ext (Agree.below Below.z) _ _ gx)).mono ?_; rintro e w2 ⟨rfl, hb2⟩)
     have hbb : Below w.heap.size w w2 := hb.trans (hb2.mono (by omega))
     go_roundg (gk - 1)
     case measure => omega
     case rel => exact ⟨j + 1, n + nodesP p.a[j], by omega, by go_num, by go_num, Lib.hid (by have := HE.out; have := HQ.out; omega), hn2, hbb, by have := hb2.size; omega, (hb2.cell (by simp; omega)).trans hcell⟩
    ·have hjl : j = p.a.length := by omega
     go_wp2_with fail
     go_ret
     exact ⟨ret_int (by have := HE.out; rw [hjl, List.take_length] at this; omega), hb⟩
set_option maxRecDepth 100000 in
theorem r17checkE_any (p : GP) (w : World) (A : Nat → Prop) (m : PA) (ox : okP p) (hs : sizeP p ≤ 1099511627776) (hl : RP w A p m) :
  Calls Tryz.prog 43 #[PV p m] w fun e w' => e = .returned (.tuple #[.int .i64 (checkPE p).1, .int .i64 (checkPE p).2]) ∧ Below w.heap.size w w' := by
 obtain ⟨ma, mc, mb, md⟩ := m
 have HL := Lib.hid hl
 have OX := Lib.hid ox
 have hnl := nodesP_le p
 clear hl ox
 unfold checkPE
 by_cases h1 : (chkP 0 1 p).2 = 0
 case neg =>
  have h1' : ((chkP 0 1 p).2 != 0) = true := by simp [h1]
  rw [if_pos h1]
  clear h1
  go_enter Tryz.func43, Tryz.ntmps43
  go_wp2_with (go_at_call 70; refine (r17check_any _ p _ A ⟨ma, mc, mb, md⟩ 0 1 (Nat.le_refl _) OX.out (by omega) (by omega) (by omega) (by omega) (by exact RP.ext (Agree.below Below.z) _ _ HL.out)).mono ?_; rintro e w1 ⟨rfl, hb⟩; have hB1 := hb; clear hb; obtain ⟨hc1, hf1⟩ := bcells hB1)
  go_ret2
  exact ⟨rfl, Below.z⟩
 have h1' : ((chkP 0 1 p).2 != 0) = false := by simp [h1]
 rw [if_neg (by simp [h1])]
 clear h1
 generalize hF : (if 512 < (nodesP p : Int) then ((0 : Int), (5 : Int)) else (0, 0)) = F
 have HF := Lib.hid hF
 clear hF
 go_enter Tryz.func43, Tryz.ntmps43
 go_wp2_with (first
  | (go_at_call 70; refine (r17check_any _ p _ A ⟨ma, mc, mb, md⟩ 0 1 (Nat.le_refl _) OX.out (by omega) (by omega) (by omega) (by omega) (by exact RP.ext (Agree.below Below.z) _ _ HL.out)).mono ?_; rintro e w1 ⟨rfl, hb⟩; have hB1 := hb; clear hb; obtain ⟨hc1, hf1⟩ := bcells hB1)
  | (go_at_call 71; refine (r17nodes_any _ p _ A ⟨ma, mc, mb, md⟩ (Nat.le_refl _) OX.out hs (by exact RP.ext (Agree.below Below.z) _ _ HL.out)).mono ?_; rintro e w2 ⟨rfl, hb⟩; have hB2 := Below.trans hB1 (Below.mono hb (Below.size hB1)); clear hb; obtain ⟨hc2, hf2⟩ := bcells hB2))
 all_goals go_ret2
 all_goals refine ⟨?_, Below.z⟩
 all_goals rw [← HF.out]
 ·rw [if_pos (by assumption)]; rfl
 ·rw [if_neg (by omega)]; rfl
set_option maxRecDepth 100000 in
set_option maxHeartbeats 1000000 in
theorem r11wrong_any (l : List Int) (w : World) (A : Nat → Prop) (a : Option Addr) (cp : Nat) (hlen : l.length ≤ 1048576) (ol : okIs l) (hl : RIs w A l a) :
  Calls Tryz.prog 192 #[.slice a l.length cp] w fun e w' => e = .returned (.int .i64 (freqE l)) ∧ Below w.heap.size w w' := by
 have HL := Lib.hid hl
 have O := Lib.hid ol
 clear hl ol
 by_cases h0 : l.length = 0
 ·have hF : freqE l = 4 := by unfold freqE; rw [if_pos h0]
  have h0' : ((l.length : Int) == 0) = true := by simp [h0]
  rw [hF]
  clear hF h0
  go_enter Tryz.func192, Tryz.ntmps192
  go_wp2_with fail
  go_ret
  exact ⟨rfl, Below.r⟩
 have h0' : ((l.length : Int) == 0) = false := beq_eq_false_iff_ne.2 (by omega)
 by_cases h6 : 64 < l.length
 ·have hF : freqE l = 5 := by unfold freqE; rw [if_neg h0, if_pos h6]
  rw [hF]
  clear hF h0
  go_enter Tryz.func192, Tryz.ntmps192
  go_wp2_with fail
  go_ret
  exact ⟨rfl, Below.r⟩
 have hF : freqE l = freqLoop 0 l := by unfold freqE; rw [if_neg h0, if_neg h6]
 rw [hF]
 clear hF
 generalize hF : freqLoop 0 l = F
 have HF := Lib.hid hF
 clear hF
 clear h0
 go_enter Tryz.func192, Tryz.ntmps192
 go_wp2_with fail
 go_loopg [3, 4] (l.length) (fun gk t3 i wr => ∃ (j : Nat) (S : Int), gk + j = l.length ∧ i = .int .i64 j ∧ t3 = .int .i64 S ∧ 0 ≤ S ∧ S ≤ 1048576 * j ∧ Hid (freqLoop S (l.drop j) = F) ∧ w = wr)
 case atStart => exact ⟨0, 0, by omega, rfl, rfl, by omega, by omega, Lib.hid (by rw [List.drop_zero]; exact HF.out), rfl⟩
 case round =>
  obtain ⟨j, S, hj, rfl, rfl, hS0, hS1, HE, rfl⟩ := hrel
  by_cases hlt : j < l.length
  ·obtain ⟨b, o, rfl, hA, hbs, g0⟩ := HL.out.get j hlt
   obtain ⟨i1, i2⟩ := O.out.get j hlt
   have hst := HE.out
   rw [List.drop_eq_getElem_cons hlt, freqLoop] at hst
   by_cases hlo : l[j] < 0
   ·rw [if_pos (.inl hlo)] at hst
    have HST := Lib.hid hst
    clear hst
    go_wp2_with fail
    go_ret
    exact ⟨ret_int HST.out, Below.r⟩
   ·by_cases hhi : 1048576 < l[j]
    ·rw [if_pos (.inr hhi)] at hst
     have HST := Lib.hid hst
     clear hst
     go_wp2_with fail
     go_ret
     exact ⟨ret_int HST.out, Below.r⟩
    ·rw [if_neg (by omega)] at hst
     have HST := Lib.hid hst
     clear hst
     go_wp2_with fail
     go_roundg (gk - 1)
     case measure => omega
     case rel => exact ⟨j + 1, S + l[j], by omega, by go_num, rfl, by omega, by omega, HST, rfl⟩
  ·have hjl : j = l.length := by omega
   have hst := HE.out
   rw [hjl, List.drop_length, freqLoop] at hst
   by_cases hz : S = 0
   ·rw [if_pos hz] at hst
    have hz' : (S == 0) = true := by simp [hz]
    have HST := Lib.hid hst
    clear hst hz hjl
    go_wp2_with fail
    go_ret
    exact ⟨ret_int HST.out, Below.r⟩
   ·rw [if_neg hz] at hst
    have hz' : (S == 0) = false := by simp [hz]
    have HST := Lib.hid hst
    clear hst hz hjl
    go_wp2_with fail
    go_ret
    exact ⟨ret_int HST.out, Below.r⟩
theorem r19ends_x (t : GT) (m : TA) (w : World) (ox : okT t) (h2 : (t.k == 2) = false) (h6 : (t.k == 6) = false) (h8 : (t.k == 8) = false) (h10 : (t.k == 10) = false) :
  Calls Tryz.prog 140 #[TV t m] w fun e w' => e = .returned (.int .i64 (endsE t)) ∧ Below w.heap.size w w' := by
 obtain ⟨⟨x1, x2⟩, ov, ⟨ovl, _⟩, ⟨l1, l2⟩, ⟨l3, l4⟩, ⟨owl, _⟩, op, oal, oa⟩ := okT_iff.1 ox
 obtain ⟨ma, mb, mc, md, me, mf, mg, mh, mi, mj, mk, ml⟩ := m
 have hF : endsE t = if t.lo = 0 ∧ t.hi = 0 then 0 else 3 := by
  unfold endsE
  rw [if_neg (by simpa using h2), if_neg (by simpa using h6), if_neg (by simpa using h8), if_neg (by simpa using h10)]
 rw [hF]
 clear ox ov oa op hF
 by_cases a : t.lo = 0
 ·by_cases b : t.hi = 0
  ·rw [if_pos ⟨a, b⟩]
   have a' : (t.lo != 0) = false := by simp [a]
   have b' : (t.hi != 0) = false := by simp [b]
   clear a b
   go_enter Tryz.func140, Tryz.ntmps140
   go_wp2_with fail
   go_ret
   exact ⟨rfl, Below.r⟩
  ·rw [if_neg (fun h => b h.2)]
   have a' : (t.lo != 0) = false := by simp [a]
   have b' : (t.hi != 0) = true := by simp [b]
   clear a b
   go_enter Tryz.func140, Tryz.ntmps140
   go_wp2_with fail
   go_ret
   exact ⟨rfl, Below.r⟩
 ·rw [if_neg (fun h => a h.1)]
  have a' : (t.lo != 0) = true := by simp [a]
  clear a
  go_enter Tryz.func140, Tryz.ntmps140
  go_wp2_with fail
  go_ret
  exact ⟨rfl, Below.r⟩
set_option maxRecDepth 100000 in
set_option maxHeartbeats 4000000 in
theorem r19ends_any (t : GT) (m : TA) (w : World) (ox : okT t) :
  Calls Tryz.prog 140 #[TV t m] w fun e w' => e = .returned (.int .i64 (endsE t)) ∧ Below w.heap.size w w' := by
 by_cases hk : t.k = 2 ∨ t.k = 6 ∨ t.k = 8 ∨ t.k = 10
 case neg => exact r19ends_x t m w ox (beq_eq_false_iff_ne.2 (by omega)) (beq_eq_false_iff_ne.2 (by omega)) (beq_eq_false_iff_ne.2 (by omega)) (beq_eq_false_iff_ne.2 (by omega))
 obtain ⟨k, v, vs, lo, hi, ws, p, l⟩ := t
 obtain ⟨⟨x1, x2⟩, ov, ⟨ovl, _⟩, ⟨l1, l2⟩, ⟨l3, l4⟩, ⟨owl, _⟩, op, oal, oa⟩ := okT_iff.1 ox
 obtain ⟨ma, mb, mc, md, me, mf, mg, mh, mi, mj, mk, ml⟩ := m
 dsimp only at hk x1 x2 l1 l2 l3 l4 oal
 clear ox ov oa op ovl owl
 rcases hk with rfl | rfl | rfl | rfl
 all_goals
  generalize hF : endsE _ = F
  have HF := Lib.hid hF
  clear hF
  go_enter Tryz.func140, Tryz.ntmps140
  go_wp2_with fail
  all_goals go_ret
  all_goals refine ⟨ret_int ?_, Below.r⟩
  all_goals rw [← HF.out]
  all_goals unfold endsE withinB
  all_goals first | (simp; omega) | (simp [*]; done) | (simp_all; done) | (simp_all; omega) | (first | rfl | omega | ((try simp only [beq_iff_eq, beq_eq_false_iff_ne, bne_iff_ne, bne_eq_false_iff_eq, decide_eq_true_eq, decide_eq_false_iff_not, ne_eq, Bool.and_eq_true, Bool.or_eq_true, Bool.and_eq_false_iff, Bool.or_eq_false_iff, Bool.not_eq_true', Bool.not_eq_false'] at *); (repeat' split) <;> first | rfl | omega | contradiction | (simp_all; done) | (simp_all; omega)))
def hasE (t : GT) : Int := if valuesE t ≠ 0 then valuesE t else weightsE t
def headE (t : GT) : Int := if t.k = 1 then checkV t.v else if noneV t.v = true then 0 else 3
theorem valuesE_head (t : GT) : valuesE t = if headE t ≠ 0 then headE t else restV t := by
 unfold valuesE headE
 split
 ·rfl
 ·split
  ·simp
  ·simp
set_option maxRecDepth 100000 in
set_option maxHeartbeats 2000000 in
theorem r19has_head (t : GT) (A : Nat → Prop) (m : TA) (w : World) (ox : okT t) (hs : sizeT t ≤ 1099511627776) (hl : RT w A t m) (h : headE t ≠ 0) :
  Calls Tryz.prog 139 #[TV t m] w fun e w' => e = .returned (.int .i64 (headE t)) ∧ Below w.heap.size w w' := by
 obtain ⟨x1, ov, ⟨ovl, ovs⟩, l1, l2, ⟨owl, ow⟩, op, oal, oa⟩ := okT_iff.1 ox
 obtain ⟨v1, v2, v3, _⟩ := okV_iff.1 ov
 obtain ⟨ma, mb, mc, md, me, mf, mg, mh, mi, mj, mk, ml⟩ := m
 have HV := Lib.hid (And.intro v1 (And.intro v2 v3))
 have OV := Lib.hid ov
 have HLV := Lib.hid (RV_iff.1 (RT_iff.1 hl).1)
 have hse := sizeT_eq t
 have hsv : sizeV t.v ≤ 1099511627776 := by omega
 clear ox ov ovs ow op oa v1 v2 v3 hl hse
 by_cases hk : t.k = 1
 ·have hF : headE t = checkV t.v := by unfold headE; rw [if_pos hk]
  rw [hF] at h ⊢
  have h' : (checkV t.v != 0) = true := by simp [h]
  have hk' : (t.k == 1) = true := by simp [hk]
  clear hF h hk
  go_enter Tryz.func139, Tryz.ntmps139
  go_wp2_with (go_at_call 154; refine (r14check_any t.v _ A ⟨ma, mb⟩ OV.out hsv (by exact RVs.ext (Agree.below Below.z) _ _ HLV.out)).mono ?_; rintro e w1 ⟨rfl, hb⟩; have hB1 := hb; clear hb; obtain ⟨hc1, hf1⟩ := bcells hB1)
  go_ret
  exact ⟨rfl, Below.r⟩
 ·have hn : noneV t.v = false := by
   cases hn : noneV t.v
   ·rfl
   ·unfold headE at h; rw [if_neg hk, if_pos hn] at h; exact absurd rfl h
  have hF : headE t = 3 := by unfold headE; rw [if_neg hk, if_neg (by simp [hn])]
  rw [hF]
  have hk' : (t.k == 1) = false := by simp [hk]
  have HN := Lib.hid hn
  clear hF h hk hn
  go_enter Tryz.func139, Tryz.ntmps139
  go_wp2_with (go_at_call 190; refine (r19none_any t.v ⟨ma, mb⟩ _ HV.out).mono ?_; rw [HN.out]; rintro e w1 ⟨rfl, hb⟩; have hB1 := hb; clear hb)
  go_ret
  exact ⟨rfl, Below.r⟩
theorem wE1 {t : GT} (h : (t.k == 9) = false) (hn : nothingP t.p = false) : weightsE t = 3 := by
 unfold weightsE; rw [if_neg (by simpa using h), if_neg (by simp [hn])]
theorem wE2 {t : GT} (h : (t.k == 9) = false) (hn : nothingP t.p = true) : weightsE t = restW t := by
 unfold weightsE; rw [if_neg (by simpa using h), if_pos hn]
theorem wE3 {t : GT} (h : (t.k == 9) = true) (hn : (checkPE t.p).2 ≠ 0) : weightsE t = (checkPE t.p).2 := by
 unfold weightsE; rw [if_pos (by simpa using h), if_pos hn]
theorem wE4 {t : GT} (h : (t.k == 9) = true) (hn : (checkPE t.p).2 = 0) : weightsE t = restW t := by
 unfold weightsE; rw [if_pos (by simpa using h), if_neg (by simp [hn])]
theorem rW1 {t : GT} (h : (t.k == 3) = true ∨ (t.k == 4) = true) : restW t = freqE t.w := by
 unfold restW; rw [if_neg]
 simp at h
 omega
theorem rW2 {t : GT} (h3 : (t.k == 3) = false) (h4 : (t.k == 4) = false) (h : t.w.length = 0) : restW t = 0 := by
 simp at h3 h4
 unfold restW; rw [if_pos ⟨h3, h4⟩, if_pos (by omega)]
theorem rW3 {t : GT} (h3 : (t.k == 3) = false) (h4 : (t.k == 4) = false) (h : ¬ t.w.length = 0) : restW t = 3 := by
 simp at h3 h4
 unfold restW; rw [if_pos ⟨h3, h4⟩, if_neg (by omega)]
set_option maxRecDepth 100000 in
set_option maxHeartbeats 4000000 in
theorem r19has_rest (t : GT) (A : Nat → Prop) (m : TA) (w : World) (ox : okT t) (hs : sizeT t ≤ 1099511627776) (hl : RT w A t m) (h : headE t = 0) (h4 : t.k = 4 ∨ t.vs.length = 0) :
  Calls Tryz.prog 139 #[TV t m] w fun e w' => e = .returned (.int .i64 (if firstVs t.vs ≠ 0 then firstVs t.vs else weightsE t)) ∧ Below w.heap.size w w' := by
 obtain ⟨x1, ov, ⟨ovl, ovs⟩, l1, l2, ⟨owl, ow⟩, op, oal, oa⟩ := okT_iff.1 ox
 obtain ⟨v1, v2, v3, _⟩ := okV_iff.1 ov
 obtain ⟨ma, mb, mc, md, me, mf, mg, mh, mi, mj, mk, ml⟩ := m
 obtain ⟨r1, r2, r3, r4, r5⟩ := RT_iff.1 hl
 have HV := Lib.hid (And.intro v1 (And.intro v2 v3))
 have OV := Lib.hid ov
 have OVS := Lib.hid ovs
 have OW := Lib.hid ow
 have OP := Lib.hid op
 have HLV := Lib.hid (RV_iff.1 r1)
 have HVS := Lib.hid r2
 have HWS := Lib.hid r3
 have HPS := Lib.hid r4
 have hse := sizeT_eq t
 have hsv : sizeV t.v ≤ 1099511627776 := by omega
 have hsp : sizeP t.p ≤ 1099511627776 := by omega
 have hsvs : sizeVs t.vs ≤ 1099511627776 := by omega
 generalize hF : (if firstVs t.vs ≠ 0 then firstVs t.vs else weightsE t) = F
 have HF := Lib.hid hF
 clear hF
 have h4' : (t.k != 4) = true → (0 : Int) < (t.vs.length : Int) → False := fun a b => by
  rcases h4 with h4 | h4
  ·simp [h4] at a
  ·omega
 have H4 := Lib.hid h4
 clear ox ov ovs ow op oa v1 v2 v3 hl hse r1 r2 r3 r4 r5 h4
 have key : ∀ (b1 b4 : Bool), (t.k == 1) = b1 → (t.k != 4) = b4 → (b4 = true → decide (0 < t.vs.length) = false) →
  Calls Tryz.prog 139 #[TV t ⟨ma, mb, mc, md, me, mf, mg, mh, mi, mj, mk, ml⟩] w fun e w' => e = .returned (.int .i64 F) ∧ Below w.heap.size w w' := by
  intro b1 b4 hb1 hb4 hvl
  have hcv : b1 = true → checkV t.v = 0 := fun e => by
   subst e
   have hk : t.k = 1 := by simpa using hb1
   unfold headE at h; rw [if_pos hk] at h; exact h
  have hnv : b1 = false → noneV t.v = true := fun e => by
   subst e
   have hk : ¬ t.k = 1 := by simpa using hb1
   unfold headE at h; rw [if_neg hk] at h
   cases hn : noneV t.v
   ·rw [hn] at h; simp at h
   ·rfl
  have hb4' : b4 = false → True := fun _ => trivial
  clear h
  cases b1
  all_goals cases b4
  all_goals (try have hvd := hvl rfl)
  all_goals (try have HN := Lib.hid (hnv rfl))
  all_goals (try have HC := Lib.hid (hcv rfl))
  all_goals clear hcv hnv hvl hb4' h4'
  all_goals
   go_enter Tryz.func139, Tryz.ntmps139
   go_wp2_with (first
    | (go_at_call 190; refine (r19none_any t.v ⟨ma, mb⟩ _ HV.out).mono ?_; rw [HN.out]; rintro e w1 ⟨rfl, hbx⟩; have hB1 := hbx; clear hbx; obtain ⟨hc1, hf1⟩ := bcells hB1)
    | (go_at_call 154; refine (r14check_any t.v _ A ⟨ma, mb⟩ OV.out hsv (by exact RVs.ext (Agree.below Below.z) _ _ HLV.out)).mono ?_; rw [HC.out]; rintro e w1 ⟨rfl, hbx⟩; have hB1 := hbx; clear hbx; obtain ⟨hc1, hf1⟩ := bcells hB1))
   have hz1 := hB1.size
   simp at hz1
   have hbw1 : Below w.heap.size w w1 := Below.r
   have HB1 : Hid (At w1 w.heap.size 0 [.int .u8 t.k, .int .u8 t.v.k, .int .i64 t.v.n, .slice ma t.v.l.length mb, .slice mc t.vs.length md, .int .i64 t.lo, .int .i64 t.hi, .slice me t.w.length mf, .int .u8 t.p.k, .int .u8 t.p.v.k, .int .i64 t.p.v.n, .slice mg t.p.v.l.length mh, .int .i64 t.p.n, .slice mi t.p.a.length mj, .slice mk t.a.length ml]) := Lib.hid (At15z.2 ⟨(hB1.cell so).trans (by go_simp), (hB1.cell so).trans (by go_simp), (hB1.cell so).trans (by go_simp), (hB1.cell so).trans (by go_simp), (hB1.cell so).trans (by go_simp), (hB1.cell so).trans (by go_simp), (hB1.cell so).trans (by go_simp), (hB1.cell so).trans (by go_simp), (hB1.cell so).trans (by go_simp), (hB1.cell so).trans (by go_simp), (hB1.cell so).trans (by go_simp), (hB1.cell so).trans (by go_simp), (hB1.cell so).trans (by go_simp), (hB1.cell so).trans (by go_simp), (hB1.cell so).trans (by go_simp)⟩)
   go_loopg [4] (t.vs.length) (fun gk i wr => ∃ j : Nat, gk + j = t.vs.length ∧ i = .int .i64 j ∧ Hid (∀ q (h : q < t.vs.length), q < j → checkV t.vs[q] = 0) ∧ Below w1.heap.size w1 wr)
   case atStart => exact ⟨0, by omega, rfl, Lib.hid (fun q h hq => absurd hq (by omega)), Below.refl _ _⟩
   case round =>
    obtain ⟨j, hj, rfl, HZ, hbr⟩ := hrel
    have hzr := hbr.size
    have hbw : Below w.heap.size w wr := hbw1.trans (hbr.mono (by omega))
    have u0 : w.heap.size < wr.heap.size := by omega
    obtain ⟨c0, c1, c2, c3, c4, c5, c6, c7, c8, c9, ca, cb, cc, cd, ce⟩ := At15z.1 (At.ext (Agree.below hbr) (A := fun _ => True) trivial _ _ HB1.out)
    by_cases hlt : j < t.vs.length
    ·obtain ⟨b, o, mj', rfl, hA, hbs, g0, gx⟩ := HVS.out.get j hlt
     obtain ⟨k0, k1, k2⟩ := At3.1 (g0.ext (Agree.below hbw) (A := fun _ => True) trivial)
     have hs1 : b < wr.heap.size := by omega
     have hq1 := sizeVs_get t.vs j hlt
     clear g0
     by_cases hc : checkV t.vs[j] = 0
     ·have hc' : (checkV t.vs[j] != 0) = false := by simp [hc]
      have HCJ := Lib.hid hc
      clear hc
      go_wp2_with (go_at_call 154; refine (r14check_any t.vs[j] _ A mj' (OVS.out.get j hlt) (by omega) (by exact RVs.ext (Agree.below Below.r) _ _ (RV_iff.1 gx))).mono ?_; rintro e w2 ⟨rfl, hb2⟩)
      go_roundg (gk - 1)
      case measure => omega
      case rel => exact ⟨j + 1, by omega, by go_num, Lib.hid (fun q h hq => by
       by_cases hqj : q = j
       ·subst hqj; exact HCJ.out
       ·exact HZ.out q h (by omega)), hbr.trans (hb2.mono (by omega))⟩
     ·have hc' : (checkV t.vs[j] != 0) = true := by simp [hc]
      have hfv := firstVs_get t.vs j hlt (fun q h hq => HZ.out q h hq) hc
      have HFV := Lib.hid (show F = checkV t.vs[j] by rw [← HF.out, hfv, if_pos hc])
      clear hc hfv
      go_wp2_with (go_at_call 154; refine (r14check_any t.vs[j] _ A mj' (OVS.out.get j hlt) (by omega) (by exact RVs.ext (Agree.below Below.r) _ _ (RV_iff.1 gx))).mono ?_; rintro e w2 ⟨rfl, hb2⟩)
      go_ret
      exact ⟨ret_int HFV.out.symm, hbw.trans (hb2.mono (by omega))⟩
    ·have hFW : weightsE t = F := by
      rw [← HF.out, firstVs_zero t.vs fun q h => HZ.out q h (by omega), if_neg (by simp)]
     have HFW := Lib.hid hFW
     clear hFW
     cases k9 : (t.k == 9)
     ·cases hnp : nothingP t.p
      ·have HNP := Lib.hid hnp
       have HFF := Lib.hid ((wE1 k9 hnp).symm.trans HFW.out)
       clear hnp
       go_wp2_with (go_at_call 191; refine (r17nothing_any t.p ⟨mg, mh, mi, mj⟩ _ OP.out).mono ?_; rw [HNP.out]; rintro e w2 ⟨rfl, hb2⟩; have hz2 := hb2.size; obtain ⟨hc2, hf2⟩ := bcells hb2; have u2 : w.heap.size < w2.heap.size := (by omega))
       go_ret
       exact ⟨ret_int HFF.out, Below.r⟩
      ·have HNP := Lib.hid hnp
       have HRW := Lib.hid ((wE2 k9 hnp).symm.trans HFW.out)
       clear hnp
       cases k3 : (t.k == 3)
       ·cases k4 : (t.k == 4)
        ·by_cases hw0 : t.w.length = 0
         ·have HFF := Lib.hid ((rW2 k3 k4 hw0).symm.trans HRW.out)
          have hwd : decide (0 < t.w.length) = false := by simp [hw0]
          clear hw0
          go_wp2_with (go_at_call 191; refine (r17nothing_any t.p ⟨mg, mh, mi, mj⟩ _ OP.out).mono ?_; rw [HNP.out]; rintro e w2 ⟨rfl, hb2⟩; have hz2 := hb2.size; obtain ⟨hc2, hf2⟩ := bcells hb2; have u2 : w.heap.size < w2.heap.size := (by omega))
          go_ret
          exact ⟨ret_int HFF.out, Below.r⟩
         ·have HFF := Lib.hid ((rW3 k3 k4 hw0).symm.trans HRW.out)
          have hwd : decide (0 < t.w.length) = true := decide_eq_true (by omega)
          clear hw0
          go_wp2_with (go_at_call 191; refine (r17nothing_any t.p ⟨mg, mh, mi, mj⟩ _ OP.out).mono ?_; rw [HNP.out]; rintro e w2 ⟨rfl, hb2⟩; have hz2 := hb2.size; obtain ⟨hc2, hf2⟩ := bcells hb2; have u2 : w.heap.size < w2.heap.size := (by omega))
          go_ret
          exact ⟨ret_int HFF.out, Below.r⟩
        ·have HFF := Lib.hid ((rW1 (.inr k4)).symm.trans HRW.out)
         go_wp2_with (first | (go_at_call 191; refine (r17nothing_any t.p ⟨mg, mh, mi, mj⟩ _ OP.out).mono ?_; rw [HNP.out]; rintro e w2 ⟨rfl, hb2⟩; have hz2 := hb2.size; obtain ⟨hc2, hf2⟩ := bcells hb2; have u2 : w.heap.size < w2.heap.size := (by omega)) | (go_at_call 192; refine (r11wrong_any t.w _ A me mf owl OW.out (by exact RIs.ext (Agree.below Below.r) _ _ HWS.out)).mono ?_; rintro e w3 ⟨rfl, hb3⟩))
         go_ret
         exact ⟨ret_int HFF.out, Below.r⟩
       ·have HFF := Lib.hid ((rW1 (.inl k3)).symm.trans HRW.out)
        go_wp2_with (first | (go_at_call 191; refine (r17nothing_any t.p ⟨mg, mh, mi, mj⟩ _ OP.out).mono ?_; rw [HNP.out]; rintro e w2 ⟨rfl, hb2⟩; have hz2 := hb2.size; obtain ⟨hc2, hf2⟩ := bcells hb2; have u2 : w.heap.size < w2.heap.size := (by omega)) | (go_at_call 192; refine (r11wrong_any t.w _ A me mf owl OW.out (by exact RIs.ext (Agree.below Below.r) _ _ HWS.out)).mono ?_; rintro e w3 ⟨rfl, hb3⟩))
        go_ret
        exact ⟨ret_int HFF.out, Below.r⟩
     ·by_cases hcp : (checkPE t.p).2 = 0
      ·have hcp' : ((checkPE t.p).2 != 0) = false := by simp [hcp]
       have HRW := Lib.hid ((wE4 k9 hcp).symm.trans HFW.out)
       clear hcp
       cases k3 : (t.k == 3)
       ·cases k4 : (t.k == 4)
        ·by_cases hw0 : t.w.length = 0
         ·have HFF := Lib.hid ((rW2 k3 k4 hw0).symm.trans HRW.out)
          have hwd : decide (0 < t.w.length) = false := by simp [hw0]
          clear hw0
          go_wp2_with (go_at_call 43; refine (r17checkE_any t.p _ A ⟨mg, mh, mi, mj⟩ OP.out hsp (by exact RP.ext (Agree.below Below.r) _ _ HPS.out)).mono ?_; rintro e w2 ⟨rfl, hb2⟩; have hz2 := hb2.size; obtain ⟨hc2, hf2⟩ := bcells hb2; have u2 : w.heap.size < w2.heap.size := (by omega))
          go_ret
          exact ⟨ret_int HFF.out, Below.r⟩
         ·have HFF := Lib.hid ((rW3 k3 k4 hw0).symm.trans HRW.out)
          have hwd : decide (0 < t.w.length) = true := decide_eq_true (by omega)
          clear hw0
          go_wp2_with (go_at_call 43; refine (r17checkE_any t.p _ A ⟨mg, mh, mi, mj⟩ OP.out hsp (by exact RP.ext (Agree.below Below.r) _ _ HPS.out)).mono ?_; rintro e w2 ⟨rfl, hb2⟩; have hz2 := hb2.size; obtain ⟨hc2, hf2⟩ := bcells hb2; have u2 : w.heap.size < w2.heap.size := (by omega))
          go_ret
          exact ⟨ret_int HFF.out, Below.r⟩
        ·have HFF := Lib.hid ((rW1 (.inr k4)).symm.trans HRW.out)
         go_wp2_with (first | (go_at_call 43; refine (r17checkE_any t.p _ A ⟨mg, mh, mi, mj⟩ OP.out hsp (by exact RP.ext (Agree.below Below.r) _ _ HPS.out)).mono ?_; rintro e w2 ⟨rfl, hb2⟩; have hz2 := hb2.size; obtain ⟨hc2, hf2⟩ := bcells hb2; have u2 : w.heap.size < w2.heap.size := (by omega)) | (go_at_call 192; refine (r11wrong_any t.w _ A me mf owl OW.out (by exact RIs.ext (Agree.below Below.r) _ _ HWS.out)).mono ?_; rintro e w3 ⟨rfl, hb3⟩))
         go_ret
         exact ⟨ret_int HFF.out, Below.r⟩
       ·have HFF := Lib.hid ((rW1 (.inl k3)).symm.trans HRW.out)
        go_wp2_with (first | (go_at_call 43; refine (r17checkE_any t.p _ A ⟨mg, mh, mi, mj⟩ OP.out hsp (by exact RP.ext (Agree.below Below.r) _ _ HPS.out)).mono ?_; rintro e w2 ⟨rfl, hb2⟩; have hz2 := hb2.size; obtain ⟨hc2, hf2⟩ := bcells hb2; have u2 : w.heap.size < w2.heap.size := (by omega)) | (go_at_call 192; refine (r11wrong_any t.w _ A me mf owl OW.out (by exact RIs.ext (Agree.below Below.r) _ _ HWS.out)).mono ?_; rintro e w3 ⟨rfl, hb3⟩))
        go_ret
        exact ⟨ret_int HFF.out, Below.r⟩
      ·have hcp' : ((checkPE t.p).2 != 0) = true := by simp [hcp]
       have HFF := Lib.hid ((wE3 k9 hcp).symm.trans HFW.out)
       clear hcp
       go_wp2_with (go_at_call 43; refine (r17checkE_any t.p _ A ⟨mg, mh, mi, mj⟩ OP.out hsp (by exact RP.ext (Agree.below Below.r) _ _ HPS.out)).mono ?_; rintro e w2 ⟨rfl, hb2⟩; have hz2 := hb2.size; obtain ⟨hc2, hf2⟩ := bcells hb2; have u2 : w.heap.size < w2.heap.size := (by omega))
       go_ret
       exact ⟨ret_int HFF.out, Below.r⟩
 exact key _ _ rfl rfl fun a => decide_eq_false fun b => h4' a (by omega)
set_option maxRecDepth 100000 in
set_option maxHeartbeats 2000000 in
theorem r19has_vs (t : GT) (A : Nat → Prop) (m : TA) (w : World) (ox : okT t) (hs : sizeT t ≤ 1099511627776) (hl : RT w A t m) (h : headE t = 0) (h4 : ¬ t.k = 4) (h5 : ¬ t.vs.length = 0) :
  Calls Tryz.prog 139 #[TV t m] w fun e w' => e = .returned (.int .i64 3) ∧ Below w.heap.size w w' := by
 obtain ⟨x1, ov, ⟨ovl, ovs⟩, l1, l2, ⟨owl, ow⟩, op, oal, oa⟩ := okT_iff.1 ox
 obtain ⟨v1, v2, v3, _⟩ := okV_iff.1 ov
 obtain ⟨ma, mb, mc, md, me, mf, mg, mh, mi, mj, mk, ml⟩ := m
 have HV := Lib.hid (And.intro v1 (And.intro v2 v3))
 have OV := Lib.hid ov
 have HLV := Lib.hid (RV_iff.1 (RT_iff.1 hl).1)
 have hse := sizeT_eq t
 have hsv : sizeV t.v ≤ 1099511627776 := by omega
 have b4 : (t.k != 4) = true := by simp [h4]
 have hvd : decide (0 < t.vs.length) = true := decide_eq_true (by omega)
 clear ox ov ovs ow op oa v1 v2 v3 hl hse h4 h5
 by_cases hk : t.k = 1
 ·have hc : checkV t.v = 0 := by unfold headE at h; rw [if_pos hk] at h; exact h
  have HC := Lib.hid hc
  have hk' : (t.k == 1) = true := by simp [hk]
  clear h hk hc
  go_enter Tryz.func139, Tryz.ntmps139
  go_wp2_with (go_at_call 154; refine (r14check_any t.v _ A ⟨ma, mb⟩ OV.out hsv (by exact RVs.ext (Agree.below Below.z) _ _ HLV.out)).mono ?_; rw [HC.out]; rintro e w1 ⟨rfl, hbx⟩; have hB1 := hbx; clear hbx; obtain ⟨hc1, hf1⟩ := bcells hB1)
  go_ret
  exact ⟨rfl, Below.r⟩
 ·have hn : noneV t.v = true := by
   unfold headE at h; rw [if_neg hk] at h
   cases hn : noneV t.v
   ·rw [hn] at h; simp at h
   ·rfl
  have HN := Lib.hid hn
  have hk' : (t.k == 1) = false := by simp [hk]
  clear h hk hn
  go_enter Tryz.func139, Tryz.ntmps139
  go_wp2_with (go_at_call 190; refine (r19none_any t.v ⟨ma, mb⟩ _ HV.out).mono ?_; rw [HN.out]; rintro e w1 ⟨rfl, hbx⟩; have hB1 := hbx; clear hbx; obtain ⟨hc1, hf1⟩ := bcells hB1)
  go_ret
  exact ⟨rfl, Below.r⟩
theorem r19has_any (t : GT) (A : Nat → Prop) (m : TA) (w : World) (ox : okT t) (hs : sizeT t ≤ 1099511627776) (hl : RT w A t m) :
  Calls Tryz.prog 139 #[TV t m] w fun e w' => e = .returned (.int .i64 (hasE t)) ∧ Below w.heap.size w w' := by
 by_cases h : headE t = 0
 case neg =>
  have hF : hasE t = headE t := by unfold hasE; rw [valuesE_head, if_pos h, if_pos h]
  rw [hF]
  exact r19has_head t A m w ox hs hl h
 have hV : valuesE t = restV t := by rw [valuesE_head, if_neg (by simp [h])]
 by_cases h4 : t.k = 4
 ·have hR : restV t = firstVs t.vs := by unfold restV; rw [if_neg (by simp [h4])]
  have hF : hasE t = if firstVs t.vs ≠ 0 then firstVs t.vs else weightsE t := by unfold hasE; rw [hV, hR]
  rw [hF]
  exact r19has_rest t A m w ox hs hl h (.inl h4)
 ·by_cases h5 : t.vs.length = 0
  ·have hR : restV t = 0 := by unfold restV; rw [if_pos h4, if_pos (by omega)]
   have hn : t.vs = [] := List.eq_nil_of_length_eq_zero h5
   have hF : hasE t = if firstVs t.vs ≠ 0 then firstVs t.vs else weightsE t := by unfold hasE; rw [hV, hR, hn]; simp [firstVs]
   rw [hF]
   exact r19has_rest t A m w ox hs hl h (.inr h5)
  ·have hR : restV t = 3 := by unfold restV; rw [if_pos h4, if_neg (by omega)]
   have hF : hasE t = 3 := by unfold hasE; rw [hV, hR]; rfl
   rw [hF]
   exact r19has_vs t A m w ox hs hl h h4 h5
theorem nodeT_has (t : GT) (hk : ¬ (t.k < 1 ∨ 11 < t.k)) : nodeT t = if hasE t ≠ 0 then hasE t else if endsE t ≠ 0 then endsE t else argumentsE t := by
 unfold nodeT hasE
 rw [if_neg hk]
 by_cases h : valuesE t = 0 <;> simp [h]
theorem r19many_zero (n a b : Int) (w : World) (hn : isI64 n) (ha : isI64 a) (hb : isI64 b) (h : manyE n a b = 0) : Calls Tryz.prog 141 #[.int .i64 n, .int .i64 a, .int .i64 b] w fun e w' => e = .returned (.int .i64 0) ∧ Below w.heap.size w w' := by
 rw [← h]
 exact r19many_any n a b w hn ha hb
set_option maxRecDepth 100000 in
set_option maxHeartbeats 4000000 in
theorem r19node_xa (t : GT) (A : Nat → Prop) (m : TA) (w : World) (ox : okT t) (hs : sizeT t ≤ 1099511627776) (hl : RT w A t m) (hh : hasE t = 0) (he : endsE t = 0) (h4 : t.k = 1 ∨ t.k = 2 ∨ t.k = 3) :
  Calls Tryz.prog 93 #[TV t m] w fun e w' => e = .returned (.int .i64 (argumentsE t)) ∧ Below w.heap.size w w' := by
 obtain ⟨ma, mb, mc, md, me, mf, mg, mh, mi, mj, mk, ml⟩ := m
 obtain ⟨⟨x1, x2⟩, ov, ⟨ovl, ovs⟩, l1, l2, ⟨owl, ow⟩, op, oal, oa⟩ := okT_iff.1 ox
 have HL := Lib.hid hl
 have OX := Lib.hid ox
 have HH := Lib.hid hh
 have HE := Lib.hid he
 clear hl ox ov ovs l1 l2 ow op oa hh he
 obtain ⟨k, v, vs, lo, hi, ws, p, l⟩ := t
 dsimp only at h4 ovl owl oal x1 x2
 rcases h4 with rfl | rfl | rfl
 all_goals clear x1 x2
 all_goals
  go_enter Tryz.func93, Tryz.ntmps93
  go_wp2_with (first | (go_at_call 139; refine (r19has_any _ A ⟨ma, mb, mc, md, me, mf, mg, mh, mi, mj, mk, ml⟩ _ OX.out hs (by exact RT.ext (Agree.below Below.r) _ _ HL.out)).mono ?_; rw [HH.out]; rintro e w1 ⟨rfl, hbx⟩; have hB1 := hbx; clear hbx; obtain ⟨hc1, hf1⟩ := bcells hB1) | (go_at_call 140; refine (r19ends_any _ ⟨ma, mb, mc, md, me, mf, mg, mh, mi, mj, mk, ml⟩ _ OX.out).mono ?_; rw [HE.out]; rintro e w2 ⟨rfl, hbx⟩; have hB2 := Below.trans hB1 (Below.mono hbx (Below.size hB1)); clear hbx; obtain ⟨hc2, hf2⟩ := bcells hB2) | (go_at_call 141; refine (r19many_any _ _ _ _ ⟨by omega, by omega⟩ ⟨by omega, by omega⟩ ⟨by omega, by omega⟩).mono ?_; rintro e w3 ⟨rfl, hbx⟩; have hB3 := Below.trans hB2 (Below.mono hbx (Below.size hB2)); clear hbx; obtain ⟨hc3, hf3⟩ := bcells hB3))
  go_ret
  exact ⟨ret_int (by simp [argumentsE]), Below.r⟩
set_option maxRecDepth 100000 in
set_option maxHeartbeats 4000000 in
theorem r19node_xb (t : GT) (A : Nat → Prop) (m : TA) (w : World) (ox : okT t) (hs : sizeT t ≤ 1099511627776) (hl : RT w A t m) (hh : hasE t = 0) (he : endsE t = 0) (h4 : t.k = 5 ∨ t.k = 6 ∨ t.k = 7) :
  Calls Tryz.prog 93 #[TV t m] w fun e w' => e = .returned (.int .i64 (argumentsE t)) ∧ Below w.heap.size w w' := by
 obtain ⟨ma, mb, mc, md, me, mf, mg, mh, mi, mj, mk, ml⟩ := m
 obtain ⟨⟨x1, x2⟩, ov, ⟨ovl, ovs⟩, l1, l2, ⟨owl, ow⟩, op, oal, oa⟩ := okT_iff.1 ox
 have HL := Lib.hid hl
 have OX := Lib.hid ox
 have HH := Lib.hid hh
 have HE := Lib.hid he
 clear hl ox ov ovs l1 l2 ow op oa hh he
 obtain ⟨k, v, vs, lo, hi, ws, p, l⟩ := t
 dsimp only at h4 ovl owl oal x1 x2
 rcases h4 with rfl | rfl | rfl
 all_goals clear x1 x2
 all_goals
  go_enter Tryz.func93, Tryz.ntmps93
  go_wp2_with (first | (go_at_call 139; refine (r19has_any _ A ⟨ma, mb, mc, md, me, mf, mg, mh, mi, mj, mk, ml⟩ _ OX.out hs (by exact RT.ext (Agree.below Below.r) _ _ HL.out)).mono ?_; rw [HH.out]; rintro e w1 ⟨rfl, hbx⟩; have hB1 := hbx; clear hbx; obtain ⟨hc1, hf1⟩ := bcells hB1) | (go_at_call 140; refine (r19ends_any _ ⟨ma, mb, mc, md, me, mf, mg, mh, mi, mj, mk, ml⟩ _ OX.out).mono ?_; rw [HE.out]; rintro e w2 ⟨rfl, hbx⟩; have hB2 := Below.trans hB1 (Below.mono hbx (Below.size hB1)); clear hbx; obtain ⟨hc2, hf2⟩ := bcells hB2) | (go_at_call 141; refine (r19many_any _ _ _ _ ⟨by omega, by omega⟩ ⟨by omega, by omega⟩ ⟨by omega, by omega⟩).mono ?_; rintro e w3 ⟨rfl, hbx⟩; have hB3 := Below.trans hB2 (Below.mono hbx (Below.size hB2)); clear hbx; obtain ⟨hc3, hf3⟩ := bcells hB3))
  go_ret
  exact ⟨ret_int (by simp [argumentsE]), Below.r⟩
set_option maxRecDepth 100000 in
set_option maxHeartbeats 4000000 in
theorem r19node_xc (t : GT) (A : Nat → Prop) (m : TA) (w : World) (ox : okT t) (hs : sizeT t ≤ 1099511627776) (hl : RT w A t m) (hh : hasE t = 0) (he : endsE t = 0) (h4 : t.k = 8 ∨ t.k = 9) :
  Calls Tryz.prog 93 #[TV t m] w fun e w' => e = .returned (.int .i64 (argumentsE t)) ∧ Below w.heap.size w w' := by
 obtain ⟨ma, mb, mc, md, me, mf, mg, mh, mi, mj, mk, ml⟩ := m
 obtain ⟨⟨x1, x2⟩, ov, ⟨ovl, ovs⟩, l1, l2, ⟨owl, ow⟩, op, oal, oa⟩ := okT_iff.1 ox
 have HL := Lib.hid hl
 have OX := Lib.hid ox
 have HH := Lib.hid hh
 have HE := Lib.hid he
 clear hl ox ov ovs l1 l2 ow op oa hh he
 obtain ⟨k, v, vs, lo, hi, ws, p, l⟩ := t
 dsimp only at h4 ovl owl oal x1 x2
 rcases h4 with rfl | rfl
 all_goals clear x1 x2
 all_goals
  go_enter Tryz.func93, Tryz.ntmps93
  go_wp2_with (first | (go_at_call 139; refine (r19has_any _ A ⟨ma, mb, mc, md, me, mf, mg, mh, mi, mj, mk, ml⟩ _ OX.out hs (by exact RT.ext (Agree.below Below.r) _ _ HL.out)).mono ?_; rw [HH.out]; rintro e w1 ⟨rfl, hbx⟩; have hB1 := hbx; clear hbx; obtain ⟨hc1, hf1⟩ := bcells hB1) | (go_at_call 140; refine (r19ends_any _ ⟨ma, mb, mc, md, me, mf, mg, mh, mi, mj, mk, ml⟩ _ OX.out).mono ?_; rw [HE.out]; rintro e w2 ⟨rfl, hbx⟩; have hB2 := Below.trans hB1 (Below.mono hbx (Below.size hB1)); clear hbx; obtain ⟨hc2, hf2⟩ := bcells hB2) | (go_at_call 141; refine (r19many_any _ _ _ _ ⟨by omega, by omega⟩ ⟨by omega, by omega⟩ ⟨by omega, by omega⟩).mono ?_; rintro e w3 ⟨rfl, hbx⟩; have hB3 := Below.trans hB2 (Below.mono hbx (Below.size hB2)); clear hbx; obtain ⟨hc3, hf3⟩ := bcells hB3))
  go_ret
  exact ⟨ret_int (by simp [argumentsE]), Below.r⟩
set_option maxRecDepth 100000 in
set_option maxHeartbeats 4000000 in
theorem r19node_xd (t : GT) (A : Nat → Prop) (m : TA) (w : World) (ox : okT t) (hs : sizeT t ≤ 1099511627776) (hl : RT w A t m) (hh : hasE t = 0) (he : endsE t = 0) (h4 : t.k = 10 ∨ t.k = 11) :
  Calls Tryz.prog 93 #[TV t m] w fun e w' => e = .returned (.int .i64 (argumentsE t)) ∧ Below w.heap.size w w' := by
 obtain ⟨ma, mb, mc, md, me, mf, mg, mh, mi, mj, mk, ml⟩ := m
 obtain ⟨⟨x1, x2⟩, ov, ⟨ovl, ovs⟩, l1, l2, ⟨owl, ow⟩, op, oal, oa⟩ := okT_iff.1 ox
 have HL := Lib.hid hl
 have OX := Lib.hid ox
 have HH := Lib.hid hh
 have HE := Lib.hid he
 clear hl ox ov ovs l1 l2 ow op oa hh he
 obtain ⟨k, v, vs, lo, hi, ws, p, l⟩ := t
 dsimp only at h4 ovl owl oal x1 x2
 rcases h4 with rfl | rfl
 all_goals clear x1 x2
 all_goals
  go_enter Tryz.func93, Tryz.ntmps93
  go_wp2_with (first | (go_at_call 139; refine (r19has_any _ A ⟨ma, mb, mc, md, me, mf, mg, mh, mi, mj, mk, ml⟩ _ OX.out hs (by exact RT.ext (Agree.below Below.r) _ _ HL.out)).mono ?_; rw [HH.out]; rintro e w1 ⟨rfl, hbx⟩; have hB1 := hbx; clear hbx; obtain ⟨hc1, hf1⟩ := bcells hB1) | (go_at_call 140; refine (r19ends_any _ ⟨ma, mb, mc, md, me, mf, mg, mh, mi, mj, mk, ml⟩ _ OX.out).mono ?_; rw [HE.out]; rintro e w2 ⟨rfl, hbx⟩; have hB2 := Below.trans hB1 (Below.mono hbx (Below.size hB1)); clear hbx; obtain ⟨hc2, hf2⟩ := bcells hB2) | (go_at_call 141; refine (r19many_any _ _ _ _ ⟨by omega, by omega⟩ ⟨by omega, by omega⟩ ⟨by omega, by omega⟩).mono ?_; rintro e w3 ⟨rfl, hbx⟩; have hB3 := Below.trans hB2 (Below.mono hbx (Below.size hB2)); clear hbx; obtain ⟨hc3, hf3⟩ := bcells hB3))
  go_ret
  exact ⟨ret_int (by simp [argumentsE]), Below.r⟩
set_option maxRecDepth 100000 in
set_option maxHeartbeats 4000000 in
theorem r19node_4 (t : GT) (A : Nat → Prop) (m : TA) (w : World) (ox : okT t) (hs : sizeT t ≤ 1099511627776) (hl : RT w A t m) (hh : hasE t = 0) (he : endsE t = 0) (h4 : t.k = 4) :
  Calls Tryz.prog 93 #[TV t m] w fun e w' => e = .returned (.int .i64 (argumentsE t)) ∧ Below w.heap.size w w' := by
 obtain ⟨ma, mb, mc, md, me, mf, mg, mh, mi, mj, mk, ml⟩ := m
 obtain ⟨⟨x1, x2⟩, ov, ⟨ovl, ovs⟩, l1, l2, ⟨owl, ow⟩, op, oal, oa⟩ := okT_iff.1 ox
 have HL := Lib.hid hl
 have OX := Lib.hid ox
 have HH := Lib.hid hh
 have HE := Lib.hid he
 clear hl ox ov ovs l1 l2 ow op oa hh he
 obtain ⟨k, v, vs, lo, hi, ws, p, l⟩ := t
 dsimp only at h4 ovl owl oal x1 x2
 have ma1 : isI64 ((l.length : Nat) : Int) := ⟨by omega, by omega⟩
 have ma2 : isI64 ((ws.length : Nat) : Int) := ⟨by omega, by omega⟩
 have ma3 : isI64 ((vs.length : Nat) : Int) := ⟨by omega, by omega⟩
 have MA1 := Lib.hid ma1
 have MA2 := Lib.hid ma2
 have MA3 := Lib.hid ma3
 clear ma1 ma2 ma3
 clear MA1 MA2 MA3
 subst h4
 clear x1 x2
 by_cases hM0 : manyE (vs.length : Int) (ws.length : Int) (ws.length : Int) = 0
 ·have hF : argumentsE ⟨4, v, vs, lo, hi, ws, p, l⟩ = manyE (l.length : Int) 0 0 := by simp [argumentsE, hM0]
  rw [hF]
  have hm2 : (manyE (vs.length : Int) (ws.length : Int) (ws.length : Int) != 0) = false := by simp [hM0]
  have hm3 : (manyE (vs.length : Int) (ws.length : Int) (ws.length : Int) == 0) = true := by simp [hM0]
  clear hM0 hF
  go_enter Tryz.func93, Tryz.ntmps93
  go_wp2_with (first | (go_at_call 139; refine (r19has_any _ A ⟨ma, mb, mc, md, me, mf, mg, mh, mi, mj, mk, ml⟩ _ OX.out hs (by exact RT.ext (Agree.below Below.r) _ _ HL.out)).mono ?_; rw [HH.out]; rintro e w1 ⟨rfl, hbx⟩; have hB1 := hbx; clear hbx; obtain ⟨hc1, hf1⟩ := bcells hB1) | (go_at_call 140; refine (r19ends_any _ ⟨ma, mb, mc, md, me, mf, mg, mh, mi, mj, mk, ml⟩ _ OX.out).mono ?_; rw [HE.out]; rintro e w2 ⟨rfl, hbx⟩; have hB2 := Below.trans hB1 (Below.mono hbx (Below.size hB1)); clear hbx; obtain ⟨hc2, hf2⟩ := bcells hB2) | (go_at_call 141; refine (r19many_any _ _ _ _ ⟨by omega, by omega⟩ ⟨by omega, by omega⟩ ⟨by omega, by omega⟩).mono ?_; rintro e w3 ⟨rfl, hbx⟩; first | (have hB4 := Below.trans hB3 (Below.mono hbx (Below.size hB3)); clear hbx; obtain ⟨hc4, hf4⟩ := bcells hB4) | (have hB3 := Below.trans hB2 (Below.mono hbx (Below.size hB2)); clear hbx; obtain ⟨hc3, hf3⟩ := bcells hB3)))
  go_ret
  exact ⟨ret_int rfl, Below.r⟩
 ·have hF : argumentsE ⟨4, v, vs, lo, hi, ws, p, l⟩ = manyE (vs.length : Int) (ws.length : Int) (ws.length : Int) := by simp [argumentsE, hM0]
  rw [hF]
  have hm2 : (manyE (vs.length : Int) (ws.length : Int) (ws.length : Int) != 0) = true := by simp [hM0]
  clear hM0 hF
  go_enter Tryz.func93, Tryz.ntmps93
  go_wp2_with (first | (go_at_call 139; refine (r19has_any _ A ⟨ma, mb, mc, md, me, mf, mg, mh, mi, mj, mk, ml⟩ _ OX.out hs (by exact RT.ext (Agree.below Below.r) _ _ HL.out)).mono ?_; rw [HH.out]; rintro e w1 ⟨rfl, hbx⟩; have hB1 := hbx; clear hbx; obtain ⟨hc1, hf1⟩ := bcells hB1) | (go_at_call 140; refine (r19ends_any _ ⟨ma, mb, mc, md, me, mf, mg, mh, mi, mj, mk, ml⟩ _ OX.out).mono ?_; rw [HE.out]; rintro e w2 ⟨rfl, hbx⟩; have hB2 := Below.trans hB1 (Below.mono hbx (Below.size hB1)); clear hbx; obtain ⟨hc2, hf2⟩ := bcells hB2) | (go_at_call 141; refine (r19many_any _ _ _ _ ⟨by omega, by omega⟩ ⟨by omega, by omega⟩ ⟨by omega, by omega⟩).mono ?_; rintro e w3 ⟨rfl, hbx⟩; have hB3 := Below.trans hB2 (Below.mono hbx (Below.size hB2)); clear hbx; obtain ⟨hc3, hf3⟩ := bcells hB3))
  go_ret
  exact ⟨ret_int rfl, Below.r⟩
set_option maxRecDepth 100000 in
set_option maxHeartbeats 4000000 in
theorem r19node_any (t : GT) (A : Nat → Prop) (m : TA) (w : World) (ox : okT t) (hs : sizeT t ≤ 1099511627776) (hl : RT w A t m) :
  Calls Tryz.prog 93 #[TV t m] w fun e w' => e = .returned (.int .i64 (nodeT t)) ∧ Below w.heap.size w w' := by
 obtain ⟨ma, mb, mc, md, me, mf, mg, mh, mi, mj, mk, ml⟩ := m
 obtain ⟨⟨x1, x2⟩, ov, ⟨ovl, ovs⟩, l1, l2, ⟨owl, ow⟩, op, oal, oa⟩ := okT_iff.1 ox
 have HL := Lib.hid hl
 have OX := Lib.hid ox
 clear hl ox ov ovs l1 l2 ow op oa
 by_cases hk : t.k < 1 ∨ 11 < t.k
 ·have hF : nodeT t = 11 := by unfold nodeT; rw [if_pos hk]
  rw [hF]
  clear hF
  rcases hk with hk | hk
  all_goals go_enter Tryz.func93, Tryz.ntmps93
  all_goals go_wp2_with fail
  all_goals go_ret
  all_goals exact ⟨rfl, Below.r⟩
 rw [nodeT_has t hk]
 have hk1 : 1 ≤ t.k := by omega
 have hk2 : t.k ≤ 11 := by omega
 clear hk
 by_cases hh : hasE t = 0
 case neg =>
  rw [if_pos hh]
  have h1 : (hasE t == 0) = false := by simp [hh]
  have h2 : (hasE t != 0) = true := by simp [hh]
  clear hh
  go_enter Tryz.func93, Tryz.ntmps93
  go_wp2_with (go_at_call 139; refine (r19has_any t A ⟨ma, mb, mc, md, me, mf, mg, mh, mi, mj, mk, ml⟩ _ OX.out hs (by exact RT.ext (Agree.below Below.z) _ _ HL.out)).mono ?_; rintro e w1 ⟨rfl, hb⟩; have hB1 := hb; clear hb; obtain ⟨hc1, hf1⟩ := bcells hB1)
  go_ret
  exact ⟨rfl, Below.r⟩
 rw [if_neg (by simp [hh])]
 have hh0 := hh
 have HH := Lib.hid hh
 clear hh
 by_cases he : endsE t = 0
 case neg =>
  rw [if_pos he]
  have h1 : (endsE t == 0) = false := by simp [he]
  have h2 : (endsE t != 0) = true := by simp [he]
  clear he
  go_enter Tryz.func93, Tryz.ntmps93
  go_wp2_with (first
   | (go_at_call 139; refine (r19has_any t A ⟨ma, mb, mc, md, me, mf, mg, mh, mi, mj, mk, ml⟩ _ OX.out hs (by exact RT.ext (Agree.below Below.z) _ _ HL.out)).mono ?_; rw [HH.out]; rintro e w1 ⟨rfl, hbx⟩; have hB1 := hbx; clear hbx; obtain ⟨hc1, hf1⟩ := bcells hB1)
   | (go_at_call 140; refine (r19ends_any t ⟨ma, mb, mc, md, me, mf, mg, mh, mi, mj, mk, ml⟩ _ OX.out).mono ?_; rintro e w2 ⟨rfl, hb⟩; have hB2 := Below.trans hB1 (Below.mono hb (Below.size hB1)); clear hb; obtain ⟨hc2, hf2⟩ := bcells hB2))
  go_ret
  exact ⟨rfl, Below.r⟩
 rw [if_neg (by simp [he])]
 by_cases h4 : t.k = 4
 ·exact r19node_4 t A _ w OX.out hs HL.out hh0 he h4
 ·rcases (by omega : (t.k = 1 ∨ t.k = 2 ∨ t.k = 3) ∨ (t.k = 5 ∨ t.k = 6 ∨ t.k = 7) ∨ (t.k = 8 ∨ t.k = 9) ∨ (t.k = 10 ∨ t.k = 11)) with h | h | h | h
  ·exact r19node_xa t A _ w OX.out hs HL.out hh0 he h
  ·exact r19node_xb t A _ w OX.out hs HL.out hh0 he h
  ·exact r19node_xc t A _ w OX.out hs HL.out hh0 he h
  ·exact r19node_xd t A _ w OX.out hs HL.out hh0 he h
end Go.Proofs.YtojjdneicmbfjaaGreatDoor
