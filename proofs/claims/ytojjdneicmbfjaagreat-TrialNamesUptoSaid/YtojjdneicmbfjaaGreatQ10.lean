/- What the proofs of the Trial statements need: part 11. -/
import Derived.Test.YtojjdneicmbfjaaGreatQ4
set_option linter.unusedVariables false
set_option linter.unusedSimpArgs false
namespace Go.Proofs.YtojjdneicmbfjaaGreat
open Go Go.RowKit
set_option maxRecDepth 100000 in
set_option maxHeartbeats 2000000 in
theorem nodesT_n (N : Nat) (ih : NodesIH N) (t : GT) (w : World) (A : Nat → Prop) (m : TA) (hN : sizeT t ≤ N + 1) (ox : okT t) (hs : sizeT t ≤ 1099511627776) (hl : RT w A t m) (h1 : ¬ t.k = 1) (h9 : ¬ t.k = 9) (h4 : ¬ t.k = 4) :
  Calls Tryz.prog 61 #[TV t m] w fun e w' => e = .returned (.int .i64 (nodesT t)) ∧ Below w.heap.size w w' := by
 obtain ⟨ma, mb, mc, md, me, mf, mg, mh, mi, mj, mk, ml⟩ := m
 have IH := Lib.hid ih
 obtain ⟨h1, h2, _, h4, h5⟩ := RT_iff.1 hl
 have HL := Lib.hid h5
 have HV := Lib.hid (RV_iff.1 h1)
 have HVS := Lib.hid h2
 have HP := Lib.hid h4
 obtain ⟨⟨x1, x2⟩, ov, ⟨ovl, ovs⟩, ⟨l1, l2⟩, ⟨l3, l4⟩, ⟨owl, ow⟩, op, oal, oa⟩ := okT_iff.1 ox
 have O := Lib.hid oa
 have OV := Lib.hid ov
 have OVS := Lib.hid ovs
 have OP := Lib.hid op
 have hse := sizeT_eq t
 have hsv := sizeV_pos t.v
 have hsp := sizeP_pos t.p
 have hnp := nodesP_le t.p
 have hsv2 : sizeV t.v ≤ 1099511627776 := by omega
 have hsp2 : sizeP t.p ≤ 1099511627776 := by omega
 clear ih hl ox oa ov ovs ow op h1 h2 h4 h5
 rw [nodesT_eq]
 have h1' : (t.k == 1) = false := by simp [h1]
 have h9' : (t.k == 9) = false := by simp [h9]
 have hG : ownN t = 0 := by rw [ownN, if_neg h1, if_neg h4, if_neg h9]
 rw [hG]
 have h4' : (t.k == 4) = false := by simp [h4]
 clear hG h1 h9 h4
 go_enter Tryz.func61, Tryz.ntmps61
 go_wp2_with fail
 go_loopg [3, 41] (t.a.length) (fun gk t3 i wr => ∃ j : Nat, gk + j = t.a.length ∧ i = .int .i64 j ∧ t3 = .int .i64 ((1 + 0 + nodesTs (t.a.take j) : Nat) : Int) ∧ Below w.heap.size w wr ∧ w.heap.size < wr.heap.size)
 case atStart => exact ⟨0, by omega, rfl, by simp [nodesTs], Below.z, by simp⟩
 case round =>
  obtain ⟨j, hj, rfl, rfl, hb, hz⟩ := hrel
  by_cases hlt : j < t.a.length
  ·obtain ⟨b, o, mj', rfl, hA, hbs, g0, gx⟩ := HL.out.get j hlt
   obtain ⟨k0, k1, k2, k3, k4, k5, k6, k7, k8, k9, ka, kb, kc, kd, ke⟩ := At15.1 (g0.ext (Agree.below hb) (A := fun _ => True) trivial)
   have hs1 : b < wr.heap.size := by omega
   have hq1 := sizeTs_get t.a j hlt
   have hq2 := nodesTs_take_succ t.a j hlt
   have hq3 := nodesTs_take_le t.a j
   have hq4 := nodesT_le t.a[j]
   have HQ := Lib.hid hq2
   clear hq2 g0
   go_wp2_with (go_at_call 61; refine (IH.out t.a[j] _ A mj' (by omega) (O.out.get j hlt) (by omega) (by exact RT.ext (Agree.below Below.z) _ _ gx)).mono ?_; rintro e w2 ⟨rfl, hb2⟩)
   have hbb : Below w.heap.size w w2 := (hb.alloc (by omega) _).trans (hb2.mono (by simp; omega))
   go_roundg (gk - 1)
   case measure => omega
   case rel => exact ⟨j + 1, by omega, by go_num, by rw [HQ.out]; go_num, hbb, by have := hb2.size; simp at this; omega⟩
  ·have hjl : j = t.a.length := by omega
   go_wp2_with fail
   go_ret
   exact ⟨ret_int (by rw [hjl, List.take_length]), hb⟩
theorem nodesT_any (N : Nat) : NodesIH N := by
 induction N with
 | zero => intro t; have := sizeT_pos t; intros; omega
 | succ N ih =>
  intro t w A m hN ox hs hl
  by_cases h1 : t.k = 1
  ·exact nodesT_1 N ih t w A m hN ox hs hl h1
  by_cases h9 : t.k = 9
  ·exact nodesT_9 N ih t w A m hN ox hs hl h1 h9
  by_cases h4 : t.k = 4
  ·exact nodesT_4 N ih t w A m hN ox hs hl h1 h9 h4
  ·exact nodesT_n N ih t w A m hN ox hs hl h1 h9 h4
end Go.Proofs.YtojjdneicmbfjaaGreat
