/- What the proofs of the Trial statements need: part 32. -/
import Derived.Test.YtojjdneicmbfjaaGreatQ13
import Derived.Test.YtojjdneicmbfjaaGreatQ24
set_option linter.unusedVariables false
set_option linter.unusedSimpArgs false
namespace Go.Proofs.YtojjdneicmbfjaaGreat
open Go Go.RowKit
set_option maxRecDepth 100000 in
set_option maxHeartbeats 2000000 in
theorem sam_sized0 (c : Nat) (s : ByteArray) (S f : Nat) (ih : SamIH c s S f) (t : GT) (e : Env) (i : Nat) (w : World) (x : TA) (a : Option Addr) (hg : goodT (!e.isEmpty) t) (h10 : t.k = 10) (ox : okT t) (hs : sizeT t ≤ S) (he : envOk S e) (hi : i ≤ s.size)
  (hwk : ∀ y, t.a[0]? = some y → ∃ k n, wkT f y e k n ≠ none) (hc : Cur w c s i false) (hr : RT w (fun b => b ≠ c) t x) (hv : REnv w (fun b => b ≠ c) e a) :
  Calls Tryz.prog 106 #[.agg #[.pointer (some ⟨c, 0, none⟩)], TV t x, .int .i64 0, .pointer a] w (SamR c s (atD (fun y => sampT s f y e) t.a 0 i) w) := by
 obtain ⟨ma, mb, mc, md, me, mf, mg, mh, mi, mj, mk, ml⟩ := x
 have IH := Lib.hid ih
 have HL := Lib.hid (RT_iff.1 hr).2.2.2.2
 have HV := Lib.hid hv
 have HE := Lib.hid he
 have HC := Lib.hid hc
 have hcs : c < w.heap.size := World.block_lt_of_cell? _ _ hc.1.1
 obtain ⟨⟨x1, x2⟩, ov, ⟨ovl, ovs⟩, ⟨l1, l2⟩, ⟨l3, l4⟩, ⟨owl, ow⟩, op, oal, oa⟩ := okT_iff.1 ox
 have O := Lib.hid oa
 obtain ⟨hnd, _, hgs⟩ := goodT_eq.1 hg
 have HGS := Lib.hid hgs
 obtain ⟨ha, _, _⟩ := node_sized hnd h10
 have hal : 0 < t.a.length := by omega
 have hse := sizeT_eq t
 have h0 : t.a[0]? = some t.a[0] := List.getElem?_eq_getElem (by omega)
 have HWK := Lib.hid (hwk _ h0)
 have hat : atD (fun y => sampT s f y e) t.a 0 i = sampT s f t.a[0] e i := by unfold atD; rw [h0]
 rw [hat]
 have hq1 := sizeTs_get t.a 0 (by omega)
 have hgx : goodT (!e.isEmpty) t.a[0] := by have h := HGS.out.get 0 (by omega); simpa [stepB] using h
 have HGX := Lib.hid hgx
 obtain ⟨b, o, mj', hja, hA, hbs, g0, gx⟩ := HL.out.get 0 (by omega)
 subst hja
 obtain ⟨j0, j1, j2, j3, j4, j5, j6, j7, j8, j9, ja, jb, jc, jd, je⟩ := At15.1 (show At w b o _ by simpa using g0)
 have hbc : ¬ b = c := hA
 have hbs1 : b < w.heap.size + 1 := by omega
 have hbs2 : b < w.heap.size + 1 + 1 := by omega
 clear ih hr hv he hg ox oa ov ovs ow op hnd hgs hwk hc h0 hat hgx g0 ha h10
 rcases hW : sampT s f t.a[0] e i with ⟨v, q⟩ | ⟨k⟩
 ·have HW := Lib.hid hW
  clear hW
  go_enter Tryz.func106, Tryz.ntmps106
  go_wp2_with fail
  refine wp_tail 6 (by kernel_rfl) (by kernel_rfl) ?_
  simp only [List.take_succ_cons, List.take_zero, List.drop_succ_cons, List.drop_zero]
  repeat still_step
  refine wpStill_nil ?_
  go_wp2_with (go_at_call 65; refine (IH.out t.a[0] e i _ mj' a HGX.out (O.out.get 0 (by omega)) (by omega) HE.out hi HWK.out (by exact Cur.below (B := w.heap.size) Below.z hcs HC.out) (by exact RT.ext (Agree.but But.z) _ _ gx) (by exact REnv.ext (Agree.but But.z) _ _ HV.out)).mono ?_; rw [HW.out]; (rintro e1 w2 ⟨hb2, ⟨m2, rfl, hrv⟩, hc2⟩; have HRV := Lib.hid hrv; have HC2 := Lib.hid hc2; clear hrv hc2; have hz2 := hb2.size; (try simp at hz2); have hbb : But c w.heap.size w w2 := But.z; have rq0 : w2.cell? ⟨w.heap.size + 1 + 1, 0, none⟩ = some (.int .u8 0) := (hb2.cell so (by simp; omega)).trans (by go_simp); have rq1 : w2.cell? ⟨w.heap.size + 1 + 1, 1, none⟩ = some (.int .i64 0) := (hb2.cell so (by simp; omega)).trans (by go_simp); have rq2 : w2.cell? ⟨w.heap.size + 1 + 1, 2, none⟩ = some (.slice none 0 0) := (hb2.cell so (by simp; omega)).trans (by go_simp); have rf0 : w2.frozen? ⟨w.heap.size + 1 + 1, 0, none⟩ = false := (hb2.frozen so (by simp; omega)).trans (by go_simp); have rf1 : w2.frozen? ⟨w.heap.size + 1 + 1, 1, none⟩ = false := (hb2.frozen so (by simp; omega)).trans (by go_simp); have rf2 : w2.frozen? ⟨w.heap.size + 1 + 1, 2, none⟩ = false := (hb2.frozen so (by simp; omega)).trans (by go_simp); have hz3 : w.heap.size + 1 + 1 < w2.heap.size := (by omega)))
  refine bodyPost_ret (v := VV v m2) (by first | (simp [results, Tryz.f106, go_sem]; done) | (simp [results, Tryz.f106, go_sem, rq0, rq1, rq2, rf0, rf1, rf2, hz3]; done)) rfl ?_
  exact ⟨But.z, ⟨m2, rfl, RV.mono (fun b hb _ => by (try simp at hb); omega) _ _ (RV.ext (((Agree.set so).trans (Agree.set so)).trans (Agree.set so)) _ _ HRV.out)⟩, Cur.below (B := w.heap.size) Below.z hcs HC2.out⟩
 ·have HW := Lib.hid hW
  clear hW
  go_enter Tryz.func106, Tryz.ntmps106
  go_wp2_with fail
  refine wp_tail 6 (by kernel_rfl) (by kernel_rfl) ?_
  simp only [List.take_succ_cons, List.take_zero, List.drop_succ_cons, List.drop_zero]
  repeat still_step
  refine wpStill_nil ?_
  go_wp2_with (go_at_call 65; refine (IH.out t.a[0] e i _ mj' a HGX.out (O.out.get 0 (by omega)) (by omega) HE.out hi HWK.out (by exact Cur.below (B := w.heap.size) Below.z hcs HC.out) (by exact RT.ext (Agree.but But.z) _ _ gx) (by exact REnv.ext (Agree.but But.z) _ _ HV.out)).mono ?_; rw [HW.out]; rintro e1 w2 ⟨hb2, rfl⟩)
  exact ⟨rfl, But.z, rfl⟩
end Go.Proofs.YtojjdneicmbfjaaGreat
