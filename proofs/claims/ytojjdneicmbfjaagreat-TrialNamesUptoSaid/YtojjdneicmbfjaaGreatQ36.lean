/- What the proofs of the Trial statements need: part 37. -/
import Derived.Deep.RegionHeld2
import Derived.Test.YtojjdneicmbfjaaGreatQ28
import Derived.Test.YtojjdneicmbfjaaGreatQ35
import Derived.Test.YtojjdneicmbfjaaGreatQTk
set_option linter.unusedVariables false
set_option linter.unusedSimpArgs false
namespace Go.Proofs.YtojjdneicmbfjaaGreat
open Go Go.RowKit
theorem poolDraw_at (s : ByteArray) (k n i c : Nat) (K : Int) (hK : K = k) (w : World) (hb : isBits s = true) (hi : i ≤ s.size) (hk : k ≤ n) (hn : n ≤ 64) (hc : Cur w c s i false) :
  Calls Tryz.prog 104 #[.pointer (some ⟨c, 0, none⟩), .int .i64 K, .int .i64 n] w (rowR c s (poolP s k n i) w) := by
 subst hK
 exact poolDraw_any s k n i c w hb hi hk hn hc
set_option maxRecDepth 100000 in
set_option maxHeartbeats 40000000 in
theorem sam_8 (c : Nat) (s : ByteArray) (S f : Nat) (hS : S ≤ 1099511627776) (ih : SamIH c s S f) (t : GT) (e : Env) (i : Nat) (w : World) (x : TA) (a : Option Addr) (hb : isBits s = true) (hg : goodT (!e.isEmpty) t) (ox : okT t) (hs : sizeT t ≤ S) (he : envOk S e) (hi : i ≤ s.size) (hwk : ∃ k n, wkT (f + 1) t e k n ≠ none) (hk : t.k = 8) (hc : Cur w c s i false) (hr : RT w (fun b => b ≠ c) t x) (hv : REnv w (fun b => b ≠ c) e a) :
  Calls Tryz.prog 65 #[.agg #[.pointer (some ⟨c, 0, none⟩)], TV t x, .pointer a] w (SamR c s (sampT s (f + 1) t e i) w) := by
 rw [sampT_8 _ _ _ _ _ hk]
 have hargs := sam_argsOk hg ox hs (by omega) hwk
 obtain ⟨ma, mb, mc, md, me, mf, mg, mh, mi, mj, mk, ml⟩ := x
 have hcs : c < w.heap.size := World.block_lt_of_cell? _ _ hc.1.1
 have HC := Lib.hid hc
 have HB := Lib.hid hb
 obtain ⟨hrv1, hrv2, hrv3, hrv4, hrv5⟩ := RT_iff.1 hr
 have HR := Lib.hid hr
 have H1 := Lib.hid hrv1
 have H2 := Lib.hid hrv2
 have H3 := Lib.hid hrv3
 have H4 := Lib.hid hrv4
 have HL := Lib.hid hrv5
 obtain ⟨⟨x1, x2⟩, ov, ⟨ovl, ovs⟩, ⟨l1, l2⟩, ⟨l3, l4⟩, ⟨owl, ow⟩, op, oal, oa⟩ := okT_iff.1 ox
 have OX := Lib.hid ox
 have OV := Lib.hid ov
 have OVS := Lib.hid ovs
 have OW := Lib.hid ow
 have OP := Lib.hid op
 have O := Lib.hid oa
 have HND := Lib.hid (goodT_eq.1 hg).1
 have hse := sizeT_eq t
 dsimp only at H1 H2 H3 H4 HL
 have h64 := node_args HND.out (.inr (.inr hk))
 obtain ⟨hp0, hp1⟩ := node_pick HND.out hk
 obtain ⟨kk, hkk⟩ : ∃ kk : Nat, t.lo = (kk : Int) := ⟨t.lo.toNat, by omega⟩
 have hkn : t.lo.toNat = kk := by omega
 have hkl : kk ≤ t.a.length := by omega
 rw [hkn]
 have HKK := Lib.hid hkk
 have HV := Lib.hid hv
 obtain ⟨c1, c2', c3⟩ := poolP_in s kk t.a.length i hi hkl
 have HP3 := Lib.hid c3
 have HX := Lib.hid (fun (row : List Int) (hrow : (pickL t.a row).length ≤ 64) (W : World) (al : Option Addr) (cp : Nat) h1 h2 h3 => samAll_any c s S f hS ih HB.out (pickL t.a row) e (poolP s kk t.a.length i).2 W a al cp hrow (fun x hx => hargs x (pickL_mem hx)) he c2' h1 h2 h3)
 have hk1 : (t.k == 1) = false := by simp [hk]
 have hk2 : (t.k == 2) = false := by simp [hk]
 have hk3 : (t.k == 3) = false := by simp [hk]
 have hk4 : (t.k == 4) = false := by simp [hk]
 have hk5 : (t.k == 5) = false := by simp [hk]
 have hk6 : (t.k == 6) = false := by simp [hk]
 have hk7 : (t.k == 7) = false := by simp [hk]
 have hk8 : (t.k == 8) = true := by simp [hk]
 clear hg ox hr hc hb hrv1 hrv2 hrv3 hrv4 hrv5 ov ovs ow op oa hk hargs hv he ih hwk c1 c2' c3 hkk hkn hp0 hp1
 rcases hP : poolP s kk t.a.length i with ⟨_ | row, j⟩
 ·have HP := Lib.hid hP
  clear hP
  simp only [needR, Res.bind]
  go_enter Tryz.func65, Tryz.ntmps65
  go_wp2_with fail
  refine wp_region_held_drew (S := (fun W => W.cell? ⟨w.heap.size, 0, none⟩ = some (.pointer (some ⟨c, 0, none⟩)) ∧ W.cell? ⟨w.heap.size + 1, 5, none⟩ = some (.int .i64 t.lo) ∧ W.cell? ⟨w.heap.size + 1, 14, none⟩ = some (.slice mk t.a.length ml))) (by kernel_rfl) ?_ (fun hHeld => ?_)
  ·((try dsimp only); (refine ⟨?_, ?_, ?_⟩ <;> go_simp))
  refine tkh 0 (v := ?_) rfl (.inl ⟨by rfl, ?_⟩) ?_
  rotate_left
  ·((intro w hSw; (try dsimp only at hSw); go_simp) <;> with_reducible rfl)
  try simp only [Act.put, List.setIfInBounds_toArray, List.set_cons_zero, List.set_cons_succ]
  refine tkh 1 (v := ?_) rfl (.inl ⟨by rfl, ?_⟩) ?_
  rotate_left
  ·((intro w hSw; (try dsimp only at hSw); go_simp) <;> with_reducible rfl)
  try simp only [Act.put, List.setIfInBounds_toArray, List.set_cons_zero, List.set_cons_succ]
  refine tkh 2 (v := ?_) rfl (.inl ⟨by rfl, ?_⟩) ?_
  rotate_left
  ·((intro w hSw; (try dsimp only at hSw); go_simp) <;> with_reducible rfl)
  try simp only [Act.put, List.setIfInBounds_toArray, List.set_cons_zero, List.set_cons_succ]
  refine tkh 3 (v := ?_) rfl (.inl ⟨by rfl, ?_⟩) ?_
  rotate_left
  ·((intro w hSw; (try dsimp only at hSw); go_simp) <;> with_reducible rfl)
  try simp only [Act.put, List.setIfInBounds_toArray, List.set_cons_zero, List.set_cons_succ]
  refine tkh 4 (v := ?_) rfl (.inl ⟨by rfl, ?_⟩) ?_
  rotate_left
  ·((intro w hSw; (try dsimp only at hSw); go_simp) <;> with_reducible rfl)
  try simp only [Act.put, List.setIfInBounds_toArray, List.set_cons_zero, List.set_cons_succ]
  refine tkh 5 (v := ?_) rfl (.inl ⟨by rfl, ?_⟩) ?_
  rotate_left
  ·((intro w hSw; (try dsimp only at hSw); go_simp) <;> with_reducible rfl)
  try simp only [Act.put, List.setIfInBounds_toArray, List.set_cons_zero, List.set_cons_succ]
  refine tkh 6 (v := ?_) rfl (.inl ⟨by rfl, ?_⟩) ?_
  rotate_left
  ·((intro w hSw; (try dsimp only at hSw); go_simp) <;> with_reducible rfl)
  try simp only [Act.put, List.setIfInBounds_toArray, List.set_cons_zero, List.set_cons_succ]
  refine tkh 7 (v := ?_) rfl (.inl ⟨by rfl, ?_⟩) ?_
  rotate_left
  ·((intro w hSw; (try dsimp only at hSw); go_simp) <;> with_reducible rfl)
  try simp only [Act.put, List.setIfInBounds_toArray, List.set_cons_zero, List.set_cons_succ]
  refine tkh 8 (v := ?_) rfl (.inl ⟨by rfl, ?_⟩) ?_
  rotate_left
  ·((intro w hSw; (try dsimp only at hSw); go_simp) <;> with_reducible rfl)
  try simp only [Act.put, List.setIfInBounds_toArray, List.set_cons_zero, List.set_cons_succ]
  refine tkh 9 (v := ?_) rfl (.inl ⟨by rfl, ?_⟩) ?_
  rotate_left
  ·((intro w hSw; (try dsimp only at hSw); go_simp) <;> with_reducible rfl)
  try simp only [Act.put, List.setIfInBounds_toArray, List.set_cons_zero, List.set_cons_succ]
  refine tkh 15 (v := ?_) rfl (.inl ⟨by rfl, ?_⟩) ?_
  rotate_left
  ·((intro w hSw; (try dsimp only at hSw); go_simp) <;> with_reducible rfl)
  try simp only [Act.put, List.setIfInBounds_toArray, List.set_cons_zero, List.set_cons_succ]
  refine wpAnyH_ready (rs := [10]) (by kernel_rfl) (by simp) ?_
  refine AllReadyH.cons rfl (fun K hK => ?_) ?_
  ·go_simp
   go_wp2_with (first | (go_at_call 104; refine (poolDraw_at s kk t.a.length i c _ HKK.out _ HB.out hi hkl h64 (by exact Cur.below (B := w.heap.size) Below.z hcs HC.out)).mono ?_; rw [HP.out]; rintro e1 w3 ⟨hb3, rfl, hc3⟩; have hz3' := hb3.size; (try simp at hz3'); have u3a : w3.cell? ⟨w.heap.size, 0, none⟩ = some (.pointer (some ⟨c, 0, none⟩)) := (hb3.cell so so).trans (by go_simp); have u3b : w3.cell? ⟨w.heap.size + 1, 5, none⟩ = some (.int .i64 t.lo) := (hb3.cell so so).trans (by go_simp); have u3c : w3.cell? ⟨w.heap.size + 1, 14, none⟩ = some (.slice mk t.a.length ml) := (hb3.cell so so).trans (by go_simp)) | (go_at_call 101; refine (needS_no _ _ _ _).mono ?_; rintro e1 w4 ⟨rfl, hb4⟩))
   refine hK.out _ _ ?_ (fun hHeld => ?_)
   ·((try dsimp only); (refine ⟨?_, ?_, ?_⟩ <;> go_simp))
   clear hK K
   refine tkh 11 (v := ?_) rfl (.inl ⟨by rfl, ?_⟩) ?_
   rotate_left
   ·((intro w hSw; (try dsimp only at hSw); go_simp) <;> with_reducible rfl)
   try simp only [Act.put, List.setIfInBounds_toArray, List.set_cons_zero, List.set_cons_succ]
   refine tkh 12 (v := ?_) rfl (.inl ⟨by rfl, ?_⟩) ?_
   rotate_left
   ·((intro w hSw; (try dsimp only at hSw); go_simp) <;> with_reducible rfl)
   try simp only [Act.put, List.setIfInBounds_toArray, List.set_cons_zero, List.set_cons_succ]
   refine wpAnyH_ready (rs := [13]) (by kernel_rfl) (by simp) ?_
   refine AllReadyH.cons rfl (fun K hK => ?_) ?_
   ·go_simp
    go_wp2_with (first | (go_at_call 104; refine (poolDraw_at s kk t.a.length i c _ HKK.out _ HB.out hi hkl h64 (by exact Cur.below (B := w.heap.size) Below.z hcs HC.out)).mono ?_; rw [HP.out]; rintro e1 w3 ⟨hb3, rfl, hc3⟩; have hz3' := hb3.size; (try simp at hz3'); have u3a : w3.cell? ⟨w.heap.size, 0, none⟩ = some (.pointer (some ⟨c, 0, none⟩)) := (hb3.cell so so).trans (by go_simp); have u3b : w3.cell? ⟨w.heap.size + 1, 5, none⟩ = some (.int .i64 t.lo) := (hb3.cell so so).trans (by go_simp); have u3c : w3.cell? ⟨w.heap.size + 1, 14, none⟩ = some (.slice mk t.a.length ml) := (hb3.cell so so).trans (by go_simp)) | (go_at_call 101; refine (needS_no _ _ _ _).mono ?_; rintro e1 w4 ⟨rfl, hb4⟩))
    exact ⟨rfl, But.z, rfl⟩
   exact AllReadyH.nil
  exact AllReadyH.nil
 ·obtain ⟨hr1, hr2⟩ := HP3.out row (by rw [hP])
  have hr64 : row.length ≤ 64 := by omega
  have hpl : (pickL t.a row).length ≤ 64 := by rw [pickL_length _ _ hr2]; omega
  have HRW := Lib.hid hr2
  have HXX := Lib.hid (HX.out row hpl)
  rw [hP] at HXX
  have HP := Lib.hid hP
  clear hP hr1 hr2 HX
  simp only [needR, Res.bind]
  dsimp only at HXX
  rcases hW : allD (fun x => sampT s f x e) (pickL t.a row) j with ⟨l, q⟩ | ⟨k⟩
  ·have HW := Lib.hid hW
   clear hW
   simp only [Res.map]
   go_enter Tryz.func65, Tryz.ntmps65
   go_wp2_with fail
   refine wp_region_held_drew (S := (fun W => W.cell? ⟨w.heap.size, 0, none⟩ = some (.pointer (some ⟨c, 0, none⟩)) ∧ W.cell? ⟨w.heap.size + 1, 5, none⟩ = some (.int .i64 t.lo) ∧ W.cell? ⟨w.heap.size + 1, 14, none⟩ = some (.slice mk t.a.length ml))) (by kernel_rfl) ?_ (fun hHeld => ?_)
   ·((try dsimp only); (refine ⟨?_, ?_, ?_⟩ <;> go_simp))
   refine tkh 0 (v := ?_) rfl (.inl ⟨by rfl, ?_⟩) ?_
   rotate_left
   ·((intro w hSw; (try dsimp only at hSw); go_simp) <;> with_reducible rfl)
   try simp only [Act.put, List.setIfInBounds_toArray, List.set_cons_zero, List.set_cons_succ]
   refine tkh 1 (v := ?_) rfl (.inl ⟨by rfl, ?_⟩) ?_
   rotate_left
   ·((intro w hSw; (try dsimp only at hSw); go_simp) <;> with_reducible rfl)
   try simp only [Act.put, List.setIfInBounds_toArray, List.set_cons_zero, List.set_cons_succ]
   refine tkh 2 (v := ?_) rfl (.inl ⟨by rfl, ?_⟩) ?_
   rotate_left
   ·((intro w hSw; (try dsimp only at hSw); go_simp) <;> with_reducible rfl)
   try simp only [Act.put, List.setIfInBounds_toArray, List.set_cons_zero, List.set_cons_succ]
   refine tkh 3 (v := ?_) rfl (.inl ⟨by rfl, ?_⟩) ?_
   rotate_left
   ·((intro w hSw; (try dsimp only at hSw); go_simp) <;> with_reducible rfl)
   try simp only [Act.put, List.setIfInBounds_toArray, List.set_cons_zero, List.set_cons_succ]
   refine tkh 4 (v := ?_) rfl (.inl ⟨by rfl, ?_⟩) ?_
   rotate_left
   ·((intro w hSw; (try dsimp only at hSw); go_simp) <;> with_reducible rfl)
   try simp only [Act.put, List.setIfInBounds_toArray, List.set_cons_zero, List.set_cons_succ]
   refine tkh 5 (v := ?_) rfl (.inl ⟨by rfl, ?_⟩) ?_
   rotate_left
   ·((intro w hSw; (try dsimp only at hSw); go_simp) <;> with_reducible rfl)
   try simp only [Act.put, List.setIfInBounds_toArray, List.set_cons_zero, List.set_cons_succ]
   refine tkh 6 (v := ?_) rfl (.inl ⟨by rfl, ?_⟩) ?_
   rotate_left
   ·((intro w hSw; (try dsimp only at hSw); go_simp) <;> with_reducible rfl)
   try simp only [Act.put, List.setIfInBounds_toArray, List.set_cons_zero, List.set_cons_succ]
   refine tkh 7 (v := ?_) rfl (.inl ⟨by rfl, ?_⟩) ?_
   rotate_left
   ·((intro w hSw; (try dsimp only at hSw); go_simp) <;> with_reducible rfl)
   try simp only [Act.put, List.setIfInBounds_toArray, List.set_cons_zero, List.set_cons_succ]
   refine tkh 8 (v := ?_) rfl (.inl ⟨by rfl, ?_⟩) ?_
   rotate_left
   ·((intro w hSw; (try dsimp only at hSw); go_simp) <;> with_reducible rfl)
   try simp only [Act.put, List.setIfInBounds_toArray, List.set_cons_zero, List.set_cons_succ]
   refine tkh 9 (v := ?_) rfl (.inl ⟨by rfl, ?_⟩) ?_
   rotate_left
   ·((intro w hSw; (try dsimp only at hSw); go_simp) <;> with_reducible rfl)
   try simp only [Act.put, List.setIfInBounds_toArray, List.set_cons_zero, List.set_cons_succ]
   refine tkh 15 (v := ?_) rfl (.inl ⟨by rfl, ?_⟩) ?_
   rotate_left
   ·((intro w hSw; (try dsimp only at hSw); go_simp) <;> with_reducible rfl)
   try simp only [Act.put, List.setIfInBounds_toArray, List.set_cons_zero, List.set_cons_succ]
   refine wpAnyH_ready (rs := [10]) (by kernel_rfl) (by simp) ?_
   refine AllReadyH.cons rfl (fun K hK => ?_) ?_
   ·go_simp
    go_wp2_with (first | (go_at_call 104; refine (poolDraw_at s kk t.a.length i c _ HKK.out _ HB.out hi hkl h64 (by exact Cur.below (B := w.heap.size) Below.z hcs HC.out)).mono ?_; rw [HP.out]; rintro e1 w3 ⟨hb3, ⟨a3, c3, rfl, hri⟩, hc3⟩; have HRI := Lib.hid hri; have HC3 := Lib.hid hc3; clear hri hc3; have hz3' := hb3.size; (try simp at hz3'); have hbb3 : But c w.heap.size w w3 := But.z; have u3a : w3.cell? ⟨w.heap.size, 0, none⟩ = some (.pointer (some ⟨c, 0, none⟩)) := (hb3.cell so so).trans (by go_simp); have u3b : w3.cell? ⟨w.heap.size + 1, 5, none⟩ = some (.int .i64 t.lo) := (hb3.cell so so).trans (by go_simp); have u3c : w3.cell? ⟨w.heap.size + 1, 14, none⟩ = some (.slice mk t.a.length ml) := (hb3.cell so so).trans (by go_simp)) | (go_at_call 101; refine (needS_any _ _ _ _).mono ?_; rintro e1 w5 ⟨rfl, rfl⟩) | (go_at_call 103; refine (pickedT_any t.a row (fun b => b ≠ c) _ _ mk a3 ml c3 (by omega) hr64 HRW.out (by exact RTs.ext (Agree.but hbb3) _ _ HL.out) (by exact HRI.out)).mono ?_; rintro e1 w6 ⟨hb6, a6, c6, rfl, hrp⟩; have HRP := Lib.hid hrp; clear hrp; have hz6 := hb6.size; have hbb6 : But c w.heap.size w w6 := hbb3.trans (But.of (hb6.mono (by omega))); have u6a : w6.cell? ⟨w.heap.size, 0, none⟩ = some (.pointer (some ⟨c, 0, none⟩)) := (hb6.cell so).trans (by go_simp); have u6b : w6.cell? ⟨w.heap.size + 1, 5, none⟩ = some (.int .i64 t.lo) := (hb6.cell so).trans (by go_simp); have u6c : w6.cell? ⟨w.heap.size + 1, 14, none⟩ = some (.slice mk t.a.length ml) := (hb6.cell so).trans (by go_simp)) | (go_at_call 98; refine (HXX.out _ _ _ (by exact Cur.below hb6 (by omega) HC3.out) (by exact RTs.mono (fun b hb _ => (by rcases hb with h | h; exact h; omega)) _ _ HRP.out) (by exact REnv.ext (Agree.but hbb6) _ _ HV.out)).mono ?_; rw [HW.out]; rintro e1 w7 ⟨hb7, ⟨a7, c7, rfl, hrv⟩, hc7⟩; have HRV := Lib.hid hrv; have HC7 := Lib.hid hc7; clear hrv hc7; have hz7 := hb7.size; have u7a : w7.cell? ⟨w.heap.size, 0, none⟩ = some (.pointer (some ⟨c, 0, none⟩)) := (hb7.cell so so).trans (by go_simp); have u7b : w7.cell? ⟨w.heap.size + 1, 5, none⟩ = some (.int .i64 t.lo) := (hb7.cell so so).trans (by go_simp); have u7c : w7.cell? ⟨w.heap.size + 1, 14, none⟩ = some (.slice mk t.a.length ml) := (hb7.cell so so).trans (by go_simp)) | (go_at_call 99; refine (list_any _ _ _ _).mono ?_; rintro e1 w2 ⟨rfl, hb2'⟩; have hb2 := hb2'; have hbb2 := hb3.trans ((But.of (c := c) (hb6.mono hb3.size)).trans ((hb7.mono (Nat.le_trans hb3.size hb6.size)).trans (But.of (hb2'.mono (Nat.le_trans hb3.size (Nat.le_trans hb6.size hb7.size)))))); have hz2' := hb2.size; have hz2 := hb2.size; (try simp at hz2); have hbb : But c w.heap.size w w2 := But.z; have rq0 : w2.cell? ⟨w.heap.size + 1 + 1, 0, none⟩ = some (.int .u8 0) := (hbb2.cell so so).trans (by go_simp); have rq1 : w2.cell? ⟨w.heap.size + 1 + 1, 1, none⟩ = some (.int .i64 0) := (hbb2.cell so so).trans (by go_simp); have rq2 : w2.cell? ⟨w.heap.size + 1 + 1, 2, none⟩ = some (.slice none 0 0) := (hbb2.cell so so).trans (by go_simp); have rf0 : w2.frozen? ⟨w.heap.size + 1 + 1, 0, none⟩ = false := (hbb2.frozen so so).trans (by go_simp); have rf1 : w2.frozen? ⟨w.heap.size + 1 + 1, 1, none⟩ = false := (hbb2.frozen so so).trans (by go_simp); have rf2 : w2.frozen? ⟨w.heap.size + 1 + 1, 2, none⟩ = false := (hbb2.frozen so so).trans (by go_simp); have hz3 : w.heap.size + 1 + 1 < w2.heap.size := (by omega); have HC2 := Lib.hid (Cur.below hb2 (by omega) HC7.out); have u2a : w2.cell? ⟨w.heap.size, 0, none⟩ = some (.pointer (some ⟨c, 0, none⟩)) := (hb2.cell so).trans (by go_simp); have u2b : w2.cell? ⟨w.heap.size + 1, 5, none⟩ = some (.int .i64 t.lo) := (hb2.cell so).trans (by go_simp); have u2c : w2.cell? ⟨w.heap.size + 1, 14, none⟩ = some (.slice mk t.a.length ml) := (hb2.cell so).trans (by go_simp)))
    refine hK.out _ _ ?_ (fun hHeld => ?_)
    ·((try dsimp only); (refine ⟨?_, ?_, ?_⟩ <;> go_simp))
    clear hK K
    refine tkh 11 (v := ?_) rfl (.inl ⟨by rfl, ?_⟩) ?_
    rotate_left
    ·((intro w hSw; (try dsimp only at hSw); go_simp) <;> with_reducible rfl)
    try simp only [Act.put, List.setIfInBounds_toArray, List.set_cons_zero, List.set_cons_succ]
    refine tkh 12 (v := ?_) rfl (.inl ⟨by rfl, ?_⟩) ?_
    rotate_left
    ·((intro w hSw; (try dsimp only at hSw); go_simp) <;> with_reducible rfl)
    try simp only [Act.put, List.setIfInBounds_toArray, List.set_cons_zero, List.set_cons_succ]
    refine wpAnyH_ready (rs := [13]) (by kernel_rfl) (by simp) ?_
    refine AllReadyH.cons rfl (fun K hK => ?_) ?_
    ·go_simp
     go_wp2_with (first | (go_at_call 104; refine (poolDraw_at s kk t.a.length i c _ HKK.out _ HB.out hi hkl h64 (by exact Cur.below (B := w.heap.size) Below.z hcs HC.out)).mono ?_; rw [HP.out]; rintro e1 w3 ⟨hb3, ⟨a3, c3, rfl, hri⟩, hc3⟩; have HRI := Lib.hid hri; have HC3 := Lib.hid hc3; clear hri hc3; have hz3' := hb3.size; (try simp at hz3'); have hbb3 : But c w.heap.size w w3 := But.z; have u3a : w3.cell? ⟨w.heap.size, 0, none⟩ = some (.pointer (some ⟨c, 0, none⟩)) := (hb3.cell so so).trans (by go_simp); have u3b : w3.cell? ⟨w.heap.size + 1, 5, none⟩ = some (.int .i64 t.lo) := (hb3.cell so so).trans (by go_simp); have u3c : w3.cell? ⟨w.heap.size + 1, 14, none⟩ = some (.slice mk t.a.length ml) := (hb3.cell so so).trans (by go_simp)) | (go_at_call 101; refine (needS_any _ _ _ _).mono ?_; rintro e1 w5 ⟨rfl, rfl⟩) | (go_at_call 103; refine (pickedT_any t.a row (fun b => b ≠ c) _ _ mk a3 ml c3 (by omega) hr64 HRW.out (by exact RTs.ext (Agree.but hbb3) _ _ HL.out) (by exact HRI.out)).mono ?_; rintro e1 w6 ⟨hb6, a6, c6, rfl, hrp⟩; have HRP := Lib.hid hrp; clear hrp; have hz6 := hb6.size; have hbb6 : But c w.heap.size w w6 := hbb3.trans (But.of (hb6.mono (by omega))); have u6a : w6.cell? ⟨w.heap.size, 0, none⟩ = some (.pointer (some ⟨c, 0, none⟩)) := (hb6.cell so).trans (by go_simp); have u6b : w6.cell? ⟨w.heap.size + 1, 5, none⟩ = some (.int .i64 t.lo) := (hb6.cell so).trans (by go_simp); have u6c : w6.cell? ⟨w.heap.size + 1, 14, none⟩ = some (.slice mk t.a.length ml) := (hb6.cell so).trans (by go_simp)) | (go_at_call 98; refine (HXX.out _ _ _ (by exact Cur.below hb6 (by omega) HC3.out) (by exact RTs.mono (fun b hb _ => (by rcases hb with h | h; exact h; omega)) _ _ HRP.out) (by exact REnv.ext (Agree.but hbb6) _ _ HV.out)).mono ?_; rw [HW.out]; rintro e1 w7 ⟨hb7, ⟨a7, c7, rfl, hrv⟩, hc7⟩; have HRV := Lib.hid hrv; have HC7 := Lib.hid hc7; clear hrv hc7; have hz7 := hb7.size; have u7a : w7.cell? ⟨w.heap.size, 0, none⟩ = some (.pointer (some ⟨c, 0, none⟩)) := (hb7.cell so so).trans (by go_simp); have u7b : w7.cell? ⟨w.heap.size + 1, 5, none⟩ = some (.int .i64 t.lo) := (hb7.cell so so).trans (by go_simp); have u7c : w7.cell? ⟨w.heap.size + 1, 14, none⟩ = some (.slice mk t.a.length ml) := (hb7.cell so so).trans (by go_simp)) | (go_at_call 99; refine (list_any _ _ _ _).mono ?_; rintro e1 w2 ⟨rfl, hb2'⟩; have hb2 := hb2'; have hbb2 := hb3.trans ((But.of (c := c) (hb6.mono hb3.size)).trans ((hb7.mono (Nat.le_trans hb3.size hb6.size)).trans (But.of (hb2'.mono (Nat.le_trans hb3.size (Nat.le_trans hb6.size hb7.size)))))); have hz2' := hb2.size; have hz2 := hb2.size; (try simp at hz2); have hbb : But c w.heap.size w w2 := But.z; have rq0 : w2.cell? ⟨w.heap.size + 1 + 1, 0, none⟩ = some (.int .u8 0) := (hbb2.cell so so).trans (by go_simp); have rq1 : w2.cell? ⟨w.heap.size + 1 + 1, 1, none⟩ = some (.int .i64 0) := (hbb2.cell so so).trans (by go_simp); have rq2 : w2.cell? ⟨w.heap.size + 1 + 1, 2, none⟩ = some (.slice none 0 0) := (hbb2.cell so so).trans (by go_simp); have rf0 : w2.frozen? ⟨w.heap.size + 1 + 1, 0, none⟩ = false := (hbb2.frozen so so).trans (by go_simp); have rf1 : w2.frozen? ⟨w.heap.size + 1 + 1, 1, none⟩ = false := (hbb2.frozen so so).trans (by go_simp); have rf2 : w2.frozen? ⟨w.heap.size + 1 + 1, 2, none⟩ = false := (hbb2.frozen so so).trans (by go_simp); have hz3 : w.heap.size + 1 + 1 < w2.heap.size := (by omega); have HC2 := Lib.hid (Cur.below hb2 (by omega) HC7.out); have u2a : w2.cell? ⟨w.heap.size, 0, none⟩ = some (.pointer (some ⟨c, 0, none⟩)) := (hb2.cell so).trans (by go_simp); have u2b : w2.cell? ⟨w.heap.size + 1, 5, none⟩ = some (.int .i64 t.lo) := (hb2.cell so).trans (by go_simp); have u2c : w2.cell? ⟨w.heap.size + 1, 14, none⟩ = some (.slice mk t.a.length ml) := (hb2.cell so).trans (by go_simp)))
     refine hK.out _ _ ?_ (fun hHeld => ?_)
     ·((try dsimp only); (refine ⟨?_, ?_, ?_⟩ <;> go_simp))
     clear hK K
     refine wpAnyH_ready (rs := [14]) (by kernel_rfl) (by simp) ?_
     refine AllReadyH.cons rfl (fun K hK => ?_) ?_
     ·go_simp
      go_wp2_with (first | (go_at_call 104; refine (poolDraw_at s kk t.a.length i c _ HKK.out _ HB.out hi hkl h64 (by exact Cur.below (B := w.heap.size) Below.z hcs HC.out)).mono ?_; rw [HP.out]; rintro e1 w3 ⟨hb3, ⟨a3, c3, rfl, hri⟩, hc3⟩; have HRI := Lib.hid hri; have HC3 := Lib.hid hc3; clear hri hc3; have hz3' := hb3.size; (try simp at hz3'); have hbb3 : But c w.heap.size w w3 := But.z; have u3a : w3.cell? ⟨w.heap.size, 0, none⟩ = some (.pointer (some ⟨c, 0, none⟩)) := (hb3.cell so so).trans (by go_simp); have u3b : w3.cell? ⟨w.heap.size + 1, 5, none⟩ = some (.int .i64 t.lo) := (hb3.cell so so).trans (by go_simp); have u3c : w3.cell? ⟨w.heap.size + 1, 14, none⟩ = some (.slice mk t.a.length ml) := (hb3.cell so so).trans (by go_simp)) | (go_at_call 101; refine (needS_any _ _ _ _).mono ?_; rintro e1 w5 ⟨rfl, rfl⟩) | (go_at_call 103; refine (pickedT_any t.a row (fun b => b ≠ c) _ _ mk a3 ml c3 (by omega) hr64 HRW.out (by exact RTs.ext (Agree.but hbb3) _ _ HL.out) (by exact HRI.out)).mono ?_; rintro e1 w6 ⟨hb6, a6, c6, rfl, hrp⟩; have HRP := Lib.hid hrp; clear hrp; have hz6 := hb6.size; have hbb6 : But c w.heap.size w w6 := hbb3.trans (But.of (hb6.mono (by omega))); have u6a : w6.cell? ⟨w.heap.size, 0, none⟩ = some (.pointer (some ⟨c, 0, none⟩)) := (hb6.cell so).trans (by go_simp); have u6b : w6.cell? ⟨w.heap.size + 1, 5, none⟩ = some (.int .i64 t.lo) := (hb6.cell so).trans (by go_simp); have u6c : w6.cell? ⟨w.heap.size + 1, 14, none⟩ = some (.slice mk t.a.length ml) := (hb6.cell so).trans (by go_simp)) | (go_at_call 98; refine (HXX.out _ _ _ (by exact Cur.below hb6 (by omega) HC3.out) (by exact RTs.mono (fun b hb _ => (by rcases hb with h | h; exact h; omega)) _ _ HRP.out) (by exact REnv.ext (Agree.but hbb6) _ _ HV.out)).mono ?_; rw [HW.out]; rintro e1 w7 ⟨hb7, ⟨a7, c7, rfl, hrv⟩, hc7⟩; have HRV := Lib.hid hrv; have HC7 := Lib.hid hc7; clear hrv hc7; have hz7 := hb7.size; have u7a : w7.cell? ⟨w.heap.size, 0, none⟩ = some (.pointer (some ⟨c, 0, none⟩)) := (hb7.cell so so).trans (by go_simp); have u7b : w7.cell? ⟨w.heap.size + 1, 5, none⟩ = some (.int .i64 t.lo) := (hb7.cell so so).trans (by go_simp); have u7c : w7.cell? ⟨w.heap.size + 1, 14, none⟩ = some (.slice mk t.a.length ml) := (hb7.cell so so).trans (by go_simp)) | (go_at_call 99; refine (list_any _ _ _ _).mono ?_; rintro e1 w2 ⟨rfl, hb2'⟩; have hb2 := hb2'; have hbb2 := hb3.trans ((But.of (c := c) (hb6.mono hb3.size)).trans ((hb7.mono (Nat.le_trans hb3.size hb6.size)).trans (But.of (hb2'.mono (Nat.le_trans hb3.size (Nat.le_trans hb6.size hb7.size)))))); have hz2' := hb2.size; have hz2 := hb2.size; (try simp at hz2); have hbb : But c w.heap.size w w2 := But.z; have rq0 : w2.cell? ⟨w.heap.size + 1 + 1, 0, none⟩ = some (.int .u8 0) := (hbb2.cell so so).trans (by go_simp); have rq1 : w2.cell? ⟨w.heap.size + 1 + 1, 1, none⟩ = some (.int .i64 0) := (hbb2.cell so so).trans (by go_simp); have rq2 : w2.cell? ⟨w.heap.size + 1 + 1, 2, none⟩ = some (.slice none 0 0) := (hbb2.cell so so).trans (by go_simp); have rf0 : w2.frozen? ⟨w.heap.size + 1 + 1, 0, none⟩ = false := (hbb2.frozen so so).trans (by go_simp); have rf1 : w2.frozen? ⟨w.heap.size + 1 + 1, 1, none⟩ = false := (hbb2.frozen so so).trans (by go_simp); have rf2 : w2.frozen? ⟨w.heap.size + 1 + 1, 2, none⟩ = false := (hbb2.frozen so so).trans (by go_simp); have hz3 : w.heap.size + 1 + 1 < w2.heap.size := (by omega); have HC2 := Lib.hid (Cur.below hb2 (by omega) HC7.out); have u2a : w2.cell? ⟨w.heap.size, 0, none⟩ = some (.pointer (some ⟨c, 0, none⟩)) := (hb2.cell so).trans (by go_simp); have u2b : w2.cell? ⟨w.heap.size + 1, 5, none⟩ = some (.int .i64 t.lo) := (hb2.cell so).trans (by go_simp); have u2c : w2.cell? ⟨w.heap.size + 1, 14, none⟩ = some (.slice mk t.a.length ml) := (hb2.cell so).trans (by go_simp)))
      refine hK.out _ _ ?_ (fun hHeld => ?_)
      ·((try dsimp only); (refine ⟨?_, ?_, ?_⟩ <;> go_simp))
      clear hK K
      refine wpAnyH_ready (rs := [16]) (by kernel_rfl) (by simp) ?_
      refine AllReadyH.cons rfl (fun K hK => ?_) ?_
      ·go_simp
       go_wp2_with (first | (go_at_call 104; refine (poolDraw_at s kk t.a.length i c _ HKK.out _ HB.out hi hkl h64 (by exact Cur.below (B := w.heap.size) Below.z hcs HC.out)).mono ?_; rw [HP.out]; rintro e1 w3 ⟨hb3, ⟨a3, c3, rfl, hri⟩, hc3⟩; have HRI := Lib.hid hri; have HC3 := Lib.hid hc3; clear hri hc3; have hz3' := hb3.size; (try simp at hz3'); have hbb3 : But c w.heap.size w w3 := But.z; have u3a : w3.cell? ⟨w.heap.size, 0, none⟩ = some (.pointer (some ⟨c, 0, none⟩)) := (hb3.cell so so).trans (by go_simp); have u3b : w3.cell? ⟨w.heap.size + 1, 5, none⟩ = some (.int .i64 t.lo) := (hb3.cell so so).trans (by go_simp); have u3c : w3.cell? ⟨w.heap.size + 1, 14, none⟩ = some (.slice mk t.a.length ml) := (hb3.cell so so).trans (by go_simp)) | (go_at_call 101; refine (needS_any _ _ _ _).mono ?_; rintro e1 w5 ⟨rfl, rfl⟩) | (go_at_call 103; refine (pickedT_any t.a row (fun b => b ≠ c) _ _ mk a3 ml c3 (by omega) hr64 HRW.out (by exact RTs.ext (Agree.but hbb3) _ _ HL.out) (by exact HRI.out)).mono ?_; rintro e1 w6 ⟨hb6, a6, c6, rfl, hrp⟩; have HRP := Lib.hid hrp; clear hrp; have hz6 := hb6.size; have hbb6 : But c w.heap.size w w6 := hbb3.trans (But.of (hb6.mono (by omega))); have u6a : w6.cell? ⟨w.heap.size, 0, none⟩ = some (.pointer (some ⟨c, 0, none⟩)) := (hb6.cell so).trans (by go_simp); have u6b : w6.cell? ⟨w.heap.size + 1, 5, none⟩ = some (.int .i64 t.lo) := (hb6.cell so).trans (by go_simp); have u6c : w6.cell? ⟨w.heap.size + 1, 14, none⟩ = some (.slice mk t.a.length ml) := (hb6.cell so).trans (by go_simp)) | (go_at_call 98; refine (HXX.out _ _ _ (by exact Cur.below hb6 (by omega) HC3.out) (by exact RTs.mono (fun b hb _ => (by rcases hb with h | h; exact h; omega)) _ _ HRP.out) (by exact REnv.ext (Agree.but hbb6) _ _ HV.out)).mono ?_; rw [HW.out]; rintro e1 w7 ⟨hb7, ⟨a7, c7, rfl, hrv⟩, hc7⟩; have HRV := Lib.hid hrv; have HC7 := Lib.hid hc7; clear hrv hc7; have hz7 := hb7.size; have u7a : w7.cell? ⟨w.heap.size, 0, none⟩ = some (.pointer (some ⟨c, 0, none⟩)) := (hb7.cell so so).trans (by go_simp); have u7b : w7.cell? ⟨w.heap.size + 1, 5, none⟩ = some (.int .i64 t.lo) := (hb7.cell so so).trans (by go_simp); have u7c : w7.cell? ⟨w.heap.size + 1, 14, none⟩ = some (.slice mk t.a.length ml) := (hb7.cell so so).trans (by go_simp)) | (go_at_call 99; refine (list_any _ _ _ _).mono ?_; rintro e1 w2 ⟨rfl, hb2'⟩; have hb2 := hb2'; have hbb2 := hb3.trans ((But.of (c := c) (hb6.mono hb3.size)).trans ((hb7.mono (Nat.le_trans hb3.size hb6.size)).trans (But.of (hb2'.mono (Nat.le_trans hb3.size (Nat.le_trans hb6.size hb7.size)))))); have hz2' := hb2.size; have hz2 := hb2.size; (try simp at hz2); have hbb : But c w.heap.size w w2 := But.z; have rq0 : w2.cell? ⟨w.heap.size + 1 + 1, 0, none⟩ = some (.int .u8 0) := (hbb2.cell so so).trans (by go_simp); have rq1 : w2.cell? ⟨w.heap.size + 1 + 1, 1, none⟩ = some (.int .i64 0) := (hbb2.cell so so).trans (by go_simp); have rq2 : w2.cell? ⟨w.heap.size + 1 + 1, 2, none⟩ = some (.slice none 0 0) := (hbb2.cell so so).trans (by go_simp); have rf0 : w2.frozen? ⟨w.heap.size + 1 + 1, 0, none⟩ = false := (hbb2.frozen so so).trans (by go_simp); have rf1 : w2.frozen? ⟨w.heap.size + 1 + 1, 1, none⟩ = false := (hbb2.frozen so so).trans (by go_simp); have rf2 : w2.frozen? ⟨w.heap.size + 1 + 1, 2, none⟩ = false := (hbb2.frozen so so).trans (by go_simp); have hz3 : w.heap.size + 1 + 1 < w2.heap.size := (by omega); have HC2 := Lib.hid (Cur.below hb2 (by omega) HC7.out); have u2a : w2.cell? ⟨w.heap.size, 0, none⟩ = some (.pointer (some ⟨c, 0, none⟩)) := (hb2.cell so).trans (by go_simp); have u2b : w2.cell? ⟨w.heap.size + 1, 5, none⟩ = some (.int .i64 t.lo) := (hb2.cell so).trans (by go_simp); have u2c : w2.cell? ⟨w.heap.size + 1, 14, none⟩ = some (.slice mk t.a.length ml) := (hb2.cell so).trans (by go_simp)))
       refine hK.out _ _ ?_ (fun hHeld => ?_)
       ·((try dsimp only); (refine ⟨?_, ?_, ?_⟩ <;> go_simp))
       clear hK K
       refine wpAnyH_ready (rs := [17]) (by kernel_rfl) (by simp) ?_
       refine AllReadyH.cons rfl (fun K hK => ?_) ?_
       ·go_simp
        go_wp2_with (first | (go_at_call 104; refine (poolDraw_at s kk t.a.length i c _ HKK.out _ HB.out hi hkl h64 (by exact Cur.below (B := w.heap.size) Below.z hcs HC.out)).mono ?_; rw [HP.out]; rintro e1 w3 ⟨hb3, ⟨a3, c3, rfl, hri⟩, hc3⟩; have HRI := Lib.hid hri; have HC3 := Lib.hid hc3; clear hri hc3; have hz3' := hb3.size; (try simp at hz3'); have hbb3 : But c w.heap.size w w3 := But.z; have u3a : w3.cell? ⟨w.heap.size, 0, none⟩ = some (.pointer (some ⟨c, 0, none⟩)) := (hb3.cell so so).trans (by go_simp); have u3b : w3.cell? ⟨w.heap.size + 1, 5, none⟩ = some (.int .i64 t.lo) := (hb3.cell so so).trans (by go_simp); have u3c : w3.cell? ⟨w.heap.size + 1, 14, none⟩ = some (.slice mk t.a.length ml) := (hb3.cell so so).trans (by go_simp)) | (go_at_call 101; refine (needS_any _ _ _ _).mono ?_; rintro e1 w5 ⟨rfl, rfl⟩) | (go_at_call 103; refine (pickedT_any t.a row (fun b => b ≠ c) _ _ mk a3 ml c3 (by omega) hr64 HRW.out (by exact RTs.ext (Agree.but hbb3) _ _ HL.out) (by exact HRI.out)).mono ?_; rintro e1 w6 ⟨hb6, a6, c6, rfl, hrp⟩; have HRP := Lib.hid hrp; clear hrp; have hz6 := hb6.size; have hbb6 : But c w.heap.size w w6 := hbb3.trans (But.of (hb6.mono (by omega))); have u6a : w6.cell? ⟨w.heap.size, 0, none⟩ = some (.pointer (some ⟨c, 0, none⟩)) := (hb6.cell so).trans (by go_simp); have u6b : w6.cell? ⟨w.heap.size + 1, 5, none⟩ = some (.int .i64 t.lo) := (hb6.cell so).trans (by go_simp); have u6c : w6.cell? ⟨w.heap.size + 1, 14, none⟩ = some (.slice mk t.a.length ml) := (hb6.cell so).trans (by go_simp)) | (go_at_call 98; refine (HXX.out _ _ _ (by exact Cur.below hb6 (by omega) HC3.out) (by exact RTs.mono (fun b hb _ => (by rcases hb with h | h; exact h; omega)) _ _ HRP.out) (by exact REnv.ext (Agree.but hbb6) _ _ HV.out)).mono ?_; rw [HW.out]; rintro e1 w7 ⟨hb7, ⟨a7, c7, rfl, hrv⟩, hc7⟩; have HRV := Lib.hid hrv; have HC7 := Lib.hid hc7; clear hrv hc7; have hz7 := hb7.size; have u7a : w7.cell? ⟨w.heap.size, 0, none⟩ = some (.pointer (some ⟨c, 0, none⟩)) := (hb7.cell so so).trans (by go_simp); have u7b : w7.cell? ⟨w.heap.size + 1, 5, none⟩ = some (.int .i64 t.lo) := (hb7.cell so so).trans (by go_simp); have u7c : w7.cell? ⟨w.heap.size + 1, 14, none⟩ = some (.slice mk t.a.length ml) := (hb7.cell so so).trans (by go_simp)) | (go_at_call 99; refine (list_any _ _ _ _).mono ?_; rintro e1 w2 ⟨rfl, hb2'⟩; have hb2 := hb2'; have hbb2 := hb3.trans ((But.of (c := c) (hb6.mono hb3.size)).trans ((hb7.mono (Nat.le_trans hb3.size hb6.size)).trans (But.of (hb2'.mono (Nat.le_trans hb3.size (Nat.le_trans hb6.size hb7.size)))))); have hz2' := hb2.size; have hz2 := hb2.size; (try simp at hz2); have hbb : But c w.heap.size w w2 := But.z; have rq0 : w2.cell? ⟨w.heap.size + 1 + 1, 0, none⟩ = some (.int .u8 0) := (hbb2.cell so so).trans (by go_simp); have rq1 : w2.cell? ⟨w.heap.size + 1 + 1, 1, none⟩ = some (.int .i64 0) := (hbb2.cell so so).trans (by go_simp); have rq2 : w2.cell? ⟨w.heap.size + 1 + 1, 2, none⟩ = some (.slice none 0 0) := (hbb2.cell so so).trans (by go_simp); have rf0 : w2.frozen? ⟨w.heap.size + 1 + 1, 0, none⟩ = false := (hbb2.frozen so so).trans (by go_simp); have rf1 : w2.frozen? ⟨w.heap.size + 1 + 1, 1, none⟩ = false := (hbb2.frozen so so).trans (by go_simp); have rf2 : w2.frozen? ⟨w.heap.size + 1 + 1, 2, none⟩ = false := (hbb2.frozen so so).trans (by go_simp); have hz3 : w.heap.size + 1 + 1 < w2.heap.size := (by omega); have HC2 := Lib.hid (Cur.below hb2 (by omega) HC7.out); have u2a : w2.cell? ⟨w.heap.size, 0, none⟩ = some (.pointer (some ⟨c, 0, none⟩)) := (hb2.cell so).trans (by go_simp); have u2b : w2.cell? ⟨w.heap.size + 1, 5, none⟩ = some (.int .i64 t.lo) := (hb2.cell so).trans (by go_simp); have u2c : w2.cell? ⟨w.heap.size + 1, 14, none⟩ = some (.slice mk t.a.length ml) := (hb2.cell so).trans (by go_simp)))
        refine hK.out _ _ ?_ (fun hHeld => ?_)
        ·((try dsimp only); (refine ⟨?_, ?_, ?_⟩ <;> go_simp))
        clear hK K
        refine wpAnyH_ready (rs := [18]) (by kernel_rfl) (by simp) ?_
        refine AllReadyH.cons rfl (fun K hK => ?_) ?_
        ·go_simp
         refine hK.out _ _ ?_ (fun hHeld => ?_)
         ·((try dsimp only); (refine ⟨?_, ?_, ?_⟩ <;> go_simp))
         clear hK K
         refine wpAnyH_done (by kernel_rfl) ?_ _
         (go_wp2_with fail; refine bodyPost_ret (v := VV ⟨4, 0, l⟩ ⟨a7, c7⟩) (by first | (simp [results, Tryz.f65, go_sem]; done) | (simp [results, Tryz.f65, go_sem, rq0, rq1, rq2, rf0, rf1, rf2, hz3]; done)) rfl ?_; exact ⟨But.z, ⟨⟨a7, c7⟩, rfl, RV_iff.2 (RVs.mono (fun b hb _ => by omega) _ _ (RVs.ext (((Agree.set so).trans (Agree.set so)).trans (Agree.set so)) _ _ (RVs.ext (Agree.below hb2) _ _ HRV.out)))⟩, Cur.below (B := w.heap.size) Below.z hcs HC2.out⟩)
        exact AllReadyH.nil
       exact AllReadyH.nil
      exact AllReadyH.nil
     exact AllReadyH.nil
    exact AllReadyH.nil
   exact AllReadyH.nil
  ·have HW := Lib.hid hW
   clear hW
   simp only [Res.map]
   go_enter Tryz.func65, Tryz.ntmps65
   go_wp2_with fail
   refine wp_region_held_drew (S := (fun W => W.cell? ⟨w.heap.size, 0, none⟩ = some (.pointer (some ⟨c, 0, none⟩)) ∧ W.cell? ⟨w.heap.size + 1, 5, none⟩ = some (.int .i64 t.lo) ∧ W.cell? ⟨w.heap.size + 1, 14, none⟩ = some (.slice mk t.a.length ml))) (by kernel_rfl) ?_ (fun hHeld => ?_)
   ·((try dsimp only); (refine ⟨?_, ?_, ?_⟩ <;> go_simp))
   refine tkh 0 (v := ?_) rfl (.inl ⟨by rfl, ?_⟩) ?_
   rotate_left
   ·((intro w hSw; (try dsimp only at hSw); go_simp) <;> with_reducible rfl)
   try simp only [Act.put, List.setIfInBounds_toArray, List.set_cons_zero, List.set_cons_succ]
   refine tkh 1 (v := ?_) rfl (.inl ⟨by rfl, ?_⟩) ?_
   rotate_left
   ·((intro w hSw; (try dsimp only at hSw); go_simp) <;> with_reducible rfl)
   try simp only [Act.put, List.setIfInBounds_toArray, List.set_cons_zero, List.set_cons_succ]
   refine tkh 2 (v := ?_) rfl (.inl ⟨by rfl, ?_⟩) ?_
   rotate_left
   ·((intro w hSw; (try dsimp only at hSw); go_simp) <;> with_reducible rfl)
   try simp only [Act.put, List.setIfInBounds_toArray, List.set_cons_zero, List.set_cons_succ]
   refine tkh 3 (v := ?_) rfl (.inl ⟨by rfl, ?_⟩) ?_
   rotate_left
   ·((intro w hSw; (try dsimp only at hSw); go_simp) <;> with_reducible rfl)
   try simp only [Act.put, List.setIfInBounds_toArray, List.set_cons_zero, List.set_cons_succ]
   refine tkh 4 (v := ?_) rfl (.inl ⟨by rfl, ?_⟩) ?_
   rotate_left
   ·((intro w hSw; (try dsimp only at hSw); go_simp) <;> with_reducible rfl)
   try simp only [Act.put, List.setIfInBounds_toArray, List.set_cons_zero, List.set_cons_succ]
   refine tkh 5 (v := ?_) rfl (.inl ⟨by rfl, ?_⟩) ?_
   rotate_left
   ·((intro w hSw; (try dsimp only at hSw); go_simp) <;> with_reducible rfl)
   try simp only [Act.put, List.setIfInBounds_toArray, List.set_cons_zero, List.set_cons_succ]
   refine tkh 6 (v := ?_) rfl (.inl ⟨by rfl, ?_⟩) ?_
   rotate_left
   ·((intro w hSw; (try dsimp only at hSw); go_simp) <;> with_reducible rfl)
   try simp only [Act.put, List.setIfInBounds_toArray, List.set_cons_zero, List.set_cons_succ]
   refine tkh 7 (v := ?_) rfl (.inl ⟨by rfl, ?_⟩) ?_
   rotate_left
   ·((intro w hSw; (try dsimp only at hSw); go_simp) <;> with_reducible rfl)
   try simp only [Act.put, List.setIfInBounds_toArray, List.set_cons_zero, List.set_cons_succ]
   refine tkh 8 (v := ?_) rfl (.inl ⟨by rfl, ?_⟩) ?_
   rotate_left
   ·((intro w hSw; (try dsimp only at hSw); go_simp) <;> with_reducible rfl)
   try simp only [Act.put, List.setIfInBounds_toArray, List.set_cons_zero, List.set_cons_succ]
   refine tkh 9 (v := ?_) rfl (.inl ⟨by rfl, ?_⟩) ?_
   rotate_left
   ·((intro w hSw; (try dsimp only at hSw); go_simp) <;> with_reducible rfl)
   try simp only [Act.put, List.setIfInBounds_toArray, List.set_cons_zero, List.set_cons_succ]
   refine tkh 15 (v := ?_) rfl (.inl ⟨by rfl, ?_⟩) ?_
   rotate_left
   ·((intro w hSw; (try dsimp only at hSw); go_simp) <;> with_reducible rfl)
   try simp only [Act.put, List.setIfInBounds_toArray, List.set_cons_zero, List.set_cons_succ]
   refine wpAnyH_ready (rs := [10]) (by kernel_rfl) (by simp) ?_
   refine AllReadyH.cons rfl (fun K hK => ?_) ?_
   ·go_simp
    go_wp2_with (first | (go_at_call 104; refine (poolDraw_at s kk t.a.length i c _ HKK.out _ HB.out hi hkl h64 (by exact Cur.below (B := w.heap.size) Below.z hcs HC.out)).mono ?_; rw [HP.out]; rintro e1 w3 ⟨hb3, ⟨a3, c3, rfl, hri⟩, hc3⟩; have HRI := Lib.hid hri; have HC3 := Lib.hid hc3; clear hri hc3; have hz3' := hb3.size; (try simp at hz3'); have hbb3 : But c w.heap.size w w3 := But.z; have u3a : w3.cell? ⟨w.heap.size, 0, none⟩ = some (.pointer (some ⟨c, 0, none⟩)) := (hb3.cell so so).trans (by go_simp); have u3b : w3.cell? ⟨w.heap.size + 1, 5, none⟩ = some (.int .i64 t.lo) := (hb3.cell so so).trans (by go_simp); have u3c : w3.cell? ⟨w.heap.size + 1, 14, none⟩ = some (.slice mk t.a.length ml) := (hb3.cell so so).trans (by go_simp)) | (go_at_call 101; refine (needS_any _ _ _ _).mono ?_; rintro e1 w5 ⟨rfl, rfl⟩) | (go_at_call 103; refine (pickedT_any t.a row (fun b => b ≠ c) _ _ mk a3 ml c3 (by omega) hr64 HRW.out (by exact RTs.ext (Agree.but hbb3) _ _ HL.out) (by exact HRI.out)).mono ?_; rintro e1 w6 ⟨hb6, a6, c6, rfl, hrp⟩; have HRP := Lib.hid hrp; clear hrp; have hz6 := hb6.size; have hbb6 : But c w.heap.size w w6 := hbb3.trans (But.of (hb6.mono (by omega))); have u6a : w6.cell? ⟨w.heap.size, 0, none⟩ = some (.pointer (some ⟨c, 0, none⟩)) := (hb6.cell so).trans (by go_simp); have u6b : w6.cell? ⟨w.heap.size + 1, 5, none⟩ = some (.int .i64 t.lo) := (hb6.cell so).trans (by go_simp); have u6c : w6.cell? ⟨w.heap.size + 1, 14, none⟩ = some (.slice mk t.a.length ml) := (hb6.cell so).trans (by go_simp)) | (go_at_call 98; refine (HXX.out _ _ _ (by exact Cur.below hb6 (by omega) HC3.out) (by exact RTs.mono (fun b hb _ => (by rcases hb with h | h; exact h; omega)) _ _ HRP.out) (by exact REnv.ext (Agree.but hbb6) _ _ HV.out)).mono ?_; rw [HW.out]; rintro e1 w7 ⟨hb7, rfl⟩))
    refine hK.out _ _ ?_ (fun hHeld => ?_)
    ·((try dsimp only); (refine ⟨?_, ?_, ?_⟩ <;> go_simp))
    clear hK K
    refine tkh 11 (v := ?_) rfl (.inl ⟨by rfl, ?_⟩) ?_
    rotate_left
    ·((intro w hSw; (try dsimp only at hSw); go_simp) <;> with_reducible rfl)
    try simp only [Act.put, List.setIfInBounds_toArray, List.set_cons_zero, List.set_cons_succ]
    refine tkh 12 (v := ?_) rfl (.inl ⟨by rfl, ?_⟩) ?_
    rotate_left
    ·((intro w hSw; (try dsimp only at hSw); go_simp) <;> with_reducible rfl)
    try simp only [Act.put, List.setIfInBounds_toArray, List.set_cons_zero, List.set_cons_succ]
    refine wpAnyH_ready (rs := [13]) (by kernel_rfl) (by simp) ?_
    refine AllReadyH.cons rfl (fun K hK => ?_) ?_
    ·go_simp
     go_wp2_with (first | (go_at_call 104; refine (poolDraw_at s kk t.a.length i c _ HKK.out _ HB.out hi hkl h64 (by exact Cur.below (B := w.heap.size) Below.z hcs HC.out)).mono ?_; rw [HP.out]; rintro e1 w3 ⟨hb3, ⟨a3, c3, rfl, hri⟩, hc3⟩; have HRI := Lib.hid hri; have HC3 := Lib.hid hc3; clear hri hc3; have hz3' := hb3.size; (try simp at hz3'); have hbb3 : But c w.heap.size w w3 := But.z; have u3a : w3.cell? ⟨w.heap.size, 0, none⟩ = some (.pointer (some ⟨c, 0, none⟩)) := (hb3.cell so so).trans (by go_simp); have u3b : w3.cell? ⟨w.heap.size + 1, 5, none⟩ = some (.int .i64 t.lo) := (hb3.cell so so).trans (by go_simp); have u3c : w3.cell? ⟨w.heap.size + 1, 14, none⟩ = some (.slice mk t.a.length ml) := (hb3.cell so so).trans (by go_simp)) | (go_at_call 101; refine (needS_any _ _ _ _).mono ?_; rintro e1 w5 ⟨rfl, rfl⟩) | (go_at_call 103; refine (pickedT_any t.a row (fun b => b ≠ c) _ _ mk a3 ml c3 (by omega) hr64 HRW.out (by exact RTs.ext (Agree.but hbb3) _ _ HL.out) (by exact HRI.out)).mono ?_; rintro e1 w6 ⟨hb6, a6, c6, rfl, hrp⟩; have HRP := Lib.hid hrp; clear hrp; have hz6 := hb6.size; have hbb6 : But c w.heap.size w w6 := hbb3.trans (But.of (hb6.mono (by omega))); have u6a : w6.cell? ⟨w.heap.size, 0, none⟩ = some (.pointer (some ⟨c, 0, none⟩)) := (hb6.cell so).trans (by go_simp); have u6b : w6.cell? ⟨w.heap.size + 1, 5, none⟩ = some (.int .i64 t.lo) := (hb6.cell so).trans (by go_simp); have u6c : w6.cell? ⟨w.heap.size + 1, 14, none⟩ = some (.slice mk t.a.length ml) := (hb6.cell so).trans (by go_simp)) | (go_at_call 98; refine (HXX.out _ _ _ (by exact Cur.below hb6 (by omega) HC3.out) (by exact RTs.mono (fun b hb _ => (by rcases hb with h | h; exact h; omega)) _ _ HRP.out) (by exact REnv.ext (Agree.but hbb6) _ _ HV.out)).mono ?_; rw [HW.out]; rintro e1 w7 ⟨hb7, rfl⟩))
     refine hK.out _ _ ?_ (fun hHeld => ?_)
     ·((try dsimp only); (refine ⟨?_, ?_, ?_⟩ <;> go_simp))
     clear hK K
     refine wpAnyH_ready (rs := [14]) (by kernel_rfl) (by simp) ?_
     refine AllReadyH.cons rfl (fun K hK => ?_) ?_
     ·go_simp
      go_wp2_with (first | (go_at_call 104; refine (poolDraw_at s kk t.a.length i c _ HKK.out _ HB.out hi hkl h64 (by exact Cur.below (B := w.heap.size) Below.z hcs HC.out)).mono ?_; rw [HP.out]; rintro e1 w3 ⟨hb3, ⟨a3, c3, rfl, hri⟩, hc3⟩; have HRI := Lib.hid hri; have HC3 := Lib.hid hc3; clear hri hc3; have hz3' := hb3.size; (try simp at hz3'); have hbb3 : But c w.heap.size w w3 := But.z; have u3a : w3.cell? ⟨w.heap.size, 0, none⟩ = some (.pointer (some ⟨c, 0, none⟩)) := (hb3.cell so so).trans (by go_simp); have u3b : w3.cell? ⟨w.heap.size + 1, 5, none⟩ = some (.int .i64 t.lo) := (hb3.cell so so).trans (by go_simp); have u3c : w3.cell? ⟨w.heap.size + 1, 14, none⟩ = some (.slice mk t.a.length ml) := (hb3.cell so so).trans (by go_simp)) | (go_at_call 101; refine (needS_any _ _ _ _).mono ?_; rintro e1 w5 ⟨rfl, rfl⟩) | (go_at_call 103; refine (pickedT_any t.a row (fun b => b ≠ c) _ _ mk a3 ml c3 (by omega) hr64 HRW.out (by exact RTs.ext (Agree.but hbb3) _ _ HL.out) (by exact HRI.out)).mono ?_; rintro e1 w6 ⟨hb6, a6, c6, rfl, hrp⟩; have HRP := Lib.hid hrp; clear hrp; have hz6 := hb6.size; have hbb6 : But c w.heap.size w w6 := hbb3.trans (But.of (hb6.mono (by omega))); have u6a : w6.cell? ⟨w.heap.size, 0, none⟩ = some (.pointer (some ⟨c, 0, none⟩)) := (hb6.cell so).trans (by go_simp); have u6b : w6.cell? ⟨w.heap.size + 1, 5, none⟩ = some (.int .i64 t.lo) := (hb6.cell so).trans (by go_simp); have u6c : w6.cell? ⟨w.heap.size + 1, 14, none⟩ = some (.slice mk t.a.length ml) := (hb6.cell so).trans (by go_simp)) | (go_at_call 98; refine (HXX.out _ _ _ (by exact Cur.below hb6 (by omega) HC3.out) (by exact RTs.mono (fun b hb _ => (by rcases hb with h | h; exact h; omega)) _ _ HRP.out) (by exact REnv.ext (Agree.but hbb6) _ _ HV.out)).mono ?_; rw [HW.out]; rintro e1 w7 ⟨hb7, rfl⟩))
      refine hK.out _ _ ?_ (fun hHeld => ?_)
      ·((try dsimp only); (refine ⟨?_, ?_, ?_⟩ <;> go_simp))
      clear hK K
      refine wpAnyH_ready (rs := [16]) (by kernel_rfl) (by simp) ?_
      refine AllReadyH.cons rfl (fun K hK => ?_) ?_
      ·go_simp
       go_wp2_with (first | (go_at_call 104; refine (poolDraw_at s kk t.a.length i c _ HKK.out _ HB.out hi hkl h64 (by exact Cur.below (B := w.heap.size) Below.z hcs HC.out)).mono ?_; rw [HP.out]; rintro e1 w3 ⟨hb3, ⟨a3, c3, rfl, hri⟩, hc3⟩; have HRI := Lib.hid hri; have HC3 := Lib.hid hc3; clear hri hc3; have hz3' := hb3.size; (try simp at hz3'); have hbb3 : But c w.heap.size w w3 := But.z; have u3a : w3.cell? ⟨w.heap.size, 0, none⟩ = some (.pointer (some ⟨c, 0, none⟩)) := (hb3.cell so so).trans (by go_simp); have u3b : w3.cell? ⟨w.heap.size + 1, 5, none⟩ = some (.int .i64 t.lo) := (hb3.cell so so).trans (by go_simp); have u3c : w3.cell? ⟨w.heap.size + 1, 14, none⟩ = some (.slice mk t.a.length ml) := (hb3.cell so so).trans (by go_simp)) | (go_at_call 101; refine (needS_any _ _ _ _).mono ?_; rintro e1 w5 ⟨rfl, rfl⟩) | (go_at_call 103; refine (pickedT_any t.a row (fun b => b ≠ c) _ _ mk a3 ml c3 (by omega) hr64 HRW.out (by exact RTs.ext (Agree.but hbb3) _ _ HL.out) (by exact HRI.out)).mono ?_; rintro e1 w6 ⟨hb6, a6, c6, rfl, hrp⟩; have HRP := Lib.hid hrp; clear hrp; have hz6 := hb6.size; have hbb6 : But c w.heap.size w w6 := hbb3.trans (But.of (hb6.mono (by omega))); have u6a : w6.cell? ⟨w.heap.size, 0, none⟩ = some (.pointer (some ⟨c, 0, none⟩)) := (hb6.cell so).trans (by go_simp); have u6b : w6.cell? ⟨w.heap.size + 1, 5, none⟩ = some (.int .i64 t.lo) := (hb6.cell so).trans (by go_simp); have u6c : w6.cell? ⟨w.heap.size + 1, 14, none⟩ = some (.slice mk t.a.length ml) := (hb6.cell so).trans (by go_simp)) | (go_at_call 98; refine (HXX.out _ _ _ (by exact Cur.below hb6 (by omega) HC3.out) (by exact RTs.mono (fun b hb _ => (by rcases hb with h | h; exact h; omega)) _ _ HRP.out) (by exact REnv.ext (Agree.but hbb6) _ _ HV.out)).mono ?_; rw [HW.out]; rintro e1 w7 ⟨hb7, rfl⟩))
       exact ⟨rfl, But.z, rfl⟩
      exact AllReadyH.nil
     exact AllReadyH.nil
    exact AllReadyH.nil
   exact AllReadyH.nil
end Go.Proofs.YtojjdneicmbfjaaGreat
