/- What the proofs of the Trial statements need: part 36. -/
import Derived.Laws.CopyOwn
import Derived.Sort.OwnSortedInts
import Derived.Test.YtojjdneicmbfjaaGreatQ27
import Derived.Test.YtojjdneicmbfjaaGreatQ30
import Derived.Test.YtojjdneicmbfjaaGreatQ34
set_option linter.unusedVariables false
set_option linter.unusedSimpArgs false
namespace Go.Proofs.YtojjdneicmbfjaaGreat
open Go Go.RowKit
theorem IRow.heap {e base g} {w : World} {zs : List Int} (h : IRow e w base g zs.length zs) : w.heap[g]? = some (.cells (zs.map (Value.int .i64)).toArray e (0, 0)) := by
 rcases h.2 with ⟨h, _⟩ | ⟨k, cap', cur, hv, hbs, hg, h3, h4, h5, h6⟩
 ·cases h
 ·cases hv
  rw [hg]
  have h7 : cur.toList = zs.map (Value.int .i64) := by rw [← h6, List.take_of_length_le (by simp; omega)]
  rw [← h7]
theorem IRow.heap' {e base g cap} {w : World} {zs : List Int} (h : IRow e w base g cap zs) (hc : cap = zs.length) : w.heap[g]? = some (.cells (zs.map (Value.int .i64)).toArray e (0, 0)) := by
 subst hc; exact h.heap
theorem sizeInt : (Tryz.prog.info? 3).map (·.size) = some 1 := by kernel_rfl
theorem sortInts_any (zs : List Int) (base g cap : Nat) (w : World) (h : IRow 3 w base g cap zs) (hz : zs.length ≤ 64) :
  Calls Tryz.prog 163 #[.slice (some ⟨g, 0, none⟩) zs.length cap] w fun e w' => e = .returned (.tuple #[]) ∧ IRow 3 w' base g cap (zs.mergeSort leI) ∧ w.grownBy w' (some g) := by
 have hl := h.lt
 refine (Any.slices_Sort_int Tryz.lays189 g 0 cap zs w (fun j hj => ?_) hl.2 (by omega)).mono ?_
 ·have hj' : j < zs.length := by simpa using hj
  refine ⟨?_, by simpa using h.frz j⟩
  have := h.cell j hj'
  simpa [getElem!_pos, hj'] using this
 ·rintro e w' ⟨rfl, n, os, rfl⟩
  rcases h.2 with ⟨h0, _⟩ | ⟨k, cap', cur, hv, hbs, hg, h3, h4, h5, h6⟩
  ·cases h0
  ·cases hv
   refine ⟨rfl, ?_, grownBy_sortedI _⟩
   have h7 := ownsRow_sortedI (n := n) (os := os) (ss := zs) (ts := zs.mergeSort leI) (List.length_mergeSort _) hbs hg h3 h4 h5
   unfold IRow
   rw [List.length_mergeSort]
   exact h7
theorem sortInts_at (zs : List Int) (base g cap n : Nat) (w : World) (h : IRow 3 w base g cap zs) (hz : zs.length ≤ 64) (hn : n = zs.length) :
  Calls Tryz.prog 163 #[.slice (some ⟨g, 0, none⟩) n cap] w fun e w' => e = .returned (.tuple #[]) ∧ IRow 3 w' base g cap (zs.mergeSort leI) ∧ w.grownBy w' (some g) := by
 subst hn; exact sortInts_any zs base g cap w h hz
set_option maxRecDepth 100000 in
set_option maxHeartbeats 1000000 in
theorem poolAll_any (w : World) :
  Calls Tryz.prog 162 #[] w fun e w' => Below w.heap.size w w' ∧ ∃ g, e = .returned (.slice (some ⟨g, 0, none⟩) 64 64) ∧ IRow 3 w' w.heap.size g 64 (thingsI 64) := by
 obtain ⟨i0, hi, hz0, hz1, hz2⟩ := info_parts infoInt
 go_enter Tryz.func162, Tryz.ntmps162
 go_wp2_with (at_make; refine wpList_make_full _ rfl _ _ 136 rfl w.heap.size 3 i0 _ 1 rfl hi hz0 hz1 .i64 .i64 _ _ 64 rfl rfl rfl rfl (by rw [hz2]; omega) (by unfold maxLen; omega) (Nat.le_refl _) ?_; intro w1 hown hgrow)
 have hz1 : w.heap.size < w1.heap.size := (hown.lt _ rfl).2
 have hb1 : Below w.heap.size w w1 := Below.grown (Below.refl _ _) hgrow (Nat.le_refl _) (fun k e => by cases e)
 have HO := Lib.hid (IRow.zero hown)
 clear hown hgrow
 go_loopg [6] 64 (fun gk i wr => ∃ j : Nat, gk + j = 64 ∧ i = .int .i64 j ∧ Below w.heap.size w wr ∧ w.heap.size < wr.heap.size ∧ Hid (IRow 3 wr w.heap.size w.heap.size 64 (thingsI j ++ List.replicate (64 - j) 0)))
 case atStart => exact ⟨0, by omega, rfl, hb1, hz1, by simpa [thingsI] using HO⟩
 case round =>
  obtain ⟨j, hj, rfl, hb, hz, HW⟩ := hrel
  by_cases hlt : j < 64
  ·have hlen : (thingsI j ++ List.replicate (64 - j) (0 : Int)).length = 64 := by simp [thingsI_length]; omega
   obtain ⟨u, hcl⟩ : ∃ u, wr.cell? ⟨w.heap.size, j, none⟩ = some (.int .i64 u) := ⟨_, HW.out.cell j (by omega)⟩
   have hfz := HW.out.frz
   obtain ⟨s1, s2⟩ := HW.out.set j j
   rw [thingsI_step 64 j hlt] at s1
   have HS := Lib.hid s1
   clear s1 s2 hlen
   go_wp2_with fail
   go_roundg (gk - 1)
   case measure => omega
   case rel => exact ⟨j + 1, by omega, by go_num, Below.z, by simp; omega, HS⟩
  ·have hjl : j = 64 := by omega
   subst hjl
   go_wp2_with fail
   go_ret
   exact ⟨hb, _, rfl, by simpa using HW.out⟩
theorem poolMay_any (k n : Nat) (w : World) (hk : k ≤ n) (hn : n ≤ 64) : Calls Tryz.prog 143 #[.int .i64 k, .int .i64 n] w fun e w' => e = .returned (.bool true) ∧ Below w.heap.size w w' := by
 have h1 : (0 : Int) ≤ (n : Int) := by omega
 have h2 : (n : Int) ≤ 64 := by omega
 have h3 : (0 : Int) ≤ (k : Int) := by omega
 have h4 : (k : Int) ≤ (n : Int) := by omega
 go_enter Tryz.func143, Tryz.ntmps143
 go_wp2_with fail
 go_ret
 exact ⟨by simp [*], Below.z⟩
theorem copyThings (k : Nat) (hk : k ≤ 64) (w w0 : World) (B base base3 g g3 : Nat) (h : IRow 3 w base g k (List.replicate k 0)) (h3 : IRow 3 w base3 g3 64 (thingsI 64)) (hb : Below B w0 w) (hBg : B ≤ g) :
  ∃ w4, (Builtin.copy_ #[136, 136] 3 #[.slice (some ⟨g, 0, none⟩) k k, .slice (some ⟨g3, 0, none⟩) 64 64]).run Tryz.prog w = .ok (goInt k) w4 ∧ Hid (IRow 3 w4 base g k (thingsI k)) ∧ Below B w0 w4 := by
 have hl := h.lt
 have hlen : ((thingsI k).map (Value.int .i64)).length = k := by simp [thingsI_length]
 have hg := h.heap' (by simp)
 have hrun := run_copy_row (P := Tryz.prog) w 136 136 3 3 g 0 k k ⟨g3, 0, none⟩ 64 64 _ 3 ((thingsI k).map (Value.int .i64)) Tryz.underlying136 sizeInt hg (by rw [hlen]; exact (Nat.min_eq_right hk).symm) (fun j v hj => by
  have h1 := (List.getElem?_eq_some_iff.1 hj).1
  rw [hlen] at h1
  have h2 := h3.cell j (by rw [thingsI_length]; omega)
  rw [Addr.add_lit, Nat.zero_add, h2, ← hj]
  simp [thingsI, h1, show j < 64 by omega]) (by simp [hlen, thingsI_length]) (by intro v hv; obtain ⟨_, _, rfl⟩ := List.mem_map.1 hv; rfl)
 rw [hlen] at hrun
 refine ⟨_, hrun, ?_, below_setRow hb hBg _⟩
 have h7 : IRow 3 (w.setRow g (((List.replicate k (0 : Int)).map (Value.int .i64)).toArray.toList.take 0 ++ (thingsI k).map (Value.int .i64) ++ ((List.replicate k (0 : Int)).map (Value.int .i64)).toArray.toList.drop (0 + k)).toArray) base g (thingsI k).length (thingsI k) := by
  refine IRow.of_heap ?_ hl.1 (by rw [thingsI_length]; unfold maxLen; omega)
  rw [setRow_heap w g _ _ _ _ hg]
  simp
 rw [thingsI_length] at h7
 exact h7
set_option maxRecDepth 100000 in
set_option maxHeartbeats 1000000 in
theorem poolRow_any (k n : Nat) (l : List Int) (w : World) (A : Nat → Prop) (a : Option Addr) (cp : Nat) (hk : k ≤ n) (hn : n ≤ 64) (hl : l.length + k = n) (hd : upOk k l) (hr : RIs w A l a) :
  Calls Tryz.prog 144 #[.int .i64 k, .int .i64 n, .slice a l.length cp] w fun e w' => Below w.heap.size w w' ∧ ∃ g cp', e = .returned (.tuple #[.slice (some ⟨g, 0, none⟩) (poolRow k l).length cp', .int .i64 0]) ∧ IRow 3 w' w.heap.size g cp' (poolRow k l) := by
 have HL := Lib.hid hr
 have HD := Lib.hid hd
 obtain ⟨i0, hi, y0, y1, y2⟩ := info_parts infoInt
 have hpl := (poolGo_in k l k (thingsI k) (fun x hx => thingsI_mem hx) hd).1
 rw [thingsI_length] at hpl
 have hla : (l.length : Int) ≤ (n : Int) - (k : Int) := by omega
 have hlb : (n : Int) - (k : Int) ≤ (l.length : Int) := by omega
 have HLN := Lib.hid hl
 clear hl
 unfold poolRow
 generalize hR : poolGo k l k (thingsI k) = R at *
 have HR := Lib.hid hR
 clear hr hd hR
 go_enter Tryz.func144, Tryz.ntmps144
 go_wp2_with (first
  | (go_at_call 143; refine (poolMay_any k n _ hk hn).mono ?_; rintro e w1 ⟨rfl, hb⟩; have hB1 : Below w.heap.size w w1 := Below.z; clear hb; obtain ⟨hc1, hf1⟩ := bcells hB1; have hz1 := hB1.size)
  | (at_make; refine wpList_make_full _ rfl _ _ 136 rfl w1.heap.size 3 i0 _ 1 rfl hi y0 y1 .i64 .i64 _ _ k rfl rfl rfl rfl (by rw [y2]; omega) (by unfold maxLen; omega) (Nat.le_refl _) ?_; intro w2 hown hgrow; have HO := Lib.hid (IRow.zero hown); have hB2 : Below w.heap.size w w2 := Below.grown hB1 hgrow (by omega) (fun k e => (by cases e)); have hg2 := (hown.lt _ rfl).2; clear hown hgrow)
  | (go_at_call 162; refine (poolAll_any _).mono ?_; rintro e w3 ⟨hb3, g3, rfl, hrow⟩; have HA3 := Lib.hid hrow; have HO3 := Lib.hid (HO.out.below hb3 (by first | exact hg2 | omega)); have hB3 : Below w.heap.size w w3 := Below.trans hB2 (hb3.mono (by omega)); have hl3 := hrow.lt; obtain ⟨w4, hrun, HO4, hB4⟩ := copyThings k (by omega) w3 w w.heap.size w1.heap.size w2.heap.size w1.heap.size g3 HO3.out hrow hB3 (by omega); clear hrow))
 have hgz := HO4.out.lt
 clear hrun
 go_loopg [38] (l.length) (fun gk i wr => ∃ q : Nat, gk + q = l.length ∧ i = .int .i64 q ∧ Below w.heap.size w wr ∧ w1.heap.size < wr.heap.size ∧ ∃ zs : List Int, zs.length = k ∧ Hid (poolGo k (l.drop q) (k + q) zs = R) ∧ Hid (IRow 3 wr w1.heap.size w1.heap.size k zs))
 case atStart => exact ⟨0, by omega, rfl, hB4, hgz.2, thingsI k, by rw [thingsI_length], by simpa using HR, HO4⟩
 case round =>
  obtain ⟨q, hq, rfl, hb, hz, zs, hzl, HP, HW⟩ := hrel
  by_cases hlt : q < l.length
  ·obtain ⟨b, o, rfl, hA, hbs, g0⟩ := HL.out.get q hlt
   have k0 : wr.cell? ⟨b, o + q, none⟩ = some (.int .i64 l[q]) := (hb.cell hbs).trans g0
   obtain ⟨d0, d1⟩ := upOk_get l k q hlt HD.out
   have hst := poolGo_drop k l zs q (k + q) hlt
   rw [HP.out] at hst
   have hfz := HW.out.frz
   obtain ⟨x, hx⟩ : ∃ x : Nat, l[q] = (x : Int) := ⟨l[q].toNat, by omega⟩
   rw [hx] at k0 d1
   simp only [hx, Int.toNat_natCast] at hst
   have hs1 : b < wr.heap.size := by omega
   have hkn : k + q < 64 := by have := HLN.out; omega
   clear hx d0 g0
   by_cases hxk : x < k
   ·have hxk' : (x : Int) < (k : Int) := by omega
    rw [if_pos hxk'] at hst
    obtain ⟨u, hcl⟩ : ∃ u, wr.cell? ⟨w1.heap.size, x, none⟩ = some (.int .i64 u) := ⟨_, HW.out.cell x (by omega)⟩
    obtain ⟨s1, s2⟩ := HW.out.set x ((k + q : Nat) : Int)
    rw [show ((k + q : Nat) : Int) = (k : Int) + (q : Int) by omega] at s1 hst
    have HS := Lib.hid s1
    have HST := Lib.hid hst
    clear s1 s2 hst
    go_wp2_with fail
    go_roundg (gk - 1)
    case measure => omega
    case rel => exact ⟨q + 1, by omega, by go_num, Below.z, by simp; omega, _, by simp; omega, Lib.hid HST.out.symm, HS⟩
   ·have hxk' : ¬ (x : Int) < (k : Int) := by omega
    rw [if_neg hxk'] at hst
    have HST := Lib.hid hst
    clear hst
    go_wp2_with fail
    go_roundg (gk - 1)
    case measure => omega
    case rel => exact ⟨q + 1, by omega, by go_num, Below.z, by omega, _, hzl, Lib.hid HST.out.symm, HW⟩
  ·have hjl : q = l.length := by omega
   subst hjl
   have hzR : zs = R := by have := HP.out; rw [List.drop_length, poolGo] at this; exact this
   subst hzR
   have hk' : (k : Int) = (zs.length : Int) := by omega
   go_wp2_with (go_at_call 163; refine (sortInts_at zs w1.heap.size w1.heap.size k k _ HW.out (by omega) hzl.symm).mono ?_; rintro e w5 ⟨rfl, HW5, hg5⟩)
   go_ret2
   exact ⟨Below.grown hb hg5 (by omega) (fun k e => by cases e; omega), w1.heap.size, k, by rw [List.length_mergeSort, hzl]; rfl, HW5.base (by omega)⟩
end Go.Proofs.YtojjdneicmbfjaaGreat
namespace Go.Proofs.YtojjdneicmbfjaaGreat
open Go Go.RowKit
def poolRest (s : ByteArray) (D : List Int) (n m i : Nat) : Option (List Int) × Nat :=
 match poolDraws s n m i with
 | (none, j) => (none, j)
 | (some l, j) => (some (D ++ l), j)
theorem poolRest_step (s : ByteArray) (D : List Int) (n m i : Nat) : poolRest s D (n + 1) m i = match drawP s (m + 1) i with
  | (none, j) => (none, j)
  | (some v, j) => poolRest s (D ++ [(v : Int)]) n (m + 1) j := by
 unfold poolRest
 rw [poolDraws]
 cases hd : drawP s (m + 1) i with
 | mk v j =>
  cases v with
  | none => rfl
  | some v =>
   simp only []
   cases poolDraws s n (m + 1) j with
   | mk r q => cases r <;> simp
theorem draws_step (D : List Int) (v : Int) (n q : Nat) (h : D.length = q) (hn : q < n) : (D ++ List.replicate (n - q) (0 : Int)).set q v = (D ++ [v]) ++ List.replicate (n - (q + 1)) 0 := by
 have h1 : n - q = (n - (q + 1)) + 1 := by omega
 rw [h1, List.replicate_succ, List.set_append_right _ _ (by omega), h, Nat.sub_self, List.set_cons_zero]
 simp
set_option maxRecDepth 100000 in
set_option maxHeartbeats 1000000 in
theorem poolDraw_any (s : ByteArray) (k n i c : Nat) (w : World) (hb : isBits s = true) (hi : i ≤ s.size) (hk : k ≤ n) (hn : n ≤ 64) (hc : Cur w c s i false) :
  Calls Tryz.prog 104 #[.pointer (some ⟨c, 0, none⟩), .int .i64 k, .int .i64 n] w (rowR c s (poolP s k n i) w) := by
 have hcs : c < w.heap.size := World.block_lt_of_cell? _ _ hc.1.1
 have HB := Lib.hid hb
 have HC := Lib.hid hc
 have hdr := poolDraws_in s (n - k) k i hi
 obtain ⟨i0, hi0, y0, y1, y2⟩ := info_parts infoInt
 have hP1 : ∀ j, poolDraws s (n - k) k i = (none, j) → poolP s k n i = (none, j) := fun j h => by unfold poolP; rw [h]
 have hP2 : ∀ l j, poolDraws s (n - k) k i = (some l, j) → poolP s k n i = (some (poolRow k l), j) := fun l j h => by unfold poolP; rw [h]
 generalize hP : poolP s k n i = P at *
 have hR0 : poolRest s [] (n - k) k i = poolDraws s (n - k) k i := by
  unfold poolRest
  rcases poolDraws s (n - k) k i with ⟨_ | r, q⟩ <;> simp
 generalize hR : poolDraws s (n - k) k i = R at *
 have HP1 := Lib.hid hP1
 have HP2 := Lib.hid hP2
 have HR0 := Lib.hid hR0
 have HDR := Lib.hid hdr
 obtain ⟨N, hN⟩ : ∃ N, N = n - k := ⟨_, rfl⟩
 have hNI : (n : Int) - (k : Int) = (N : Int) := by omega
 rw [← hN] at HR0 HDR
 have HN := Lib.hid hN
 have hN64 : N + k ≤ 64 := by omega
 clear hc hb hR0 hdr hR hP1 hP2 hP hN
 go_enter Tryz.func104, Tryz.ntmps104
 go_wp2_with (first
  | (go_at_call 143; refine (poolMay_any k n _ hk hn).mono ?_; rintro e w1 ⟨rfl, hb⟩; have hB1 : Below w.heap.size w w1 := Below.z; clear hb; obtain ⟨hc1, hf1⟩ := bcells hB1; have hz1 := hB1.size)
  | (at_make; refine wpList_make_full _ rfl _ _ 136 rfl w1.heap.size 3 i0 _ 1 rfl hi0 y0 y1 .i64 .i64 _ _ N rfl rfl (by omega) (by omega) (by rw [y2]; omega) (by unfold maxLen; omega) (Nat.le_refl _) ?_; intro w2 hown hgrow; have HO := Lib.hid (IRow.zero hown); have hB2 : Below w.heap.size w w2 := Below.grown hB1 hgrow (by omega) (fun k e => (by cases e)); have hg2 := (hown.lt _ rfl).2; clear hown hgrow))
 have hgne : w1.heap.size ≠ c := by omega
 go_loopg [24] N (fun gk i' wr => ∃ (q p : Nat) (D : List Int), gk + q = N ∧ i' = .int .i64 q ∧ p ≤ s.size ∧ But c w.heap.size w wr ∧ w1.heap.size < wr.heap.size ∧ D.length = q ∧ Hid (poolRest s D (N - q) (k + q) p = R) ∧ Hid (Cur wr c s p false) ∧
  Hid (IRow 3 wr w1.heap.size w1.heap.size N (D ++ List.replicate (N - q) 0)))
 case atStart => exact ⟨0, i, [], by omega, rfl, hi, But.of hB2, hg2, rfl, by simpa using HR0, Cur.below hB2 hcs HC.out, by simpa using HO⟩
 case round =>
  obtain ⟨q, p, D, hq, rfl, hp, hbt, hz, hDL, HP, HCU, HO3⟩ := hrel
  by_cases hlt : q < N
  ·obtain ⟨r, hr⟩ : ∃ r, N - q = r + 1 := ⟨N - q - 1, by omega⟩
   have hst := HP.out
   rw [hr, poolRest_step] at hst
   obtain ⟨m, hm⟩ : ∃ m, m = k + q + 1 := ⟨_, rfl⟩
   rw [← hm] at hst
   have hm0 : 0 < m ∧ m < 18446744073709551616 := by omega
   have hdd := drawP_in s m p hp
   rcases hD : drawP s m p with ⟨_ | v', j⟩
   ·rw [hD] at hst
    have HD := Lib.hid hD
    have HST := Lib.hid hst
    clear hst hD hdd
    go_wp2_with (go_at_call 135; refine (draw_at c s p m _ _ HB.out hp hm0 (by omega) (by exact HCU.out)).mono ?_; rw [HD.out]; rintro e w3 ⟨hb3, rfl, hc3⟩; have HC3 := Lib.hid hc3; clear hc3)
    go_ret2
    rw [HP1.out _ HST.out.symm]
    exact ⟨But.z, rfl, HC3.out⟩
   ·rw [hD] at hst hdd
    have hv := hdd.2.2 v' rfl
    have hj1 := hdd.2.1
    simp only [] at hj1 hv
    have HD := Lib.hid hD
    have HST := Lib.hid hst
    clear hst hD hdd
    go_wp2_with (go_at_call 135; refine (draw_at c s p m _ _ HB.out hp hm0 (by omega) (by exact HCU.out)).mono ?_; rw [HD.out]; rintro e w3 ⟨hb3, rfl, hc3⟩; have HC3 := Lib.hid hc3; clear hc3; have hz3 := hb3.size; have HO4 := Lib.hid (HO3.out.but hb3 hz hgne); obtain ⟨u, hcl⟩ : ∃ u, w3.cell? ⟨w1.heap.size, q, none⟩ = some (.int .i64 u) := ⟨_, HO4.out.cell q (by simp; omega)⟩; have hfz := HO4.out.frz)
    obtain ⟨s1, s2⟩ := HO4.out.set q (v' : Int)
    rw [draws_step D v' N q hDL hlt] at s1
    go_roundg (gk - 1)
    case measure => omega
    case rel =>
     refine ⟨q + 1, j, D ++ [(v' : Int)], by omega, by go_num, hj1, But.z, by simp; omega, by simp; exact hDL, ?_, Lib.hid ?_, Lib.hid s1⟩
     ·rw [show N - (q + 1) = r by omega, show k + (q + 1) = m by omega]; exact HST
     ·exact Cur.below (B := w.heap.size) ((Below.refl _ _).setCell (by simp; omega) _) hcs HC3.out
  ·have hjl : q = N := by omega
   have hst := HP.out
   rw [hjl, Nat.sub_self] at hst
   have hst2 : R = (some D, p) := by rw [← hst]; simp [poolRest, poolDraws]
   have hdr := HDR.out.2.2 D (by rw [hst2])
   have HRW := HO3
   rw [hjl, Nat.sub_self, List.replicate_zero, List.append_nil] at HRW
   have HF := Lib.hid (HP2.out D p hst2)
   have HDU := Lib.hid hdr.2
   have HRD := Lib.hid (HRW.out.ris (A := fun _ => True) trivial)
   clear hst hst2 hdr
   subst hDL
   subst hjl
   go_wp2_with (go_at_call 144; refine (poolRow_any k n D _ (fun _ => True) _ _ hk hn (by have := HN.out; omega) HDU.out (by exact HRD.out)).mono ?_; rintro e w3 ⟨hb3, g, cp', rfl, hrow⟩; have HRW3 := Lib.hid hrow; clear hrow)
   go_ret2
   rw [HF.out]
   exact ⟨But.z, ⟨_, _, rfl, HRW3.out.ris (by have := HRW3.out.lt; omega)⟩, Cur.below hb3 (by omega) HCU.out⟩
end Go.Proofs.YtojjdneicmbfjaaGreat
