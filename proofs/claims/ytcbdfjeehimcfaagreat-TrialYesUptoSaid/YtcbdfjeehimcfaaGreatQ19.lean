/- What the proofs of the Trial statements need: part 20. -/
import Derived.Deep.AppendLies
import Derived.Deep.RegionHeld3
import Derived.Maps.AppendAt
import Derived.Test.YtcbdfjeehimcfaaGreatQ0
import Derived.Test.YtcbdfjeehimcfaaGreatQ11
import Derived.Test.YtcbdfjeehimcfaaGreatQ15
import Derived.Test.YtcbdfjeehimcfaaGreatQ17
import Derived.Test.YtcbdfjeehimcfaaGreatQ18
import Derived.Test.YtcbdfjeehimcfaaGreatQTk
set_option linter.unusedVariables false
set_option linter.unusedSimpArgs false
namespace Go.Proofs.YtcbdfjeehimcfaaGreat
open Go Go.RowKit
/-- how sampling one ends -/
def SamR (c : Nat) (s : ByteArray) (r : Res GV) (w : World) : Ending → World → Prop := fun e w' => But c w.heap.size w w' ∧
 match r with
 | .ok v j => (∃ m, e = .returned (VV v m) ∧ RV w' (fun b => w.heap.size ≤ b) v m.a) ∧ Cur w' c s j false
 | .no k => e = endP k
/-- how sampling several ends -/
def SamsR (c : Nat) (s : ByteArray) (r : Res (List GV)) (w : World) : Ending → World → Prop := fun e w' => But c w.heap.size w w' ∧
 match r with
 | .ok l j => (∃ a cp, e = .returned (.slice a l.length cp) ∧ RVs w' (fun b => w.heap.size ≤ b) l a) ∧ Cur w' c s j false
 | .no k => e = endP k
/-- the sampling of smaller unfoldings -/
def SamIH (c : Nat) (s : ByteArray) (S f : Nat) : Prop := ∀ (t : GT) (e : Env) (i : Nat) (w : World) (m : TA) (a : Option Addr), goodT (!e.isEmpty) t → okT t → sizeT t ≤ S → envOk S e → i ≤ s.size → (∃ k n, wkT f t e k n ≠ none) → Cur w c s i false → RT w (fun b => b ≠ c) t m → REnv w (fun b => b ≠ c) e a →
 Calls Tryz.prog 61 #[.agg #[.pointer (some ⟨c, 0, none⟩)], TV t m, .pointer a] w (SamR c s (sampT s f t e i) w)
def allRest (s : ByteArray) (f : Nat) (e : Env) (D : List GV) (l : List GT) (i : Nat) : Res (List GV) := (allD (fun x => sampT s f x e) l i).map (fun r => D ++ r)
theorem allRest_step (s : ByteArray) (f : Nat) (e : Env) (D : List GV) (l : List GT) (j : Nat) (h : j < l.length) (i : Nat) : allRest s f e D (l.drop j) i = match sampT s f l[j] e i with
  | .no k => .no k
  | .ok v q => allRest s f e (D ++ [v]) (l.drop (j + 1)) q := by
 unfold allRest
 rw [List.drop_eq_getElem_cons h, allD]
 cases sampT s f l[j] e i with
 | no k => rfl
 | ok v q =>
  simp only [Res.bind]
  cases allD (fun x => sampT s f x e) (l.drop (j + 1)) q with
  | no k => rfl
  | ok r p => simp [Res.map]
theorem RVs_of_row {w : World} {base e n : Nat} {v : Value} {ps : List (GV × VA)} {A : Nat → Prop} (h : w.ownsRow base e 3 v n (flatV ps)) (hA : ∀ b, base ≤ b → A b) (hr : ∀ p ∈ ps, RV w A p.1 p.2.a) : ∃ a c, v = .slice a (ps.map Prod.fst).length c ∧ RVs w A (ps.map Prod.fst) a := by
 have hn : ps.length = n := by have := h.1; rw [flatV_length] at this; omega
 rcases h.2 with ⟨rfl, h0⟩ | ⟨g, cap, cur, rfl, hb, h3⟩
 ·have hz : ps = [] := List.eq_nil_of_length_eq_zero (by omega)
  subst hz
  exact ⟨none, 0, rfl, by simp only [List.map_nil, RVs]⟩
 ·refine ⟨_, cap, by rw [List.length_map, hn], RVs_of_owns (hA _ hb) h hr⟩
theorem cells_new3 (w : World) (a b c : Value) (t : TypeId) : ∀ j u, [a, b, c][j]? = some u → (w.alloc (.cells #[a, b, c] t)).cell? ((⟨w.heap.size, 0, none⟩ : Addr).add j) = some u := fun j u hu =>
 World.news_of_block (heap_alloc_new w _) j u (by simpa using hu)
set_option maxRecDepth 100000 in
set_option maxHeartbeats 2000000 in
theorem samAll_any (c : Nat) (s : ByteArray) (S f : Nat) (hS : S ≤ 1099511627776) (ih : SamIH c s S f) (hb : isBits s = true) (l : List GT) (e : Env) (i : Nat) (w : World) (a al : Option Addr) (cp : Nat) (hl64 : l.length ≤ 64)
  (hl : ∀ x ∈ l, goodT (!e.isEmpty) x ∧ okT x ∧ sizeT x ≤ S ∧ ∃ k n, wkT f x e k n ≠ none) (he : envOk S e) (hi : i ≤ s.size) (hc : Cur w c s i false) (hr : RTs w (fun b => b ≠ c) l al) (hv : REnv w (fun b => b ≠ c) e a) :
  Calls Tryz.prog 91 #[.agg #[.pointer (some ⟨c, 0, none⟩)], .slice al l.length cp, .pointer a] w (SamsR c s (allD (fun x => sampT s f x e) l i) w) := by
 have IH := Lib.hid ih
 have HL := Lib.hid hr
 have HV := Lib.hid hv
 have HE := Lib.hid he
 have HG := Lib.hid hl
 have HC := Lib.hid hc
 have hcs : c < w.heap.size := World.block_lt_of_cell? _ _ hc.1.1
 obtain ⟨i0, hi0, y0, y1, y2⟩ := info_parts infoVal
 have hR0 : allRest s f e [] (l.drop 0) i = allD (fun x => sampT s f x e) l i := by
  unfold allRest
  rw [List.drop_zero]
  cases allD (fun x => sampT s f x e) l i <;> simp [Res.map]
 generalize allD (fun x => sampT s f x e) l i = R at *
 have HR0 := Lib.hid hR0
 have hin := fun x hx q hq => sampT_in s S f x e q (hl x hx).1 (hl x hx).2.1 (hl x hx).2.2.1 he hq
 have HIN := Lib.hid hin
 clear ih hr hv he hl hc hR0 hin hb
 go_enter Tryz.func91, Tryz.ntmps91
 go_wp2_with fail
 go_loopg [7, 12] (l.length) (fun gk t7 i' wr => ∃ (j p : Nat) (ps : List (GV × VA)) (v : Value), v = t7 ∧ gk + j = l.length ∧ i' = .int .i64 j ∧ p ≤ s.size ∧ But c w.heap.size w wr ∧ w.heap.size < wr.heap.size ∧ wr.cell? ⟨w.heap.size, 0, none⟩ = some (.pointer (some ⟨c, 0, none⟩)) ∧ Hid (ps.length = j) ∧ Hid (allRest s f e (ps.map Prod.fst) (l.drop j) p = R) ∧ Hid (Cur wr c s p false) ∧
  Hid (wr.ownsRow (w.heap.size + 1) 24 3 v j (flatV ps)) ∧ Hid (∀ q ∈ ps, RV wr (Own w.heap.size (fun _ => False) v) q.1 q.2.a))
 case atStart => exact ⟨0, i, [], _, rfl, by omega, rfl, hi, But.z, by simp, by go_simp, Lib.hid rfl, HR0, Lib.hid (Cur.below (B := w.heap.size) Below.z hcs HC.out), Lib.hid (World.ownsRow_nil _ _ _ _), fun q hq => by simp at hq⟩
 case round =>
  obtain ⟨j, p, ps, v, rfl, hj, rfl, hp, hbt, hz, hcell, HPL, HP, HCU, HO, HQ⟩ := hrel
  by_cases hlt : j < l.length
  ·obtain ⟨b, o, mj, rfl, hA, hbs, g0, gx⟩ := HL.out.get j hlt
   obtain ⟨z0, z1, z2, z3, z4, z5, z6, z7, z8, z9, za, zb, zc, zd, ze⟩ := At15.1 (g0.ext (Agree.but hbt) hA)
   have hs1 : b < wr.heap.size := by have := hbt.size; omega
   have hcr : c < wr.heap.size := by have := hbt.size; omega
   obtain ⟨x1, x2, x3, x4⟩ := HG.out l[j] (List.getElem_mem hlt)
   have HX := Lib.hid (And.intro x1 (And.intro x2 (And.intro x3 x4)))
   have hst := HP.out
   rw [allRest_step _ _ _ _ _ _ hlt] at hst
   have hinj := HIN.out l[j] (List.getElem_mem hlt) p hp
   clear g0 x1 x2 x3 x4
   rcases hW : sampT s f l[j] e p with ⟨v', q⟩ | ⟨k⟩
   ·rw [hW] at hst hinj
    have hq := hinj.2.1
    have HW := Lib.hid hW
    have HST := Lib.hid hst
    clear hW hst hinj
    go_wp2_with (first
     | (go_at_call 61; refine (IH.out l[j] e p _ mj a HX.out.1 HX.out.2.1 HX.out.2.2.1 HE.out hp HX.out.2.2.2 (by exact Cur.below (B := wr.heap.size) Below.z hcr HCU.out) (by exact RT.ext (Agree.but But.z) _ _ gx) (by exact REnv.ext (Agree.but But.z) _ _ HV.out)).mono ?_; rw [HW.out]; rintro e1 w2 ⟨hb2, ⟨m, rfl, hrv⟩, hc2⟩; have HRV := Lib.hid hrv; have HC2 := Lib.hid hc2; clear hrv hc2; have hz2 := hb2.size; simp at hz2; have hbb : But c wr.heap.size wr w2 := But.z; have HO2 := Lib.hid (owns_but HO.out hbb (fun k hk => (by have := HO.out.lt _ hk; omega))))
     | (at_builtin; refine wpList_append_lies _ rfl _ _ 22 rfl (w.heap.size + 1) 24 i0 _ 3 40 Tryz.underlying22 hi0 y0 y1 y2 rfl (by decide) _ j _ (by rfl) (HO2.out.alloc _) ⟨w2.heap.size, 0, none⟩ 1 1 [.int .u8 v'.k, .int .i64 v'.n, .slice m.a v'.l.length m.c] (by rfl) rfl (cells_new3 _ _ _ _ _) (by simp [Value.oneCell']) (by decide) (by unfold maxLen; omega) (by omega) (by simp; omega) (w2.heap.size + 1) (by simp) ?_; intro g cap w4 hown hgrow hat hlt1))
    have hownk : ∀ k, v.ownBlock = some k → w.heap.size ≤ k := fun k e => by have := (HO.out.lt _ e).1; omega
    have hownl : ∀ k, v.ownBlock = some k → k < wr.heap.size := fun k e => (HO.out.lt _ e).2
    have hbw1 : Below (w.heap.size + 1) w2 w4 := Below.grown ((Below.refl _ _).alloc (by omega) _) hgrow (by simp; omega) (fun k e => (HO2.out.lt _ e).1)
    have hag2 : Agree (Own w.heap.size (fun _ => False) v) w2 (w2.alloc (.cells #[.int .u8 v'.k, .int .i64 v'.n, .slice m.a v'.l.length m.c] 24)) := Agree.below ((Below.refl _ _).alloc (Nat.le_refl _) _)
    have hagb : Agree (Own w.heap.size (fun _ => False) v) wr w2 := fun q u hq hcq => (hbb.cell (World.block_lt_of_cell? _ _ hcq) (by rcases hq with ⟨h, _⟩ | ⟨h, _⟩; exact absurd h id; omega)).trans hcq
    go_roundg (gk - 1)
    case measure => omega
    case rel =>
     refine ⟨j + 1, q, ps ++ [(v', m)], _, rfl, by omega, by go_num, hq, (hbt.trans (hbb.mono (by omega))).trans (But.of (hbw1.mono (by omega))), by have := hbw1.size; omega, ?_, Lib.hid (by have := HPL.out; simp; omega), Lib.hid (by rw [List.map_append]; exact HST.out), Lib.hid (Cur.below hbw1 (by omega) HC2.out), Lib.hid ?_, ?_⟩
     ·exact (hbw1.cell (p := ⟨w.heap.size, 0, none⟩) (by simp)).trans ((hbb.cell (p := ⟨w.heap.size, 0, none⟩) (by simp; omega) (by simp; omega)).trans hcell)
     ·rw [flatV_append]; exact hown
     ·intro q hq
      rcases List.mem_append.1 hq with hq | hq
      ·exact RV.own hgrow hownk hat (by simp) (RV.ext hag2 _ _ (RV.ext hagb _ _ (HQ.out q hq)))
      ·simp at hq
       subst hq
       refine RV.own hgrow hownk hat (by simp) (RV.ext hag2 _ _ (RV.mono (fun b h _ => ?_) _ _ HRV.out))
       simp at h
       exact .inr ⟨by omega, fun e => by have := hownl b e; omega⟩
   ·rw [hW] at hst
    have HW := Lib.hid hW
    have HST := Lib.hid hst
    clear hW hst hinj
    go_wp2_with (go_at_call 61; refine (IH.out l[j] e p _ mj a HX.out.1 HX.out.2.1 HX.out.2.2.1 HE.out hp HX.out.2.2.2 (by exact Cur.below (B := wr.heap.size) Below.z hcr HCU.out) (by exact RT.ext (Agree.but But.z) _ _ gx) (by exact REnv.ext (Agree.but But.z) _ _ HV.out)).mono ?_; rw [HW.out]; rintro e1 w2 ⟨hb2, rfl⟩)
    rw [← HST.out]
    exact ⟨rfl, But.z, rfl⟩
  ·have hjl : j = l.length := by omega
   have hst := HP.out
   rw [hjl, List.drop_length] at hst
   have hst2 : R = .ok (ps.map Prod.fst) p := by rw [← hst]; simp [allRest, allD, Res.map]
   have hE := RVs_of_row (A := fun b => w.heap.size ≤ b) HO.out (fun b h => by omega) (fun q hq => RV.mono (fun b hb _ => by rcases hb with ⟨h, _⟩ | ⟨h, _⟩; exact absurd h id; exact h) _ _ (HQ.out q hq))
   obtain ⟨av, cv, hav, hrd⟩ := hE
   have HRD := Lib.hid hrd
   have HAV := Lib.hid hav
   clear hst hrd hav
   subst hst2
   go_wp2_with fail
   go_ret
   exact ⟨hbt, ⟨av, cv, by rw [← HAV.out]; rfl, HRD.out⟩, HCU.out⟩
end Go.Proofs.YtcbdfjeehimcfaaGreat
namespace Go.Proofs.YtcbdfjeehimcfaaGreat
open Go Go.RowKit
theorem pickL_take {α : Type} (l : List α) (row : List Int) (j : Nat) (h : j < row.length) (k : Nat) (hk : row[j] = (k : Int)) (hl : k < l.length) : pickL l (row.take (j + 1)) = pickL l (row.take j) ++ [l[k]] := by
 unfold pickL
 rw [List.take_succ_eq_append_getElem h, List.filterMap_append, hk]
 simp [List.getElem?_eq_getElem hl]
set_option maxRecDepth 100000 in
set_option maxHeartbeats 2000000 in
theorem pickedV_any (l : List GV) (row : List Int) (A A2 : Nat → Prop) (w : World) (al ar : Option Addr) (cl cr : Nat) (hl : l.length ≤ 1048576) (hrow : row.length ≤ 64) (hm : ∀ x ∈ row, 0 ≤ x ∧ x < (l.length : Int)) (hr : RVs w A l al) (hi : RIs w A2 row ar) :
  Calls Tryz.prog 93 #[.slice al l.length cl, .slice ar row.length cr] w fun e w' => Below w.heap.size w w' ∧ ∃ a cp, e = .returned (.slice a (pickL l row).length cp) ∧ RVs w' (fun b => A b ∨ w.heap.size ≤ b) (pickL l row) a := by
 have HL := Lib.hid (RVs.mono (A' := fun b => A b ∧ b < w.heap.size) (fun b h hb => ⟨h, hb⟩) _ _ hr)
 have HI := Lib.hid hi
 have HM := Lib.hid hm
 obtain ⟨i0, hi0, y0, y1, y2⟩ := info_parts infoVal
 clear hr hi hm
 go_enter Tryz.func93, Tryz.ntmps93
 go_wp2_with fail
 go_loopg [5, 10] (row.length) (fun gk t5 i' wr => ∃ (j : Nat) (ps : List (GV × VA)) (v : Value), v = t5 ∧ gk + j = row.length ∧ i' = .int .i64 j ∧ Below w.heap.size w wr ∧ Hid (ps.length = j) ∧ Hid (ps.map Prod.fst = pickL l (row.take j)) ∧
  Hid (wr.ownsRow w.heap.size 24 3 v j (flatV ps)) ∧ Hid (∀ q ∈ ps, RV wr (Own w.heap.size A v) q.1 q.2.a))
 case atStart => exact ⟨0, [], _, rfl, by omega, rfl, Below.z, Lib.hid rfl, Lib.hid rfl, Lib.hid (World.ownsRow_nil _ _ _ _), fun q hq => by simp at hq⟩
 case round =>
  obtain ⟨j, ps, v, rfl, hj, rfl, hb, HPL, HP, HO, HQ⟩ := hrel
  have hz := hb.size
  by_cases hlt : j < row.length
  ·obtain ⟨b1, o1, rfl, hA1, hbs1, g1⟩ := HI.out.get j hlt
   obtain ⟨x0, x1⟩ := HM.out row[j] (List.getElem_mem hlt)
   obtain ⟨k, hk⟩ : ∃ k : Nat, row[j] = (k : Int) := ⟨row[j].toNat, by omega⟩
   have hkl : k < l.length := by omega
   have hkI : (k : Int) < (l.length : Int) := by omega
   have hst := pickL_take l row j hlt k hk hkl
   rw [hk] at g1
   have r0 : wr.cell? ⟨b1, o1 + j, none⟩ = some (.int .i64 k) := (hb.cell hbs1).trans g1
   obtain ⟨b, o, mj, rfl, hA, hbs, g0, gx⟩ := HL.out.get k hkl
   obtain ⟨k0, k1, k2⟩ := At3.1 (g0.ext (Agree.below hb) (A := fun _ => True) trivial)
   have hs1 : b < wr.heap.size := by omega
   have hs2 : b1 < wr.heap.size := by omega
   have HST := Lib.hid hst
   clear g0 g1 hk x0 x1 hst
   go_wp2_with (at_builtin; refine wpList_append_lies _ rfl _ _ 22 rfl w.heap.size 24 i0 _ 3 40 Tryz.underlying22 hi0 y0 y1 y2 rfl (by decide) _ j _ (by rfl) (HO.out.alloc _) ⟨wr.heap.size, 0, none⟩ 1 1 [.int .u8 l[k].k, .int .i64 l[k].n, .slice mj.a l[k].l.length mj.c] (by rfl) rfl (cells_new3 _ _ _ _ _) (by simp [Value.oneCell']) (by decide) (by unfold maxLen; omega) (by omega) (by simp; omega) (wr.heap.size + 1) (by simp) ?_; intro g cap w4 hown hgrow hat hlt1)
   have hownk : ∀ q, v.ownBlock = some q → w.heap.size ≤ q := fun q e => (HO.out.lt _ e).1
   have hbw1 : Below w.heap.size wr w4 := Below.grown ((Below.refl _ _).alloc (by omega) _) hgrow (by simp; omega) hownk
   have hag2 : Agree (Own w.heap.size A v) wr (wr.alloc (.cells #[.int .u8 l[k].k, .int .i64 l[k].n, .slice mj.a l[k].l.length mj.c] 24)) := Agree.below ((Below.refl _ _).alloc (Nat.le_refl _) _)
   go_roundg (gk - 1)
   case measure => omega
   case rel =>
    refine ⟨j + 1, ps ++ [(l[k], mj)], _, rfl, by omega, by go_num, hb.trans hbw1, Lib.hid (by have := HPL.out; simp; omega), Lib.hid (by rw [List.map_append, HP.out, HST.out]; rfl), Lib.hid ?_, ?_⟩
    ·rw [flatV_append]; exact hown
    ·intro q hq
     rcases List.mem_append.1 hq with hq | hq
     ·exact RV.own hgrow hownk hat (by simp) (RV.ext hag2 _ _ (HQ.out q hq))
     ·simp at hq
      subst hq
      exact RV.own hgrow hownk hat (by simp) (RV.ext hag2 _ _ (RV.mono (fun b h _ => .inl h) _ _ (RV.ext (Agree.below hb) _ _ gx)))
  ·have hjl : j = row.length := by omega
   have hst := HP.out
   rw [hjl, List.take_length] at hst
   have hE := RVs_of_row (A := fun b => A b ∨ w.heap.size ≤ b) HO.out (fun b h => .inr h) (fun q hq => RV.mono (fun b hb _ => by rcases hb with ⟨h, _⟩ | ⟨h, _⟩; exact .inl h; exact .inr h) _ _ (HQ.out q hq))
   obtain ⟨av, cv, hav, hrd⟩ := hE
   rw [hst] at hav hrd
   have HRD := Lib.hid hrd
   have HAV := Lib.hid hav
   clear hst hrd hav
   go_wp2_with fail
   go_ret
   exact ⟨hb, av, cv, by rw [← HAV.out]; rfl, HRD.out⟩
end Go.Proofs.YtcbdfjeehimcfaaGreat
namespace Go.Proofs.YtcbdfjeehimcfaaGreat
open Go Go.RowKit
/-- the cells of a row of terms -/
def flatT : List (GT × TA) → List Value
 | [] => []
 | (x, m) :: r => [.int .u8 x.k, .int .u8 x.v.k, .int .i64 x.v.n, .slice m.va x.v.l.length m.vc, .slice m.vsa x.vs.length m.vsc, .int .i64 x.lo, .int .i64 x.hi, .slice m.wa x.w.length m.wc, .int .u8 x.p.k, .int .u8 x.p.v.k, .int .i64 x.p.v.n, .slice m.pva x.p.v.l.length m.pvc, .int .i64 x.p.n, .slice m.pa x.p.a.length m.pc, .slice m.a x.a.length m.c] ++ flatT r
theorem flatT_length : ∀ ps : List (GT × TA), (flatT ps).length = ps.length * 15
 | [] => rfl
 | (x, m) :: r => by simp only [flatT, List.length_append, List.length_cons, List.length_nil, flatT_length r]; omega
theorem flatT_append : ∀ ps qs : List (GT × TA), flatT (ps ++ qs) = flatT ps ++ flatT qs
 | [], qs => rfl
 | (x, m) :: r, qs => by simp only [List.cons_append, flatT, flatT_append r qs, List.nil_append]
theorem RTs_of_cells {w : World} {g : Nat} {A : Nat → Prop} (hA : A g) : ∀ (ps : List (GT × TA)) (o : Nat), (∀ j u, (flatT ps)[j]? = some u → w.cell? ⟨g, o + j, none⟩ = some u) → (∀ p ∈ ps, RT w A p.1 p.2) → RTs w A (ps.map Prod.fst) (some ⟨g, o, none⟩)
 | [], o, _, _ => by simp only [List.map_nil, RTs]
 | (x, m) :: r, o, h, hr => by
  simp only [List.map_cons, RTs]
  refine ⟨g, o, m, rfl, hA, ?_, hr (x, m) (by simp), RTs_of_cells hA r (o + 15) (fun j u hj => ?_) fun p hp => hr p (by simp [hp])⟩
  ·rw [At15]
   exact ⟨h 0 _ rfl, h 1 _ rfl, h 2 _ rfl, h 3 _ rfl, h 4 _ rfl, h 5 _ rfl, h 6 _ rfl, h 7 _ rfl, h 8 _ rfl, h 9 _ rfl, h 10 _ rfl, h 11 _ rfl, h 12 _ rfl, h 13 _ rfl, h 14 _ rfl⟩
  ·have := h (j + 15) u (by simpa [flatT] using hj)
   rw [show o + 15 + j = o + (j + 15) by omega]; exact this
theorem RTs_of_row {w : World} {base e n : Nat} {v : Value} {ps : List (GT × TA)} {A : Nat → Prop} (h : w.ownsRow base e 15 v n (flatT ps)) (hA : ∀ b, base ≤ b → A b) (hr : ∀ p ∈ ps, RT w A p.1 p.2) : ∃ a c, v = .slice a (ps.map Prod.fst).length c ∧ RTs w A (ps.map Prod.fst) a := by
 have hn : ps.length = n := by have := h.1; rw [flatT_length] at this; omega
 rcases h.2 with ⟨rfl, h0⟩ | ⟨g, cap, cur, rfl, hb, h3⟩
 ·have hz : ps = [] := List.eq_nil_of_length_eq_zero (by omega)
  subst hz
  exact ⟨none, 0, rfl, by simp only [List.map_nil, RTs]⟩
 ·refine ⟨_, cap, by rw [List.length_map, hn], RTs_of_cells (hA _ hb) ps 0 (fun j u hj => ?_) hr⟩
  have hl := h.1
  have hj2 := (List.getElem?_eq_some_iff.1 hj).1
  rw [Nat.zero_add, h.cellAt j (by omega)]; exact hj
theorem infoTerm : (Tryz.prog.info? 31).map (fun i => (i.zero, i.size, i.bytes)) = some (some (.agg #[.int .u8 0, .int .u8 0, .int .i64 0, .slice none 0 0, .slice none 0 0, .int .i64 0, .int .i64 0, .slice none 0 0, .int .u8 0, .int .u8 0, .int .i64 0, .slice none 0 0, .int .i64 0, .slice none 0 0, .slice none 0 0]), 15, 216) := by kernel_rfl
set_option maxRecDepth 100000 in
set_option maxHeartbeats 2000000 in
theorem pickedT_any (l : List GT) (row : List Int) (A A2 : Nat → Prop) (w : World) (al ar : Option Addr) (cl cr : Nat) (hl : l.length ≤ 1048576) (hrow : row.length ≤ 64) (hm : ∀ x ∈ row, 0 ≤ x ∧ x < (l.length : Int)) (hr : RTs w A l al) (hi : RIs w A2 row ar) :
  Calls Tryz.prog 96 #[.slice al l.length cl, .slice ar row.length cr] w fun e w' => Below w.heap.size w w' ∧ ∃ a cp, e = .returned (.slice a (pickL l row).length cp) ∧ RTs w' (fun b => A b ∨ w.heap.size ≤ b) (pickL l row) a := by
 have HL := Lib.hid (RTs.mono (A' := fun b => A b ∧ b < w.heap.size) (fun b h hb => ⟨h, hb⟩) _ _ hr)
 have HI := Lib.hid hi
 have HM := Lib.hid hm
 obtain ⟨i0, hi0, y0, y1, y2⟩ := info_parts infoTerm
 clear hr hi hm
 go_enter Tryz.func96, Tryz.ntmps96
 go_wp2_with fail
 go_loopg [5, 10] (row.length) (fun gk t5 i' wr => ∃ (j : Nat) (ps : List (GT × TA)) (v : Value), v = t5 ∧ gk + j = row.length ∧ i' = .int .i64 j ∧ Below w.heap.size w wr ∧ Hid (ps.length = j) ∧ Hid (ps.map Prod.fst = pickL l (row.take j)) ∧
  Hid (wr.ownsRow w.heap.size 31 15 v j (flatT ps)) ∧ Hid (∀ q ∈ ps, RT wr (Own w.heap.size A v) q.1 q.2))
 case atStart => exact ⟨0, [], _, rfl, by omega, rfl, Below.z, Lib.hid rfl, Lib.hid rfl, Lib.hid (World.ownsRow_nil _ _ _ _), fun q hq => by simp at hq⟩
 case round =>
  obtain ⟨j, ps, v, rfl, hj, rfl, hb, HPL, HP, HO, HQ⟩ := hrel
  have hz := hb.size
  by_cases hlt : j < row.length
  ·obtain ⟨b1, o1, rfl, hA1, hbs1, g1⟩ := HI.out.get j hlt
   obtain ⟨x0, x1⟩ := HM.out row[j] (List.getElem_mem hlt)
   obtain ⟨k, hk⟩ : ∃ k : Nat, row[j] = (k : Int) := ⟨row[j].toNat, by omega⟩
   have hkl : k < l.length := by omega
   have hkI : (k : Int) < (l.length : Int) := by omega
   have hst := pickL_take l row j hlt k hk hkl
   rw [hk] at g1
   have r0 : wr.cell? ⟨b1, o1 + j, none⟩ = some (.int .i64 k) := (hb.cell hbs1).trans g1
   obtain ⟨b, o, mj, rfl, hA, hbs, g0, gx⟩ := HL.out.get k hkl
   obtain ⟨z0, z1, z2, z3, z4, z5, z6, z7, z8, z9, za, zb, zc, zd, ze⟩ := At15.1 (g0.ext (Agree.below hb) (A := fun _ => True) trivial)
   have hs1 : b < wr.heap.size := by omega
   have hs2 : b1 < wr.heap.size := by omega
   have HST := Lib.hid hst
   clear g0 g1 hk x0 x1 hst
   go_wp2_with (at_builtin; refine wpList_append_lies _ rfl _ _ 29 rfl w.heap.size 31 i0 _ 15 216 Tryz.underlying29 hi0 y0 y1 y2 rfl (by decide) _ j _ (by rfl) (HO.out.alloc _) ⟨wr.heap.size, 0, none⟩ 1 1 [.int .u8 l[k].k, .int .u8 l[k].v.k, .int .i64 l[k].v.n, .slice mj.va l[k].v.l.length mj.vc, .slice mj.vsa l[k].vs.length mj.vsc, .int .i64 l[k].lo, .int .i64 l[k].hi, .slice mj.wa l[k].w.length mj.wc, .int .u8 l[k].p.k, .int .u8 l[k].p.v.k, .int .i64 l[k].p.v.n, .slice mj.pva l[k].p.v.l.length mj.pvc, .int .i64 l[k].p.n, .slice mj.pa l[k].p.a.length mj.pc, .slice mj.a l[k].a.length mj.c] (by rfl) rfl (fun j u hu => World.news_of_block (heap_alloc_new wr _) j u (by simpa using hu)) (by simp [Value.oneCell']) (by decide) (by unfold maxLen; omega) (by omega) (by simp; omega) (wr.heap.size + 1) (by simp) ?_; intro g cap w4 hown hgrow hat hlt1)
   have hownk : ∀ q, v.ownBlock = some q → w.heap.size ≤ q := fun q e => (HO.out.lt _ e).1
   have hbw1 : Below w.heap.size wr w4 := Below.grown ((Below.refl _ _).alloc (by omega) _) hgrow (by simp; omega) hownk
   have hag2 : Agree (Own w.heap.size A v) wr (wr.alloc (.cells #[.int .u8 l[k].k, .int .u8 l[k].v.k, .int .i64 l[k].v.n, .slice mj.va l[k].v.l.length mj.vc, .slice mj.vsa l[k].vs.length mj.vsc, .int .i64 l[k].lo, .int .i64 l[k].hi, .slice mj.wa l[k].w.length mj.wc, .int .u8 l[k].p.k, .int .u8 l[k].p.v.k, .int .i64 l[k].p.v.n, .slice mj.pva l[k].p.v.l.length mj.pvc, .int .i64 l[k].p.n, .slice mj.pa l[k].p.a.length mj.pc, .slice mj.a l[k].a.length mj.c] 31)) := Agree.below ((Below.refl _ _).alloc (Nat.le_refl _) _)
   go_roundg (gk - 1)
   case measure => omega
   case rel =>
    refine ⟨j + 1, ps ++ [(l[k], mj)], _, rfl, by omega, by go_num, hb.trans hbw1, Lib.hid (by have := HPL.out; simp; omega), Lib.hid (by rw [List.map_append, HP.out, HST.out]; rfl), Lib.hid ?_, ?_⟩
    ·rw [flatT_append]; exact hown
    ·intro q hq
     rcases List.mem_append.1 hq with hq | hq
     ·exact RT.own hgrow hownk hat (by simp) (RT.ext hag2 _ _ (HQ.out q hq))
     ·simp at hq
      subst hq
      exact RT.own hgrow hownk hat (by simp) (RT.ext hag2 _ _ (RT.mono (fun b h _ => .inl h) _ _ (RT.ext (Agree.below hb) _ _ gx)))
  ·have hjl : j = row.length := by omega
   have hst := HP.out
   rw [hjl, List.take_length] at hst
   have hE := RTs_of_row (A := fun b => A b ∨ w.heap.size ≤ b) HO.out (fun b h => .inr h) (fun q hq => RT.mono (fun b hb _ => by rcases hb with ⟨h, _⟩ | ⟨h, _⟩; exact .inl h; exact .inr h) _ _ (HQ.out q hq))
   obtain ⟨av, cv, hav, hrd⟩ := hE
   rw [hst] at hav hrd
   have HRD := Lib.hid hrd
   have HAV := Lib.hid hav
   clear hst hrd hav
   go_wp2_with fail
   go_ret
   exact ⟨hb, av, cv, by rw [← HAV.out]; rfl, HRD.out⟩
end Go.Proofs.YtcbdfjeehimcfaaGreat
namespace Go.Proofs.YtcbdfjeehimcfaaGreat
open Go Go.RowKit
/-- a term is told, made of what A allows and of what is new -/
def PutR (w : World) (A : Nat → Prop) (x : GT) (e : Ending) (w' : World) : Prop := Below w.heap.size w w' ∧ ∃ m : TA, e = .returned (TV x m) ∧ RT w' (fun b => A b ∨ w.heap.size ≤ b) x m
/-- the boxes of Put: both terms, what it tells, and the term that it makes, whose row is v -/
structure PutM (n : Nat) (t s : GT) (m q : TA) (v : Value) (W : World) : Prop where
 sz : n + 4 ≤ W.heap.size
 a : At W n 0 [.int .u8 t.k, .int .u8 t.v.k, .int .i64 t.v.n, .slice m.va t.v.l.length m.vc, .slice m.vsa t.vs.length m.vsc, .int .i64 t.lo, .int .i64 t.hi, .slice m.wa t.w.length m.wc, .int .u8 t.p.k, .int .u8 t.p.v.k, .int .i64 t.p.v.n, .slice m.pva t.p.v.l.length m.pvc, .int .i64 t.p.n, .slice m.pa t.p.a.length m.pc, .slice m.a t.a.length m.c]
 b : At W (n + 1) 0 [.int .u8 s.k, .int .u8 s.v.k, .int .i64 s.v.n, .slice q.va s.v.l.length q.vc, .slice q.vsa s.vs.length q.vsc, .int .i64 s.lo, .int .i64 s.hi, .slice q.wa s.w.length q.wc, .int .u8 s.p.k, .int .u8 s.p.v.k, .int .i64 s.p.v.n, .slice q.pva s.p.v.l.length q.pvc, .int .i64 s.p.n, .slice q.pa s.p.a.length q.pc, .slice q.a s.a.length q.c]
 c : At W (n + 1 + 1) 0 [.int .u8 0, .int .u8 0, .int .i64 0, .slice none 0 0, .slice none 0 0, .int .i64 0, .int .i64 0, .slice none 0 0, .int .u8 0, .int .u8 0, .int .i64 0, .slice none 0 0, .int .i64 0, .slice none 0 0, .slice none 0 0]
 cf : ∀ k, W.frozen? ⟨n + 1 + 1, k, none⟩ = false
 d : At W (n + 1 + 1 + 1) 0 [.int .u8 t.k, .int .u8 t.v.k, .int .i64 t.v.n, .slice m.va t.v.l.length m.vc, .slice m.vsa t.vs.length m.vsc, .int .i64 t.lo, .int .i64 t.hi, .slice m.wa t.w.length m.wc, .int .u8 t.p.k, .int .u8 t.p.v.k, .int .i64 t.p.v.n, .slice m.pva t.p.v.l.length m.pvc, .int .i64 t.p.n, .slice m.pa t.p.a.length m.pc, v]
 df : ∀ k, W.frozen? ⟨n + 1 + 1 + 1, k, none⟩ = false
theorem At.eq {w w' : World} {b : Nat} (h : ∀ o, w'.cell? ⟨b, o, none⟩ = w.cell? ⟨b, o, none⟩) : ∀ (l : List Value) (o : Nat), At w b o l → At w' b o l
 | [], _, _ => by simp only [At]
 | v :: l, o, hx => by
  simp only [At] at hx ⊢
  exact ⟨(h o).trans hx.1, At.eq h l _ hx.2⟩
theorem PutM.ext {n : Nat} {t s : GT} {m q : TA} {v : Value} {W W' : World} (h : PutM n t s m q v W) (hs : W.heap.size ≤ W'.heap.size) (hc : ∀ c o, c < n + 4 → W'.cell? ⟨c, o, none⟩ = W.cell? ⟨c, o, none⟩) (hf : ∀ c o, c < n + 4 → W'.frozen? ⟨c, o, none⟩ = W.frozen? ⟨c, o, none⟩) : PutM n t s m q v W' :=
 ⟨Nat.le_trans h.sz hs, At.eq (fun o => hc _ o (by omega)) _ _ h.a, At.eq (fun o => hc _ o (by omega)) _ _ h.b, At.eq (fun o => hc _ o (by omega)) _ _ h.c, fun k => (hf _ k (by omega)).trans (h.cf k), At.eq (fun o => hc _ o (by omega)) _ _ h.d, fun k => (hf _ k (by omega)).trans (h.df k)⟩
theorem At.but {c B : Nat} {w w' : World} (h : But c B w w') {b : Nat} (hb : b < B) (hne : b ≠ c) (l : List Value) (o : Nat) (hx : At w b o l) : At w' b o l := At.eq (fun o => h.cell (p := ⟨b, o, none⟩) hb hne) l o hx
theorem PutM.set {n : Nat} {t s : GT} {m q : TA} {v : Value} {W : World} (h : PutM n t s m q v W) (u : Value) : PutM n t s m q u (W.setCell ⟨n + 1 + 1 + 1, 14, none⟩ u) := by
 have hb : But (n + 1 + 1 + 1) W.heap.size W (W.setCell ⟨n + 1 + 1 + 1, 14, none⟩ u) := But.setOwn (But.refl _ _ _) _ _
 have hz := h.sz
 obtain ⟨d0, d1, d2, d3, d4, d5, d6, d7, d8, d9, da, db, dc, dd, de⟩ := At15z.1 h.d
 refine ⟨Nat.le_trans hz hb.size, At.but hb (by omega) (by omega) _ _ h.a, At.but hb (by omega) (by omega) _ _ h.b, At.but hb (by omega) (by omega) _ _ h.c, fun k => (hb.frozen (p := ⟨_, k, none⟩) (by simp; omega) (by simp)).trans (h.cf k), At15z.2 ⟨?_, ?_, ?_, ?_, ?_, ?_, ?_, ?_, ?_, ?_, ?_, ?_, ?_, ?_, ?_⟩, fun k => ?_⟩
 all_goals first | (go_simp; done) | (have := h.df k; go_simp)
theorem grown_low {W w4 : World} {r : Option Nat} {B : Nat} (hg : W.grownBy w4 r) (ho : ∀ k, r = some k → B ≤ k) (hB : B ≤ W.heap.size) :
  (∀ c o, c < B → w4.cell? ⟨c, o, none⟩ = W.cell? ⟨c, o, none⟩) ∧ (∀ c o, c < B → w4.frozen? ⟨c, o, none⟩ = W.frozen? ⟨c, o, none⟩) :=
 ⟨fun c o hc => hg.cell_far ⟨c, o, none⟩ (Nat.lt_of_lt_of_le hc hB) (fun e => by have := ho c e.symm; omega), fun c o hc => hg.frozen_far ⟨c, o, none⟩ (Nat.lt_of_lt_of_le hc hB) (fun e => by have := ho c e.symm; omega)⟩
theorem cells_at15 {W : World} {n : Nat} (hn : W.heap.size = n) (a b c d e f g h i j k l m o p : Value) (t : TypeId) : ∀ r u, [a, b, c, d, e, f, g, h, i, j, k, l, m, o, p][r]? = some u → (W.alloc (.cells #[a, b, c, d, e, f, g, h, i, j, k, l, m, o, p] t)).cell? ((⟨n, 0, none⟩ : Addr).add r) = some u := by
 subst hn
 exact fun r u hu => World.news_of_block (heap_alloc_new W _) r u (by simpa using hu)
/-- what is laid behind the row -/
theorem put_next {B n : Nat} {A : Nat → Prop} {v : Value} {W w4 : World} {g cap j H : Nat} {ps : List (GT × TA)} {x : GT} {m : TA} (hn : n < B) (hgrow : W.grownBy w4 v.ownBlock) (hown : ∀ k, v.ownBlock = some k → B ≤ k) (hat : v.ownBlock = some g ∨ g = H) (hH : W.heap.size = H) (hB : B ≤ W.heap.size) (u : Value) (hA : ∀ b, A b → b < n)
  (hps : ∀ q ∈ ps, RT W (Own B A v) q.1 q.2) (hx : RT W (Own B A v) x m) : ∀ q ∈ ps ++ [(x, m)], RT (w4.setCell ⟨n, 14, none⟩ u) (Own B A (.slice (some ⟨g, 0, none⟩) j cap)) q.1 q.2 := by
 intro q hq
 have hs : Agree (Own B A (.slice (some ⟨g, 0, none⟩) j cap)) w4 (w4.setCell ⟨n, 14, none⟩ u) := Agree.set (p := ⟨n, 14, none⟩) (fun h => by rcases h with ⟨h, _⟩ | ⟨h, _⟩; exact absurd (hA _ h) (by simp); exact absurd h (by simp; omega))
 refine RT.ext hs _ _ ?_
 rcases List.mem_append.1 hq with hq | hq
 ·exact RT.own hgrow hown hat hH (hps q hq)
 ·simp at hq
  subst hq
  exact RT.own hgrow hown hat hH hx
/-- a round of Put -/
theorem put_rel {w wr W w4 : World} {A : Nat → Prop} {t s x : GT} {m q mx : TA} {v : Value} {gk j g cap H e : Nat} {ps : List (GT × TA)} (hj : gk + j = t.a.length) (hlt : j < t.a.length) (hb : Below w.heap.size w wr) (hM : PutM w.heap.size t s m q v wr) (hPL : ps.length = j) (hP : ps.map Prod.fst = (putTs s t.k 0 t.a).take j) (hst : (putTs s t.k 0 t.a).take (j + 1) = (putTs s t.k 0 t.a).take j ++ [x])
  (hQ : ∀ q ∈ ps, RT wr (Own (w.heap.size + 4) (fun b => A b ∧ b < w.heap.size) v) q.1 q.2) (hW : Below wr.heap.size wr W) (hx : RT W (Own (w.heap.size + 4) (fun b => A b ∧ b < w.heap.size) v) x mx) (hown : w4.ownsRow (w.heap.size + 4) e 15 (.slice (some ⟨g, 0, none⟩) (j + 1) cap) (j + 1) (flatT ps ++ [.int .u8 x.k, .int .u8 x.v.k, .int .i64 x.v.n, .slice mx.va x.v.l.length mx.vc, .slice mx.vsa x.vs.length mx.vsc, .int .i64 x.lo, .int .i64 x.hi, .slice mx.wa x.w.length mx.wc, .int .u8 x.p.k, .int .u8 x.p.v.k, .int .i64 x.p.v.n, .slice mx.pva x.p.v.l.length mx.pvc, .int .i64 x.p.n, .slice mx.pa x.p.a.length mx.pc, .slice mx.a x.a.length mx.c]))
  (hgrow : W.grownBy w4 v.ownBlock) (hownk : ∀ k, v.ownBlock = some k → w.heap.size + 4 ≤ k) (hat : v.ownBlock = some g ∨ g = H) (hH : W.heap.size = H) (hlt1 : g < w4.heap.size) :
  ∃ (j' : Nat) (ps' : List (GT × TA)) (v' : Value), gk - 1 + j' = t.a.length ∧ Value.int .i64 ((j : Int) + 1) = .int .i64 j' ∧ Below w.heap.size w (w4.setCell ⟨w.heap.size + 1 + 1 + 1, 14, none⟩ (.slice (some ⟨g, 0, none⟩) (j + 1) cap)) ∧ Hid (PutM w.heap.size t s m q v' (w4.setCell ⟨w.heap.size + 1 + 1 + 1, 14, none⟩ (.slice (some ⟨g, 0, none⟩) (j + 1) cap))) ∧ Hid (ps'.length = j') ∧ Hid (ps'.map Prod.fst = (putTs s t.k 0 t.a).take j') ∧
   Hid ((w4.setCell ⟨w.heap.size + 1 + 1 + 1, 14, none⟩ (.slice (some ⟨g, 0, none⟩) (j + 1) cap)).ownsRow (w.heap.size + 4) e 15 v' j' (flatT ps')) ∧ Hid (∀ q ∈ ps', RT (w4.setCell ⟨w.heap.size + 1 + 1 + 1, 14, none⟩ (.slice (some ⟨g, 0, none⟩) (j + 1) cap)) (Own (w.heap.size + 4) (fun b => A b ∧ b < w.heap.size) v') q.1 q.2) := by
 have hz := hM.sz
 have hzW := hW.size
 have hzg := hgrow.size
 have hbW : Below w.heap.size w W := hb.trans (hW.mono (by omega))
 have hbg : Below w.heap.size w w4 := Below.grown hbW hgrow (by omega) (fun k hk => by have := hownk k hk; omega)
 obtain ⟨hc4, hf4⟩ := grown_low hgrow hownk (by omega)
 refine ⟨j + 1, ps ++ [(x, mx)], .slice (some ⟨g, 0, none⟩) (j + 1) cap, by omega, by simp, Below.setCell hbg (by simp; omega) _, Lib.hid ?_, Lib.hid (by simp; omega), Lib.hid (by rw [List.map_append, hP, hst]; rfl), Lib.hid ?_, Lib.hid ?_⟩
 ·refine PutM.set (v := v) (PutM.ext hM (by omega) ?_ ?_) _
  ·intro c i hc; rw [hc4 c i hc]; exact hW.cell (p := ⟨c, i, none⟩) (by simp; omega)
  ·intro c i hc; rw [hf4 c i hc]; exact hW.frozen (p := ⟨c, i, none⟩) (by simp; omega)
 ·rw [flatT_append]
  exact owns_but (c := w.heap.size + 1 + 1 + 1) (B := w4.heap.size) hown (But.setOwn (But.refl _ _ _) _ _) (fun k hk => by have e : k = g := (by cases hk; rfl); rw [e]; exact ⟨hlt1, by rcases hat with h | h; have := hownk _ h; omega; omega⟩)
 ·exact put_next (by omega) hgrow hownk hat hH (by omega) _ (fun b h => by have := h.2; omega) (fun q hq => RT.ext (Agree.below hW) _ _ (hQ q hq)) hx
abbrev PutIH (N : Nat) : Prop := ∀ (t s : GT) (w : World) (A : Nat → Prop) (m q : TA), sizeT t ≤ N → okT t → RT w A t m → RT w A s q →
  Calls Tryz.prog 107 #[TV t m, TV s q] w (PutR w A (putT s t))
end Go.Proofs.YtcbdfjeehimcfaaGreat
namespace Go.Proofs.YtcbdfjeehimcfaaGreat
open Go Go.RowKit
set_option maxRecDepth 100000 in
set_option maxHeartbeats 16000000 in
theorem r19put_x (N : Nat) (ih : PutIH N) (t s : GT) (w : World) (A : Nat → Prop) (m q : TA) (hN : sizeT t ≤ N + 1) (ox : okT t) (hl : RT w A t m) (hs : RT w A s q) (hk : ¬ t.k = 11) (hk0 : ¬ t.k = 10) :
  Calls Tryz.prog 107 #[TV t m, TV s q] w (PutR w A (putT s t)) := by
 obtain ⟨ma, mb, mc, md, me, mf, mg, mh, mi, mj, mk, ml⟩ := m
 obtain ⟨na, nb, nc, nd, ne, nf, ng, nh, ni, nj, nk, nl⟩ := q
 have IH := Lib.hid ih
 have HT := Lib.hid (RT.mono (A' := fun b => A b ∧ b < w.heap.size) (fun b h hb => ⟨h, hb⟩) _ _ hl)
 have HS := Lib.hid (RT.mono (A' := fun b => A b ∧ b < w.heap.size) (fun b h hb => ⟨h, hb⟩) _ _ hs)
 have HL := Lib.hid (RT_iff.1 HT.out).2.2.2.2
 obtain ⟨-, -, -, -, -, -, -, oal, oa⟩ := okT_iff.1 ox
 have O := Lib.hid oa
 have hse := sizeT_eq t
 clear ih hl hs ox oa
 have hk10 : (t.k == 10) = false := by simp [hk0]
 rw [putT_eq, if_neg hk]
 have hk' : (t.k == 11) = false := by simp [hk]
 obtain ⟨i0, hi0, y0, y1, y2⟩ := info_parts infoTerm
 clear hk
 go_enter Tryz.func107, Tryz.ntmps107
 go_wp2_with fail
 go_loopg [6] (t.a.length) (fun gk t6 wr => ∃ (j : Nat) (ps : List (GT × TA)) (v : Value), gk + j = t.a.length ∧ t6 = .int .i64 j ∧ Below w.heap.size w wr ∧ Hid (PutM w.heap.size t s ⟨ma, mb, mc, md, me, mf, mg, mh, mi, mj, mk, ml⟩ ⟨na, nb, nc, nd, ne, nf, ng, nh, ni, nj, nk, nl⟩ v wr) ∧ Hid (ps.length = j) ∧ Hid (ps.map Prod.fst = (putTs s t.k 0 t.a).take j) ∧ Hid (wr.ownsRow (w.heap.size + 4) 31 15 v j (flatT ps)) ∧ Hid (∀ q ∈ ps, RT wr (Own (w.heap.size + 4) (fun b => A b ∧ b < w.heap.size) v) q.1 q.2))
 case atStart => exact ⟨0, [], .slice none 0 0, by omega, rfl, Below.r, Lib.hid ⟨by simp, At15z.2 ⟨by go_simp, by go_simp, by go_simp, by go_simp, by go_simp, by go_simp, by go_simp, by go_simp, by go_simp, by go_simp, by go_simp, by go_simp, by go_simp, by go_simp, by go_simp⟩, At15z.2 ⟨by go_simp, by go_simp, by go_simp, by go_simp, by go_simp, by go_simp, by go_simp, by go_simp, by go_simp, by go_simp, by go_simp, by go_simp, by go_simp, by go_simp, by go_simp⟩, At15z.2 ⟨by go_simp, by go_simp, by go_simp, by go_simp, by go_simp, by go_simp, by go_simp, by go_simp, by go_simp, by go_simp, by go_simp, by go_simp, by go_simp, by go_simp, by go_simp⟩, fun k => by go_simp, At15z.2 ⟨by go_simp, by go_simp, by go_simp, by go_simp, by go_simp, by go_simp, by go_simp, by go_simp, by go_simp, by go_simp, by go_simp, by go_simp, by go_simp, by go_simp, by go_simp⟩, fun k => by go_simp⟩, Lib.hid rfl, Lib.hid rfl, Lib.hid (World.ownsRow_nil _ _ _ _), Lib.hid (fun q hq => by simp at hq)⟩
 case round =>
  obtain ⟨j, ps, v, hj, rfl, hb, HM, HPL, HP, HO, HQ⟩ := hrel
  have hz := HM.out.sz
  by_cases hlt : j < t.a.length
  ·obtain ⟨b, o, mj', rfl, hA, hbs, g0, gx⟩ := HL.out.get j hlt
   have hbw := hA.2
   obtain ⟨k0, k1, k2, k3, k4, k5, k6, k7, k8, k9, ka, kb, kc, kd, ke⟩ := At15.1 (g0.ext (Agree.below hb) (A := fun _ => True) trivial)
   obtain ⟨a0, -, -, -, -, -, -, -, -, -, -, -, -, -, ae⟩ := At15z.1 HM.out.a
   obtain ⟨b0, b1, b2, b3, b4, b5, b6, b7, b8, b9, ba, bb, bc, bd, be⟩ := At15z.1 HM.out.b
   obtain ⟨-, -, -, -, -, -, -, -, -, -, -, -, -, -, de⟩ := At15z.1 HM.out.d
   have df := HM.out.df
   have u0 : w.heap.size < wr.heap.size := by omega
   have u1 : w.heap.size + 1 < wr.heap.size := by omega
   have u3 : w.heap.size + 1 + 1 + 1 < wr.heap.size := by omega
   have hs1 : b < wr.heap.size := by omega
   have hb4 : b < w.heap.size + 4 := by omega
   have hb5 : ¬ b = w.heap.size + 1 + 1 + 1 := by omega
   have HOK := Lib.hid (show ∀ k, v.ownBlock = some k → k < wr.heap.size from fun k hk => (HO.out.lt _ hk).2)
   have HOWN := Lib.hid (show ∀ k, v.ownBlock = some k → w.heap.size + 4 ≤ k from fun k hk => (HO.out.lt _ hk).1)
   have hst := putTs_take s t.k t.a j hlt
   have hsj := sizeTs_get t.a j hlt
   have HC := Lib.hid (fun (W : World) (m1 m2 : TA) (h1 : RT W (fun b => A b ∧ b < w.heap.size) (t.a[j]'hlt) m1) (h2 : RT W (fun b => A b ∧ b < w.heap.size) s m2) => IH.out (t.a[j]'hlt) s W (fun b => A b ∧ b < w.heap.size) m1 m2 (by omega) (O.out.get j hlt) h1 h2)
   clear g0
   have hsb : stepB t.k j = false := by simp [stepB, hk10]
   rw [hsb, if_neg (by simp)] at hst
   generalize putT s t.a[j] = X at HC hst
   have HST := Lib.hid hst
   clear hst hsb
   go_wp2_with fail
   refine wp_region_held_drew (S := (fun W => W.cell? ⟨w.heap.size, 14, none⟩ = some (.slice (some ⟨b, o, none⟩) t.a.length ml) ∧ (∀ k, W.cell? ⟨b, k, none⟩ = wr.cell? ⟨b, k, none⟩) ∧ ∀ k, W.cell? ⟨w.heap.size + 1, k, none⟩ = wr.cell? ⟨w.heap.size + 1, k, none⟩)) (by kernel_rfl) ?_ (fun hHeld => ?_)
   ·((try dsimp only); (refine ⟨by go_simp, fun k => by go_simp, fun k => by go_simp⟩))
   refine tkh 0 (v := ?_) rfl (.inl ⟨by rfl, ?_⟩) ?_
   rotate_left
   ·((intro w hSw; (try dsimp only at hSw); go_simp) <;> with_reducible rfl)
   try simp only [Act.put, List.setIfInBounds_toArray, List.set_cons_zero, List.set_cons_succ]
   refine tkh 2 (v := ?_) rfl (.inl ⟨by rfl, ?_⟩) ?_
   rotate_left
   ·((intro w hSw; (try dsimp only at hSw); go_simp) <;> with_reducible rfl)
   try simp only [Act.put, List.setIfInBounds_toArray, List.set_cons_zero, List.set_cons_succ]
   refine tkh 3 (v := ?_) rfl (.inl ⟨by rfl, ?_⟩) ?_
   rotate_left
   ·((intro w hSw; (try dsimp only at hSw); go_simp) <;> with_reducible rfl)
   try simp only [Act.put, List.setIfInBounds_toArray, List.set_cons_zero, List.set_cons_succ]
   refine tkh 4 (v := ?_) rfl (.inl ⟨by rfl, ?_⟩) ?_
   rotate_left
   ·((intro w hSw; (try dsimp only at hSw); go_simp) <;> with_reducible rfl)
   try simp only [Act.put, List.setIfInBounds_toArray, List.set_cons_zero, List.set_cons_succ]
   refine tkh 5 (v := ?_) rfl (.inl ⟨by rfl, ?_⟩) ?_
   rotate_left
   ·((intro w hSw; (try dsimp only at hSw); go_simp) <;> with_reducible rfl)
   try simp only [Act.put, List.setIfInBounds_toArray, List.set_cons_zero, List.set_cons_succ]
   refine tkh 6 (v := ?_) rfl (.inl ⟨by rfl, ?_⟩) ?_
   rotate_left
   ·((intro w hSw; (try dsimp only at hSw); go_simp) <;> with_reducible rfl)
   try simp only [Act.put, List.setIfInBounds_toArray, List.set_cons_zero, List.set_cons_succ]
   refine tkh 7 (v := ?_) rfl (.inl ⟨by rfl, ?_⟩) ?_
   rotate_left
   ·((intro w hSw; (try dsimp only at hSw); go_simp) <;> with_reducible rfl)
   try simp only [Act.put, List.setIfInBounds_toArray, List.set_cons_zero, List.set_cons_succ]
   refine wpAnyH_ready (rs := [1, 8]) (by kernel_rfl) (by simp) ?_
   refine AllReadyH.cons rfl (fun K hK => ?_) ?_
   ·go_simp
    refine hK.out _ _ ?_ (fun hHeld => ?_)
    ·((try dsimp only); (refine ⟨by go_simp, fun k => by go_simp, fun k => by go_simp⟩))
    clear hK K
    refine wpAnyH_ready (rs := [8]) (by kernel_rfl) (by simp) ?_
    refine AllReadyH.cons rfl (fun K hK => ?_) ?_
    ·go_simp
     go_wp2_with (go_at_call 107; (with_reducible refine (HC.out _ mj' ⟨na, nb, nc, nd, ne, nf, ng, nh, ni, nj, nk, nl⟩ (by exact RT.ext (Agree.below Below.r) _ _ gx) (by exact RT.ext (Agree.below Below.r) _ _ HS.out)).mono ?_); rintro e w2 ⟨hb2, m2, rfl, hrt⟩; have HRT : Hid (RT w2 (fun c => (A c ∧ c < w.heap.size) ∨ wr.heap.size ≤ c) X m2) := Lib.hid hrt; clear hrt; have hz2 := hb2.size; (try simp at hz2); have hbr2 : Below wr.heap.size wr w2 := Below.r; have hw2 : w.heap.size + 4 ≤ w2.heap.size := (by omega); have v0 : w.heap.size < w2.heap.size := (by omega); have v1 : w.heap.size + 1 < w2.heap.size := (by omega); have v3 : w.heap.size + 1 + 1 + 1 < w2.heap.size := (by omega); have vb : b < w2.heap.size := (by omega); have yb : ∀ k, w2.cell? ⟨b, k, none⟩ = wr.cell? ⟨b, k, none⟩ := (fun k => hbr2.cell (p := ⟨b, k, none⟩) hs1); have yn1 : ∀ k, w2.cell? ⟨w.heap.size + 1, k, none⟩ = wr.cell? ⟨w.heap.size + 1, k, none⟩ := (fun k => hbr2.cell (p := ⟨w.heap.size + 1, k, none⟩) u1); have ya := (hbr2.cell (p := ⟨w.heap.size, 14, none⟩) u0).trans ae; have yd := (hbr2.cell (p := ⟨w.heap.size + 1 + 1 + 1, 14, none⟩) u3).trans de; have yf : ∀ k, w2.frozen? ⟨w.heap.size + 1 + 1 + 1, k, none⟩ = false := (fun k => (hbr2.frozen (p := ⟨w.heap.size + 1 + 1 + 1, k, none⟩) u3).trans (df k)))
     refine hK.out _ _ ?_ (fun hHeld => ?_)
     ·((try dsimp only); (refine ⟨by go_simp, fun k => by go_simp, fun k => by go_simp⟩))
     clear hK K
     refine wpAnyH_ready (rs := [9]) (by kernel_rfl) (by simp) ?_
     refine AllReadyH.cons rfl (fun K hK => ?_) ?_
     ·go_simp
      refine hK.out _ _ ?_ (fun hHeld => ?_)
      ·((try dsimp only); (refine ⟨by go_simp, fun k => by go_simp, fun k => by go_simp⟩))
      clear hK K
      refine wpAnyH_ready (rs := [10]) (by kernel_rfl) (by simp) ?_
      refine AllReadyH.cons rfl (fun K hK => ?_) ?_
      ·(refine step_append_lies _ rfl _ _ 29 rfl (w.heap.size + 4) 31 i0 _ 15 216 Tryz.underlying29 hi0 y0 y1 y2 rfl (by decide) v j _ (by rfl) ((owns_below HO.out (B := wr.heap.size) hbr2 HOK.out).alloc _) ⟨w2.heap.size, 0, none⟩ 1 1 [.int .u8 X.k, .int .u8 X.v.k, .int .i64 X.v.n, .slice m2.va X.v.l.length m2.vc, .slice m2.vsa X.vs.length m2.vsc, .int .i64 X.lo, .int .i64 X.hi, .slice m2.wa X.w.length m2.wc, .int .u8 X.p.k, .int .u8 X.p.v.k, .int .i64 X.p.v.n, .slice m2.pva X.p.v.l.length m2.pvc, .int .i64 X.p.n, .slice m2.pa X.p.a.length m2.pc, .slice m2.a X.a.length m2.c] (by rfl) rfl (cells_at15 rfl _ _ _ _ _ _ _ _ _ _ _ _ _ _ _ _) (by simp [Value.oneCell']) (by decide) (by unfold maxLen; omega) (by omega) (by simp; omega) (w2.heap.size + 1) (by simp) ?_; intro g cap w4 hown hgrow hat hlt1; have hbg : Below w.heap.size w w4 := Below.grown (by exact Below.r) hgrow (by simp; omega) (fun k hk => by have := HOWN.out k hk; omega); obtain ⟨hc4, hf4⟩ := grown_low hgrow HOWN.out (by simp; omega); have hz4 := hgrow.size; (try simp at hz4))
       refine hK.out _ _ ?_ (fun hHeld => ?_)
       ·((try dsimp only); (refine ⟨by go_simp, fun k => by go_simp, fun k => by go_simp⟩))
       clear hK K
       refine tkh 11 (v := ?_) rfl (.inl ⟨by rfl, ?_⟩) ?_
       rotate_left
       ·((intro w hSw; (try dsimp only at hSw); go_simp) <;> with_reducible rfl)
       try simp only [Act.put, List.setIfInBounds_toArray, List.set_cons_zero, List.set_cons_succ]
       refine wpAnyH_ready (rs := [12]) (by kernel_rfl) (by simp) ?_
       refine AllReadyH.cons rfl (fun K hK => ?_) ?_
       ·go_simp
        refine hK.out _ _ ?_ (fun hHeld => ?_)
        ·((try dsimp only); (refine ⟨by go_simp, fun k => by go_simp, fun k => by go_simp⟩))
        clear hK K
        refine wpAnyH_done (by kernel_rfl) ?_ _
        (go_wp2_with fail; go_roundg (gk - 1); (case measure => omega); exact put_rel hj hlt hb HM.out HPL.out HP.out HST.out HQ.out Below.r (RT.mono (fun c hc _ => by rcases hc with h | h; exact .inl ⟨h, by omega⟩; exact .inr ⟨by omega, fun e => by have := HOK.out _ e; omega⟩) _ _ (RT.ext (Agree.below ((Below.refl _ _).alloc (Nat.le_refl _) _)) _ _ HRT.out)) hown hgrow HOWN.out hat (by simp) hlt1)
       exact AllReadyH.nil
      exact AllReadyH.nil
     exact AllReadyH.nil
    exact AllReadyH.nil
   refine AllReadyH.cons rfl (fun K hK => ?_) ?_
   ·go_simp
    go_wp2_with (go_at_call 107; (with_reducible refine (HC.out _ mj' ⟨na, nb, nc, nd, ne, nf, ng, nh, ni, nj, nk, nl⟩ (by exact RT.ext (Agree.below Below.r) _ _ gx) (by exact RT.ext (Agree.below Below.r) _ _ HS.out)).mono ?_); rintro e w2 ⟨hb2, m2, rfl, hrt⟩; have HRT : Hid (RT w2 (fun c => (A c ∧ c < w.heap.size) ∨ wr.heap.size ≤ c) X m2) := Lib.hid hrt; clear hrt; have hz2 := hb2.size; (try simp at hz2); have hbr2 : Below wr.heap.size wr w2 := Below.r; have hw2 : w.heap.size + 4 ≤ w2.heap.size := (by omega); have v0 : w.heap.size < w2.heap.size := (by omega); have v1 : w.heap.size + 1 < w2.heap.size := (by omega); have v3 : w.heap.size + 1 + 1 + 1 < w2.heap.size := (by omega); have vb : b < w2.heap.size := (by omega); have yb : ∀ k, w2.cell? ⟨b, k, none⟩ = wr.cell? ⟨b, k, none⟩ := (fun k => hbr2.cell (p := ⟨b, k, none⟩) hs1); have yn1 : ∀ k, w2.cell? ⟨w.heap.size + 1, k, none⟩ = wr.cell? ⟨w.heap.size + 1, k, none⟩ := (fun k => hbr2.cell (p := ⟨w.heap.size + 1, k, none⟩) u1); have ya := (hbr2.cell (p := ⟨w.heap.size, 14, none⟩) u0).trans ae; have yd := (hbr2.cell (p := ⟨w.heap.size + 1 + 1 + 1, 14, none⟩) u3).trans de; have yf : ∀ k, w2.frozen? ⟨w.heap.size + 1 + 1 + 1, k, none⟩ = false := (fun k => (hbr2.frozen (p := ⟨w.heap.size + 1 + 1 + 1, k, none⟩) u3).trans (df k)))
    refine hK.out _ _ ?_ (fun hHeld => ?_)
    ·((try dsimp only); (refine ⟨by go_simp, fun k => by go_simp, fun k => by go_simp⟩))
    clear hK K
    refine wpAnyH_ready (rs := [1, 9]) (by kernel_rfl) (by simp) ?_
    refine AllReadyH.cons rfl (fun K hK => ?_) ?_
    ·go_simp
     refine hK.out _ _ ?_ (fun hHeld => ?_)
     ·((try dsimp only); (refine ⟨by go_simp, fun k => by go_simp, fun k => by go_simp⟩))
     clear hK K
     refine wpAnyH_ready (rs := [9]) (by kernel_rfl) (by simp) ?_
     refine AllReadyH.cons rfl (fun K hK => ?_) ?_
     ·go_simp
      refine hK.out _ _ ?_ (fun hHeld => ?_)
      ·((try dsimp only); (refine ⟨by go_simp, fun k => by go_simp, fun k => by go_simp⟩))
      clear hK K
      refine wpAnyH_ready (rs := [10]) (by kernel_rfl) (by simp) ?_
      refine AllReadyH.cons rfl (fun K hK => ?_) ?_
      ·(refine step_append_lies _ rfl _ _ 29 rfl (w.heap.size + 4) 31 i0 _ 15 216 Tryz.underlying29 hi0 y0 y1 y2 rfl (by decide) v j _ (by rfl) ((owns_below HO.out (B := wr.heap.size) hbr2 HOK.out).alloc _) ⟨w2.heap.size, 0, none⟩ 1 1 [.int .u8 X.k, .int .u8 X.v.k, .int .i64 X.v.n, .slice m2.va X.v.l.length m2.vc, .slice m2.vsa X.vs.length m2.vsc, .int .i64 X.lo, .int .i64 X.hi, .slice m2.wa X.w.length m2.wc, .int .u8 X.p.k, .int .u8 X.p.v.k, .int .i64 X.p.v.n, .slice m2.pva X.p.v.l.length m2.pvc, .int .i64 X.p.n, .slice m2.pa X.p.a.length m2.pc, .slice m2.a X.a.length m2.c] (by rfl) rfl (cells_at15 rfl _ _ _ _ _ _ _ _ _ _ _ _ _ _ _ _) (by simp [Value.oneCell']) (by decide) (by unfold maxLen; omega) (by omega) (by simp; omega) (w2.heap.size + 1) (by simp) ?_; intro g cap w4 hown hgrow hat hlt1; have hbg : Below w.heap.size w w4 := Below.grown (by exact Below.r) hgrow (by simp; omega) (fun k hk => by have := HOWN.out k hk; omega); obtain ⟨hc4, hf4⟩ := grown_low hgrow HOWN.out (by simp; omega); have hz4 := hgrow.size; (try simp at hz4))
       refine hK.out _ _ ?_ (fun hHeld => ?_)
       ·((try dsimp only); (refine ⟨by go_simp, fun k => by go_simp, fun k => by go_simp⟩))
       clear hK K
       refine tkh 11 (v := ?_) rfl (.inl ⟨by rfl, ?_⟩) ?_
       rotate_left
       ·((intro w hSw; (try dsimp only at hSw); go_simp) <;> with_reducible rfl)
       try simp only [Act.put, List.setIfInBounds_toArray, List.set_cons_zero, List.set_cons_succ]
       refine wpAnyH_ready (rs := [12]) (by kernel_rfl) (by simp) ?_
       refine AllReadyH.cons rfl (fun K hK => ?_) ?_
       ·go_simp
        refine hK.out _ _ ?_ (fun hHeld => ?_)
        ·((try dsimp only); (refine ⟨by go_simp, fun k => by go_simp, fun k => by go_simp⟩))
        clear hK K
        refine wpAnyH_done (by kernel_rfl) ?_ _
        (go_wp2_with fail; go_roundg (gk - 1); (case measure => omega); exact put_rel hj hlt hb HM.out HPL.out HP.out HST.out HQ.out Below.r (RT.mono (fun c hc _ => by rcases hc with h | h; exact .inl ⟨h, by omega⟩; exact .inr ⟨by omega, fun e => by have := HOK.out _ e; omega⟩) _ _ (RT.ext (Agree.below ((Below.refl _ _).alloc (Nat.le_refl _) _)) _ _ HRT.out)) hown hgrow HOWN.out hat (by simp) hlt1)
       exact AllReadyH.nil
      exact AllReadyH.nil
     exact AllReadyH.nil
    refine AllReadyH.cons rfl (fun K hK => ?_) ?_
    ·go_simp
     refine hK.out _ _ ?_ (fun hHeld => ?_)
     ·((try dsimp only); (refine ⟨by go_simp, fun k => by go_simp, fun k => by go_simp⟩))
     clear hK K
     refine wpAnyH_ready (rs := [1]) (by kernel_rfl) (by simp) ?_
     refine AllReadyH.cons rfl (fun K hK => ?_) ?_
     ·go_simp
      refine hK.out _ _ ?_ (fun hHeld => ?_)
      ·((try dsimp only); (refine ⟨by go_simp, fun k => by go_simp, fun k => by go_simp⟩))
      clear hK K
      refine wpAnyH_ready (rs := [10]) (by kernel_rfl) (by simp) ?_
      refine AllReadyH.cons rfl (fun K hK => ?_) ?_
      ·(refine step_append_lies _ rfl _ _ 29 rfl (w.heap.size + 4) 31 i0 _ 15 216 Tryz.underlying29 hi0 y0 y1 y2 rfl (by decide) v j _ (by rfl) ((owns_below HO.out (B := wr.heap.size) hbr2 HOK.out).alloc _) ⟨w2.heap.size, 0, none⟩ 1 1 [.int .u8 X.k, .int .u8 X.v.k, .int .i64 X.v.n, .slice m2.va X.v.l.length m2.vc, .slice m2.vsa X.vs.length m2.vsc, .int .i64 X.lo, .int .i64 X.hi, .slice m2.wa X.w.length m2.wc, .int .u8 X.p.k, .int .u8 X.p.v.k, .int .i64 X.p.v.n, .slice m2.pva X.p.v.l.length m2.pvc, .int .i64 X.p.n, .slice m2.pa X.p.a.length m2.pc, .slice m2.a X.a.length m2.c] (by rfl) rfl (cells_at15 rfl _ _ _ _ _ _ _ _ _ _ _ _ _ _ _ _) (by simp [Value.oneCell']) (by decide) (by unfold maxLen; omega) (by omega) (by simp; omega) (w2.heap.size + 1) (by simp) ?_; intro g cap w4 hown hgrow hat hlt1; have hbg : Below w.heap.size w w4 := Below.grown (by exact Below.r) hgrow (by simp; omega) (fun k hk => by have := HOWN.out k hk; omega); obtain ⟨hc4, hf4⟩ := grown_low hgrow HOWN.out (by simp; omega); have hz4 := hgrow.size; (try simp at hz4))
       refine hK.out _ _ ?_ (fun hHeld => ?_)
       ·((try dsimp only); (refine ⟨by go_simp, fun k => by go_simp, fun k => by go_simp⟩))
       clear hK K
       refine tkh 11 (v := ?_) rfl (.inl ⟨by rfl, ?_⟩) ?_
       rotate_left
       ·((intro w hSw; (try dsimp only at hSw); go_simp) <;> with_reducible rfl)
       try simp only [Act.put, List.setIfInBounds_toArray, List.set_cons_zero, List.set_cons_succ]
       refine wpAnyH_ready (rs := [12]) (by kernel_rfl) (by simp) ?_
       refine AllReadyH.cons rfl (fun K hK => ?_) ?_
       ·go_simp
        refine hK.out _ _ ?_ (fun hHeld => ?_)
        ·((try dsimp only); (refine ⟨by go_simp, fun k => by go_simp, fun k => by go_simp⟩))
        clear hK K
        refine wpAnyH_done (by kernel_rfl) ?_ _
        (go_wp2_with fail; go_roundg (gk - 1); (case measure => omega); exact put_rel hj hlt hb HM.out HPL.out HP.out HST.out HQ.out Below.r (RT.mono (fun c hc _ => by rcases hc with h | h; exact .inl ⟨h, by omega⟩; exact .inr ⟨by omega, fun e => by have := HOK.out _ e; omega⟩) _ _ (RT.ext (Agree.below ((Below.refl _ _).alloc (Nat.le_refl _) _)) _ _ HRT.out)) hown hgrow HOWN.out hat (by simp) hlt1)
       exact AllReadyH.nil
      exact AllReadyH.nil
     exact AllReadyH.nil
    exact AllReadyH.nil
   exact AllReadyH.nil
  ·have hjl : j = t.a.length := by omega
   have hst := HP.out
   rw [hjl, List.take_of_length_le (by rw [putTs_length]; omega)] at hst
   have hE := RTs_of_row (A := fun b => (A b ∧ b < w.heap.size) ∨ w.heap.size + 4 ≤ b) HO.out (fun b h => .inr (by omega)) (fun q hq => RT.mono (fun b hb _ => by rcases hb with ⟨h, _⟩ | ⟨h, _⟩; exact .inl h; exact .inr h) _ _ (HQ.out q hq))
   obtain ⟨av, cv, hav, hrd⟩ := hE
   rw [hst] at hav hrd
   rw [putTs_length] at hav
   subst hav
   have HRD := Lib.hid hrd
   obtain ⟨a0, -, -, -, -, -, -, -, -, -, -, -, -, -, ae⟩ := At15z.1 HM.out.a
   obtain ⟨c0, c1, c2, c3, c4, c5, c6, c7, c8, c9, ca, cb, cc, cd, ce⟩ := At15z.1 HM.out.c
   obtain ⟨d0, d1, d2, d3, d4, d5, d6, d7, d8, d9, da, db, dc, dd, de⟩ := At15z.1 HM.out.d
   have cf := HM.out.cf
   have u2 : w.heap.size + 1 + 1 < wr.heap.size := by omega
   clear hst hrd
   go_wp2_with fail
   refine bodyPost_ret (v := TV ⟨t.k, t.v, t.vs, t.lo, t.hi, t.w, t.p, putTs s t.k 0 t.a⟩ ⟨ma, mb, mc, md, me, mf, mg, mh, mi, mj, av, cv⟩) (by simp [results, Tryz.f107, go_sem, putTs_length, c0, c1, c2, c3, c4, c5, c6, c7, c8, c9, ca, cb, cc, cd, ce, cf, u2]) rfl ?_
   obtain ⟨r1, r2, r3, r4, -⟩ := RT_iff.1 (RT.mono (A' := fun b => (A b ∧ b < w.heap.size) ∨ w.heap.size + 4 ≤ b) (fun b h _ => .inl h) _ _ (RT.ext (Agree.below hb) _ _ HT.out))
   exact ⟨Below.r, _, rfl, RT.mono (fun b h _ => by rcases h with h | h; exact .inl h.1; exact .inr (by omega)) _ _ (RT.ext (A := fun b => (A b ∧ b < w.heap.size) ∨ w.heap.size + 4 ≤ b) (fun p v hA hc => Agree.but (c := w.heap.size + 1 + 1) But.r p v (fun e => by rcases hA with h | h; have := h.2; omega; omega) hc) _ _ (RT_iff.2 ⟨r1, r2, r3, r4, HRD.out⟩))⟩
end Go.Proofs.YtcbdfjeehimcfaaGreat
namespace Go.Proofs.YtcbdfjeehimcfaaGreat
open Go Go.RowKit
set_option maxRecDepth 100000 in
set_option maxHeartbeats 16000000 in
theorem r19put_10 (N : Nat) (ih : PutIH N) (t s : GT) (w : World) (A : Nat → Prop) (m q : TA) (hN : sizeT t ≤ N + 1) (ox : okT t) (hl : RT w A t m) (hs : RT w A s q) (hk0 : t.k = 10) :
  Calls Tryz.prog 107 #[TV t m, TV s q] w (PutR w A (putT s t)) := by
 obtain ⟨ma, mb, mc, md, me, mf, mg, mh, mi, mj, mk, ml⟩ := m
 obtain ⟨na, nb, nc, nd, ne, nf, ng, nh, ni, nj, nk, nl⟩ := q
 have IH := Lib.hid ih
 have HT := Lib.hid (RT.mono (A' := fun b => A b ∧ b < w.heap.size) (fun b h hb => ⟨h, hb⟩) _ _ hl)
 have HS := Lib.hid (RT.mono (A' := fun b => A b ∧ b < w.heap.size) (fun b h hb => ⟨h, hb⟩) _ _ hs)
 have HL := Lib.hid (RT_iff.1 HT.out).2.2.2.2
 obtain ⟨-, -, -, -, -, -, -, oal, oa⟩ := okT_iff.1 ox
 have O := Lib.hid oa
 have hse := sizeT_eq t
 clear ih hl hs ox oa
 have hk10 : (t.k == 10) = true := by simp [hk0]
 have hk : ¬ t.k = 11 := by omega
 rw [putT_eq, if_neg hk]
 clear hk0
 have hk' : (t.k == 11) = false := by simp [hk]
 obtain ⟨i0, hi0, y0, y1, y2⟩ := info_parts infoTerm
 clear hk
 go_enter Tryz.func107, Tryz.ntmps107
 go_wp2_with fail
 go_loopg [6] (t.a.length) (fun gk t6 wr => ∃ (j : Nat) (ps : List (GT × TA)) (v : Value), gk + j = t.a.length ∧ t6 = .int .i64 j ∧ Below w.heap.size w wr ∧ Hid (PutM w.heap.size t s ⟨ma, mb, mc, md, me, mf, mg, mh, mi, mj, mk, ml⟩ ⟨na, nb, nc, nd, ne, nf, ng, nh, ni, nj, nk, nl⟩ v wr) ∧ Hid (ps.length = j) ∧ Hid (ps.map Prod.fst = (putTs s t.k 0 t.a).take j) ∧ Hid (wr.ownsRow (w.heap.size + 4) 31 15 v j (flatT ps)) ∧ Hid (∀ q ∈ ps, RT wr (Own (w.heap.size + 4) (fun b => A b ∧ b < w.heap.size) v) q.1 q.2))
 case atStart => exact ⟨0, [], .slice none 0 0, by omega, rfl, Below.r, Lib.hid ⟨by simp, At15z.2 ⟨by go_simp, by go_simp, by go_simp, by go_simp, by go_simp, by go_simp, by go_simp, by go_simp, by go_simp, by go_simp, by go_simp, by go_simp, by go_simp, by go_simp, by go_simp⟩, At15z.2 ⟨by go_simp, by go_simp, by go_simp, by go_simp, by go_simp, by go_simp, by go_simp, by go_simp, by go_simp, by go_simp, by go_simp, by go_simp, by go_simp, by go_simp, by go_simp⟩, At15z.2 ⟨by go_simp, by go_simp, by go_simp, by go_simp, by go_simp, by go_simp, by go_simp, by go_simp, by go_simp, by go_simp, by go_simp, by go_simp, by go_simp, by go_simp, by go_simp⟩, fun k => by go_simp, At15z.2 ⟨by go_simp, by go_simp, by go_simp, by go_simp, by go_simp, by go_simp, by go_simp, by go_simp, by go_simp, by go_simp, by go_simp, by go_simp, by go_simp, by go_simp, by go_simp⟩, fun k => by go_simp⟩, Lib.hid rfl, Lib.hid rfl, Lib.hid (World.ownsRow_nil _ _ _ _), Lib.hid (fun q hq => by simp at hq)⟩
 case round =>
  obtain ⟨j, ps, v, hj, rfl, hb, HM, HPL, HP, HO, HQ⟩ := hrel
  have hz := HM.out.sz
  by_cases hlt : j < t.a.length
  ·obtain ⟨b, o, mj', rfl, hA, hbs, g0, gx⟩ := HL.out.get j hlt
   have hbw := hA.2
   obtain ⟨k0, k1, k2, k3, k4, k5, k6, k7, k8, k9, ka, kb, kc, kd, ke⟩ := At15.1 (g0.ext (Agree.below hb) (A := fun _ => True) trivial)
   obtain ⟨a0, -, -, -, -, -, -, -, -, -, -, -, -, -, ae⟩ := At15z.1 HM.out.a
   obtain ⟨b0, b1, b2, b3, b4, b5, b6, b7, b8, b9, ba, bb, bc, bd, be⟩ := At15z.1 HM.out.b
   obtain ⟨-, -, -, -, -, -, -, -, -, -, -, -, -, -, de⟩ := At15z.1 HM.out.d
   have df := HM.out.df
   have u0 : w.heap.size < wr.heap.size := by omega
   have u1 : w.heap.size + 1 < wr.heap.size := by omega
   have u3 : w.heap.size + 1 + 1 + 1 < wr.heap.size := by omega
   have hs1 : b < wr.heap.size := by omega
   have hb4 : b < w.heap.size + 4 := by omega
   have hb5 : ¬ b = w.heap.size + 1 + 1 + 1 := by omega
   have HOK := Lib.hid (show ∀ k, v.ownBlock = some k → k < wr.heap.size from fun k hk => (HO.out.lt _ hk).2)
   have HOWN := Lib.hid (show ∀ k, v.ownBlock = some k → w.heap.size + 4 ≤ k from fun k hk => (HO.out.lt _ hk).1)
   have hst := putTs_take s t.k t.a j hlt
   have hsj := sizeTs_get t.a j hlt
   have HC := Lib.hid (fun (W : World) (m1 m2 : TA) (h1 : RT W (fun b => A b ∧ b < w.heap.size) (t.a[j]'hlt) m1) (h2 : RT W (fun b => A b ∧ b < w.heap.size) s m2) => IH.out (t.a[j]'hlt) s W (fun b => A b ∧ b < w.heap.size) m1 m2 (by omega) (O.out.get j hlt) h1 h2)
   clear g0
   by_cases hj1 : j = 1
   ·have hj1' : ((j : Int) == 1) = true := by rw [hj1]; rfl
    have hsb : stepB t.k j = true := by simp [stepB, hk10, hj1]
    rw [hsb, if_pos rfl] at hst
    have HST := Lib.hid hst
    have HJ1 := Lib.hid hj1
    clear hst hsb hj1 HC
    go_wp2_with fail
    refine wp_region_held_drew (S := (fun W => W.cell? ⟨w.heap.size, 14, none⟩ = some (.slice (some ⟨b, o, none⟩) t.a.length ml) ∧ (∀ k, W.cell? ⟨b, k, none⟩ = wr.cell? ⟨b, k, none⟩) ∧ ∀ k, W.cell? ⟨w.heap.size + 1, k, none⟩ = wr.cell? ⟨w.heap.size + 1, k, none⟩)) (by kernel_rfl) ?_ (fun hHeld => ?_)
    ·((try dsimp only); (refine ⟨by go_simp, fun k => by go_simp, fun k => by go_simp⟩))
    refine tkh 0 (v := ?_) rfl (.inl ⟨by rfl, ?_⟩) ?_
    rotate_left
    ·((intro w hSw; (try dsimp only at hSw); go_simp) <;> with_reducible rfl)
    try simp only [Act.put, List.setIfInBounds_toArray, List.set_cons_zero, List.set_cons_succ]
    refine tkh 2 (v := ?_) rfl (.inl ⟨by rfl, ?_⟩) ?_
    rotate_left
    ·((intro w hSw; (try dsimp only at hSw); go_simp) <;> with_reducible rfl)
    try simp only [Act.put, List.setIfInBounds_toArray, List.set_cons_zero, List.set_cons_succ]
    refine tkh 3 (v := ?_) rfl (.inl ⟨by rfl, ?_⟩) ?_
    rotate_left
    ·((intro w hSw; (try dsimp only at hSw); go_simp) <;> with_reducible rfl)
    try simp only [Act.put, List.setIfInBounds_toArray, List.set_cons_zero, List.set_cons_succ]
    refine tkh 4 (v := ?_) rfl (.inl ⟨by rfl, ?_⟩) ?_
    rotate_left
    ·((intro w hSw; (try dsimp only at hSw); go_simp) <;> with_reducible rfl)
    try simp only [Act.put, List.setIfInBounds_toArray, List.set_cons_zero, List.set_cons_succ]
    refine tkh 5 (v := ?_) rfl (.inl ⟨by rfl, ?_⟩) ?_
    rotate_left
    ·((intro w hSw; (try dsimp only at hSw); go_simp) <;> with_reducible rfl)
    try simp only [Act.put, List.setIfInBounds_toArray, List.set_cons_zero, List.set_cons_succ]
    refine tkh 6 (v := ?_) rfl (.inl ⟨by rfl, ?_⟩) ?_
    rotate_left
    ·((intro w hSw; (try dsimp only at hSw); go_simp) <;> with_reducible rfl)
    try simp only [Act.put, List.setIfInBounds_toArray, List.set_cons_zero, List.set_cons_succ]
    refine wpAnyH_ready (rs := [1, 7]) (by kernel_rfl) (by simp) ?_
    refine AllReadyH.cons rfl (fun K hK => ?_) ?_
    ·go_simp
     refine hK.out _ _ ?_ (fun hHeld => ?_)
     ·((try dsimp only); (refine ⟨by go_simp, fun k => by go_simp, fun k => by go_simp⟩))
     clear hK K
     refine wpAnyH_ready (rs := [7]) (by kernel_rfl) (by simp) ?_
     refine AllReadyH.cons rfl (fun K hK => ?_) ?_
     ·go_simp
      refine hK.out _ _ ?_ (fun hHeld => ?_)
      ·((try dsimp only); (refine ⟨by go_simp, fun k => by go_simp, fun k => by go_simp⟩))
      clear hK K
      refine wpAnyH_ready (rs := [8]) (by kernel_rfl) (by simp) ?_
      refine AllReadyH.cons rfl (fun K hK => ?_) ?_
      ·(refine step_append_lies _ rfl _ _ 29 rfl (w.heap.size + 4) 31 i0 _ 15 216 Tryz.underlying29 hi0 y0 y1 y2 rfl (by decide) v j _ (by rfl) (World.ownsRow.alloc (by exact HO.out) _) ⟨wr.heap.size, 0, none⟩ 1 1 [.int .u8 t.a[j].k, .int .u8 t.a[j].v.k, .int .i64 t.a[j].v.n, .slice mj'.va t.a[j].v.l.length mj'.vc, .slice mj'.vsa t.a[j].vs.length mj'.vsc, .int .i64 t.a[j].lo, .int .i64 t.a[j].hi, .slice mj'.wa t.a[j].w.length mj'.wc, .int .u8 t.a[j].p.k, .int .u8 t.a[j].p.v.k, .int .i64 t.a[j].p.v.n, .slice mj'.pva t.a[j].p.v.l.length mj'.pvc, .int .i64 t.a[j].p.n, .slice mj'.pa t.a[j].p.a.length mj'.pc, .slice mj'.a t.a[j].a.length mj'.c] (by rfl) rfl (cells_at15 rfl _ _ _ _ _ _ _ _ _ _ _ _ _ _ _ _) (by simp [Value.oneCell']) (by decide) (by unfold maxLen; omega) (by omega) (by simp; omega) (wr.heap.size + 1) (by simp) ?_; intro g cap w4 hown hgrow hat hlt1; have hbg : Below w.heap.size w w4 := Below.grown (by exact Below.r) hgrow (by simp; omega) (fun k hk => by have := HOWN.out k hk; omega); obtain ⟨hc4, hf4⟩ := grown_low hgrow HOWN.out (by simp; omega); have hz4 := hgrow.size; (try simp at hz4))
       refine hK.out _ _ ?_ (fun hHeld => ?_)
       ·((try dsimp only); (refine ⟨by go_simp, fun k => by go_simp, fun k => by go_simp⟩))
       clear hK K
       refine tkh 9 (v := ?_) rfl (.inl ⟨by rfl, ?_⟩) ?_
       rotate_left
       ·((intro w hSw; (try dsimp only at hSw); go_simp) <;> with_reducible rfl)
       try simp only [Act.put, List.setIfInBounds_toArray, List.set_cons_zero, List.set_cons_succ]
       refine wpAnyH_ready (rs := [10]) (by kernel_rfl) (by simp) ?_
       refine AllReadyH.cons rfl (fun K hK => ?_) ?_
       ·go_simp
        refine hK.out _ _ ?_ (fun hHeld => ?_)
        ·((try dsimp only); (refine ⟨by go_simp, fun k => by go_simp, fun k => by go_simp⟩))
        clear hK K
        refine wpAnyH_done (by kernel_rfl) ?_ _
        (go_wp2_with fail; go_roundg (gk - 1); (case measure => omega); exact put_rel hj hlt hb HM.out HPL.out HP.out HST.out HQ.out Below.r (RT.mono (fun c hc _ => .inl ⟨hc, by have := hc.2; omega⟩) _ _ (RT.ext (Agree.below Below.r) _ _ gx)) hown hgrow HOWN.out hat (by simp) hlt1)
       exact AllReadyH.nil
      exact AllReadyH.nil
     exact AllReadyH.nil
    refine AllReadyH.cons rfl (fun K hK => ?_) ?_
    ·go_simp
     refine hK.out _ _ ?_ (fun hHeld => ?_)
     ·((try dsimp only); (refine ⟨by go_simp, fun k => by go_simp, fun k => by go_simp⟩))
     clear hK K
     refine wpAnyH_ready (rs := [1]) (by kernel_rfl) (by simp) ?_
     refine AllReadyH.cons rfl (fun K hK => ?_) ?_
     ·go_simp
      refine hK.out _ _ ?_ (fun hHeld => ?_)
      ·((try dsimp only); (refine ⟨by go_simp, fun k => by go_simp, fun k => by go_simp⟩))
      clear hK K
      refine wpAnyH_ready (rs := [8]) (by kernel_rfl) (by simp) ?_
      refine AllReadyH.cons rfl (fun K hK => ?_) ?_
      ·(refine step_append_lies _ rfl _ _ 29 rfl (w.heap.size + 4) 31 i0 _ 15 216 Tryz.underlying29 hi0 y0 y1 y2 rfl (by decide) v j _ (by rfl) (World.ownsRow.alloc (by exact HO.out) _) ⟨wr.heap.size, 0, none⟩ 1 1 [.int .u8 t.a[j].k, .int .u8 t.a[j].v.k, .int .i64 t.a[j].v.n, .slice mj'.va t.a[j].v.l.length mj'.vc, .slice mj'.vsa t.a[j].vs.length mj'.vsc, .int .i64 t.a[j].lo, .int .i64 t.a[j].hi, .slice mj'.wa t.a[j].w.length mj'.wc, .int .u8 t.a[j].p.k, .int .u8 t.a[j].p.v.k, .int .i64 t.a[j].p.v.n, .slice mj'.pva t.a[j].p.v.l.length mj'.pvc, .int .i64 t.a[j].p.n, .slice mj'.pa t.a[j].p.a.length mj'.pc, .slice mj'.a t.a[j].a.length mj'.c] (by rfl) rfl (cells_at15 rfl _ _ _ _ _ _ _ _ _ _ _ _ _ _ _ _) (by simp [Value.oneCell']) (by decide) (by unfold maxLen; omega) (by omega) (by simp; omega) (wr.heap.size + 1) (by simp) ?_; intro g cap w4 hown hgrow hat hlt1; have hbg : Below w.heap.size w w4 := Below.grown (by exact Below.r) hgrow (by simp; omega) (fun k hk => by have := HOWN.out k hk; omega); obtain ⟨hc4, hf4⟩ := grown_low hgrow HOWN.out (by simp; omega); have hz4 := hgrow.size; (try simp at hz4))
       refine hK.out _ _ ?_ (fun hHeld => ?_)
       ·((try dsimp only); (refine ⟨by go_simp, fun k => by go_simp, fun k => by go_simp⟩))
       clear hK K
       refine tkh 9 (v := ?_) rfl (.inl ⟨by rfl, ?_⟩) ?_
       rotate_left
       ·((intro w hSw; (try dsimp only at hSw); go_simp) <;> with_reducible rfl)
       try simp only [Act.put, List.setIfInBounds_toArray, List.set_cons_zero, List.set_cons_succ]
       refine wpAnyH_ready (rs := [10]) (by kernel_rfl) (by simp) ?_
       refine AllReadyH.cons rfl (fun K hK => ?_) ?_
       ·go_simp
        refine hK.out _ _ ?_ (fun hHeld => ?_)
        ·((try dsimp only); (refine ⟨by go_simp, fun k => by go_simp, fun k => by go_simp⟩))
        clear hK K
        refine wpAnyH_done (by kernel_rfl) ?_ _
        (go_wp2_with fail; go_roundg (gk - 1); (case measure => omega); exact put_rel hj hlt hb HM.out HPL.out HP.out HST.out HQ.out Below.r (RT.mono (fun c hc _ => .inl ⟨hc, by have := hc.2; omega⟩) _ _ (RT.ext (Agree.below Below.r) _ _ gx)) hown hgrow HOWN.out hat (by simp) hlt1)
       exact AllReadyH.nil
      exact AllReadyH.nil
     exact AllReadyH.nil
    exact AllReadyH.nil
   ·have hj1' : ((j : Int) == 1) = false := beq_eq_false_iff_ne.2 (by omega)
    have hsb : stepB t.k j = false := by simp [stepB, hk10, hj1]
    rw [hsb, if_neg (by simp)] at hst
    generalize putT s t.a[j] = X at HC hst
    have HST := Lib.hid hst
    have HJ1 := Lib.hid hj1
    clear hst hsb hj1
    go_wp2_with fail
    refine wp_region_held_drew (S := (fun W => W.cell? ⟨w.heap.size, 14, none⟩ = some (.slice (some ⟨b, o, none⟩) t.a.length ml) ∧ (∀ k, W.cell? ⟨b, k, none⟩ = wr.cell? ⟨b, k, none⟩) ∧ ∀ k, W.cell? ⟨w.heap.size + 1, k, none⟩ = wr.cell? ⟨w.heap.size + 1, k, none⟩)) (by kernel_rfl) ?_ (fun hHeld => ?_)
    ·((try dsimp only); (refine ⟨by go_simp, fun k => by go_simp, fun k => by go_simp⟩))
    refine tkh 0 (v := ?_) rfl (.inl ⟨by rfl, ?_⟩) ?_
    rotate_left
    ·((intro w hSw; (try dsimp only at hSw); go_simp) <;> with_reducible rfl)
    try simp only [Act.put, List.setIfInBounds_toArray, List.set_cons_zero, List.set_cons_succ]
    refine tkh 2 (v := ?_) rfl (.inl ⟨by rfl, ?_⟩) ?_
    rotate_left
    ·((intro w hSw; (try dsimp only at hSw); go_simp) <;> with_reducible rfl)
    try simp only [Act.put, List.setIfInBounds_toArray, List.set_cons_zero, List.set_cons_succ]
    refine tkh 3 (v := ?_) rfl (.inl ⟨by rfl, ?_⟩) ?_
    rotate_left
    ·((intro w hSw; (try dsimp only at hSw); go_simp) <;> with_reducible rfl)
    try simp only [Act.put, List.setIfInBounds_toArray, List.set_cons_zero, List.set_cons_succ]
    refine tkh 4 (v := ?_) rfl (.inl ⟨by rfl, ?_⟩) ?_
    rotate_left
    ·((intro w hSw; (try dsimp only at hSw); go_simp) <;> with_reducible rfl)
    try simp only [Act.put, List.setIfInBounds_toArray, List.set_cons_zero, List.set_cons_succ]
    refine tkh 5 (v := ?_) rfl (.inl ⟨by rfl, ?_⟩) ?_
    rotate_left
    ·((intro w hSw; (try dsimp only at hSw); go_simp) <;> with_reducible rfl)
    try simp only [Act.put, List.setIfInBounds_toArray, List.set_cons_zero, List.set_cons_succ]
    refine tkh 6 (v := ?_) rfl (.inl ⟨by rfl, ?_⟩) ?_
    rotate_left
    ·((intro w hSw; (try dsimp only at hSw); go_simp) <;> with_reducible rfl)
    try simp only [Act.put, List.setIfInBounds_toArray, List.set_cons_zero, List.set_cons_succ]
    refine tkh 7 (v := ?_) rfl (.inl ⟨by rfl, ?_⟩) ?_
    rotate_left
    ·((intro w hSw; (try dsimp only at hSw); go_simp) <;> with_reducible rfl)
    try simp only [Act.put, List.setIfInBounds_toArray, List.set_cons_zero, List.set_cons_succ]
    refine wpAnyH_ready (rs := [1, 8]) (by kernel_rfl) (by simp) ?_
    refine AllReadyH.cons rfl (fun K hK => ?_) ?_
    ·go_simp
     refine hK.out _ _ ?_ (fun hHeld => ?_)
     ·((try dsimp only); (refine ⟨by go_simp, fun k => by go_simp, fun k => by go_simp⟩))
     clear hK K
     refine wpAnyH_ready (rs := [8]) (by kernel_rfl) (by simp) ?_
     refine AllReadyH.cons rfl (fun K hK => ?_) ?_
     ·go_simp
      go_wp2_with (go_at_call 107; (with_reducible refine (HC.out _ mj' ⟨na, nb, nc, nd, ne, nf, ng, nh, ni, nj, nk, nl⟩ (by exact RT.ext (Agree.below Below.r) _ _ gx) (by exact RT.ext (Agree.below Below.r) _ _ HS.out)).mono ?_); rintro e w2 ⟨hb2, m2, rfl, hrt⟩; have HRT : Hid (RT w2 (fun c => (A c ∧ c < w.heap.size) ∨ wr.heap.size ≤ c) X m2) := Lib.hid hrt; clear hrt; have hz2 := hb2.size; (try simp at hz2); have hbr2 : Below wr.heap.size wr w2 := Below.r; have hw2 : w.heap.size + 4 ≤ w2.heap.size := (by omega); have v0 : w.heap.size < w2.heap.size := (by omega); have v1 : w.heap.size + 1 < w2.heap.size := (by omega); have v3 : w.heap.size + 1 + 1 + 1 < w2.heap.size := (by omega); have vb : b < w2.heap.size := (by omega); have yb : ∀ k, w2.cell? ⟨b, k, none⟩ = wr.cell? ⟨b, k, none⟩ := (fun k => hbr2.cell (p := ⟨b, k, none⟩) hs1); have yn1 : ∀ k, w2.cell? ⟨w.heap.size + 1, k, none⟩ = wr.cell? ⟨w.heap.size + 1, k, none⟩ := (fun k => hbr2.cell (p := ⟨w.heap.size + 1, k, none⟩) u1); have ya := (hbr2.cell (p := ⟨w.heap.size, 14, none⟩) u0).trans ae; have yd := (hbr2.cell (p := ⟨w.heap.size + 1 + 1 + 1, 14, none⟩) u3).trans de; have yf : ∀ k, w2.frozen? ⟨w.heap.size + 1 + 1 + 1, k, none⟩ = false := (fun k => (hbr2.frozen (p := ⟨w.heap.size + 1 + 1 + 1, k, none⟩) u3).trans (df k)))
      refine hK.out _ _ ?_ (fun hHeld => ?_)
      ·((try dsimp only); (refine ⟨by go_simp, fun k => by go_simp, fun k => by go_simp⟩))
      clear hK K
      refine wpAnyH_ready (rs := [9]) (by kernel_rfl) (by simp) ?_
      refine AllReadyH.cons rfl (fun K hK => ?_) ?_
      ·go_simp
       refine hK.out _ _ ?_ (fun hHeld => ?_)
       ·((try dsimp only); (refine ⟨by go_simp, fun k => by go_simp, fun k => by go_simp⟩))
       clear hK K
       refine wpAnyH_ready (rs := [10]) (by kernel_rfl) (by simp) ?_
       refine AllReadyH.cons rfl (fun K hK => ?_) ?_
       ·(refine step_append_lies _ rfl _ _ 29 rfl (w.heap.size + 4) 31 i0 _ 15 216 Tryz.underlying29 hi0 y0 y1 y2 rfl (by decide) v j _ (by rfl) ((owns_below HO.out (B := wr.heap.size) hbr2 HOK.out).alloc _) ⟨w2.heap.size, 0, none⟩ 1 1 [.int .u8 X.k, .int .u8 X.v.k, .int .i64 X.v.n, .slice m2.va X.v.l.length m2.vc, .slice m2.vsa X.vs.length m2.vsc, .int .i64 X.lo, .int .i64 X.hi, .slice m2.wa X.w.length m2.wc, .int .u8 X.p.k, .int .u8 X.p.v.k, .int .i64 X.p.v.n, .slice m2.pva X.p.v.l.length m2.pvc, .int .i64 X.p.n, .slice m2.pa X.p.a.length m2.pc, .slice m2.a X.a.length m2.c] (by rfl) rfl (cells_at15 rfl _ _ _ _ _ _ _ _ _ _ _ _ _ _ _ _) (by simp [Value.oneCell']) (by decide) (by unfold maxLen; omega) (by omega) (by simp; omega) (w2.heap.size + 1) (by simp) ?_; intro g cap w4 hown hgrow hat hlt1; have hbg : Below w.heap.size w w4 := Below.grown (by exact Below.r) hgrow (by simp; omega) (fun k hk => by have := HOWN.out k hk; omega); obtain ⟨hc4, hf4⟩ := grown_low hgrow HOWN.out (by simp; omega); have hz4 := hgrow.size; (try simp at hz4))
        refine hK.out _ _ ?_ (fun hHeld => ?_)
        ·((try dsimp only); (refine ⟨by go_simp, fun k => by go_simp, fun k => by go_simp⟩))
        clear hK K
        refine tkh 11 (v := ?_) rfl (.inl ⟨by rfl, ?_⟩) ?_
        rotate_left
        ·((intro w hSw; (try dsimp only at hSw); go_simp) <;> with_reducible rfl)
        try simp only [Act.put, List.setIfInBounds_toArray, List.set_cons_zero, List.set_cons_succ]
        refine wpAnyH_ready (rs := [12]) (by kernel_rfl) (by simp) ?_
        refine AllReadyH.cons rfl (fun K hK => ?_) ?_
        ·go_simp
         refine hK.out _ _ ?_ (fun hHeld => ?_)
         ·((try dsimp only); (refine ⟨by go_simp, fun k => by go_simp, fun k => by go_simp⟩))
         clear hK K
         refine wpAnyH_done (by kernel_rfl) ?_ _
         (go_wp2_with fail; go_roundg (gk - 1); (case measure => omega); exact put_rel hj hlt hb HM.out HPL.out HP.out HST.out HQ.out Below.r (RT.mono (fun c hc _ => by rcases hc with h | h; exact .inl ⟨h, by omega⟩; exact .inr ⟨by omega, fun e => by have := HOK.out _ e; omega⟩) _ _ (RT.ext (Agree.below ((Below.refl _ _).alloc (Nat.le_refl _) _)) _ _ HRT.out)) hown hgrow HOWN.out hat (by simp) hlt1)
        exact AllReadyH.nil
       exact AllReadyH.nil
      exact AllReadyH.nil
     exact AllReadyH.nil
    refine AllReadyH.cons rfl (fun K hK => ?_) ?_
    ·go_simp
     go_wp2_with (go_at_call 107; (with_reducible refine (HC.out _ mj' ⟨na, nb, nc, nd, ne, nf, ng, nh, ni, nj, nk, nl⟩ (by exact RT.ext (Agree.below Below.r) _ _ gx) (by exact RT.ext (Agree.below Below.r) _ _ HS.out)).mono ?_); rintro e w2 ⟨hb2, m2, rfl, hrt⟩; have HRT : Hid (RT w2 (fun c => (A c ∧ c < w.heap.size) ∨ wr.heap.size ≤ c) X m2) := Lib.hid hrt; clear hrt; have hz2 := hb2.size; (try simp at hz2); have hbr2 : Below wr.heap.size wr w2 := Below.r; have hw2 : w.heap.size + 4 ≤ w2.heap.size := (by omega); have v0 : w.heap.size < w2.heap.size := (by omega); have v1 : w.heap.size + 1 < w2.heap.size := (by omega); have v3 : w.heap.size + 1 + 1 + 1 < w2.heap.size := (by omega); have vb : b < w2.heap.size := (by omega); have yb : ∀ k, w2.cell? ⟨b, k, none⟩ = wr.cell? ⟨b, k, none⟩ := (fun k => hbr2.cell (p := ⟨b, k, none⟩) hs1); have yn1 : ∀ k, w2.cell? ⟨w.heap.size + 1, k, none⟩ = wr.cell? ⟨w.heap.size + 1, k, none⟩ := (fun k => hbr2.cell (p := ⟨w.heap.size + 1, k, none⟩) u1); have ya := (hbr2.cell (p := ⟨w.heap.size, 14, none⟩) u0).trans ae; have yd := (hbr2.cell (p := ⟨w.heap.size + 1 + 1 + 1, 14, none⟩) u3).trans de; have yf : ∀ k, w2.frozen? ⟨w.heap.size + 1 + 1 + 1, k, none⟩ = false := (fun k => (hbr2.frozen (p := ⟨w.heap.size + 1 + 1 + 1, k, none⟩) u3).trans (df k)))
     refine hK.out _ _ ?_ (fun hHeld => ?_)
     ·((try dsimp only); (refine ⟨by go_simp, fun k => by go_simp, fun k => by go_simp⟩))
     clear hK K
     refine wpAnyH_ready (rs := [1, 9]) (by kernel_rfl) (by simp) ?_
     refine AllReadyH.cons rfl (fun K hK => ?_) ?_
     ·go_simp
      refine hK.out _ _ ?_ (fun hHeld => ?_)
      ·((try dsimp only); (refine ⟨by go_simp, fun k => by go_simp, fun k => by go_simp⟩))
      clear hK K
      refine wpAnyH_ready (rs := [9]) (by kernel_rfl) (by simp) ?_
      refine AllReadyH.cons rfl (fun K hK => ?_) ?_
      ·go_simp
       refine hK.out _ _ ?_ (fun hHeld => ?_)
       ·((try dsimp only); (refine ⟨by go_simp, fun k => by go_simp, fun k => by go_simp⟩))
       clear hK K
       refine wpAnyH_ready (rs := [10]) (by kernel_rfl) (by simp) ?_
       refine AllReadyH.cons rfl (fun K hK => ?_) ?_
       ·(refine step_append_lies _ rfl _ _ 29 rfl (w.heap.size + 4) 31 i0 _ 15 216 Tryz.underlying29 hi0 y0 y1 y2 rfl (by decide) v j _ (by rfl) ((owns_below HO.out (B := wr.heap.size) hbr2 HOK.out).alloc _) ⟨w2.heap.size, 0, none⟩ 1 1 [.int .u8 X.k, .int .u8 X.v.k, .int .i64 X.v.n, .slice m2.va X.v.l.length m2.vc, .slice m2.vsa X.vs.length m2.vsc, .int .i64 X.lo, .int .i64 X.hi, .slice m2.wa X.w.length m2.wc, .int .u8 X.p.k, .int .u8 X.p.v.k, .int .i64 X.p.v.n, .slice m2.pva X.p.v.l.length m2.pvc, .int .i64 X.p.n, .slice m2.pa X.p.a.length m2.pc, .slice m2.a X.a.length m2.c] (by rfl) rfl (cells_at15 rfl _ _ _ _ _ _ _ _ _ _ _ _ _ _ _ _) (by simp [Value.oneCell']) (by decide) (by unfold maxLen; omega) (by omega) (by simp; omega) (w2.heap.size + 1) (by simp) ?_; intro g cap w4 hown hgrow hat hlt1; have hbg : Below w.heap.size w w4 := Below.grown (by exact Below.r) hgrow (by simp; omega) (fun k hk => by have := HOWN.out k hk; omega); obtain ⟨hc4, hf4⟩ := grown_low hgrow HOWN.out (by simp; omega); have hz4 := hgrow.size; (try simp at hz4))
        refine hK.out _ _ ?_ (fun hHeld => ?_)
        ·((try dsimp only); (refine ⟨by go_simp, fun k => by go_simp, fun k => by go_simp⟩))
        clear hK K
        refine tkh 11 (v := ?_) rfl (.inl ⟨by rfl, ?_⟩) ?_
        rotate_left
        ·((intro w hSw; (try dsimp only at hSw); go_simp) <;> with_reducible rfl)
        try simp only [Act.put, List.setIfInBounds_toArray, List.set_cons_zero, List.set_cons_succ]
        refine wpAnyH_ready (rs := [12]) (by kernel_rfl) (by simp) ?_
        refine AllReadyH.cons rfl (fun K hK => ?_) ?_
        ·go_simp
         refine hK.out _ _ ?_ (fun hHeld => ?_)
         ·((try dsimp only); (refine ⟨by go_simp, fun k => by go_simp, fun k => by go_simp⟩))
         clear hK K
         refine wpAnyH_done (by kernel_rfl) ?_ _
         (go_wp2_with fail; go_roundg (gk - 1); (case measure => omega); exact put_rel hj hlt hb HM.out HPL.out HP.out HST.out HQ.out Below.r (RT.mono (fun c hc _ => by rcases hc with h | h; exact .inl ⟨h, by omega⟩; exact .inr ⟨by omega, fun e => by have := HOK.out _ e; omega⟩) _ _ (RT.ext (Agree.below ((Below.refl _ _).alloc (Nat.le_refl _) _)) _ _ HRT.out)) hown hgrow HOWN.out hat (by simp) hlt1)
        exact AllReadyH.nil
       exact AllReadyH.nil
      exact AllReadyH.nil
     refine AllReadyH.cons rfl (fun K hK => ?_) ?_
     ·go_simp
      refine hK.out _ _ ?_ (fun hHeld => ?_)
      ·((try dsimp only); (refine ⟨by go_simp, fun k => by go_simp, fun k => by go_simp⟩))
      clear hK K
      refine wpAnyH_ready (rs := [1]) (by kernel_rfl) (by simp) ?_
      refine AllReadyH.cons rfl (fun K hK => ?_) ?_
      ·go_simp
       refine hK.out _ _ ?_ (fun hHeld => ?_)
       ·((try dsimp only); (refine ⟨by go_simp, fun k => by go_simp, fun k => by go_simp⟩))
       clear hK K
       refine wpAnyH_ready (rs := [10]) (by kernel_rfl) (by simp) ?_
       refine AllReadyH.cons rfl (fun K hK => ?_) ?_
       ·(refine step_append_lies _ rfl _ _ 29 rfl (w.heap.size + 4) 31 i0 _ 15 216 Tryz.underlying29 hi0 y0 y1 y2 rfl (by decide) v j _ (by rfl) ((owns_below HO.out (B := wr.heap.size) hbr2 HOK.out).alloc _) ⟨w2.heap.size, 0, none⟩ 1 1 [.int .u8 X.k, .int .u8 X.v.k, .int .i64 X.v.n, .slice m2.va X.v.l.length m2.vc, .slice m2.vsa X.vs.length m2.vsc, .int .i64 X.lo, .int .i64 X.hi, .slice m2.wa X.w.length m2.wc, .int .u8 X.p.k, .int .u8 X.p.v.k, .int .i64 X.p.v.n, .slice m2.pva X.p.v.l.length m2.pvc, .int .i64 X.p.n, .slice m2.pa X.p.a.length m2.pc, .slice m2.a X.a.length m2.c] (by rfl) rfl (cells_at15 rfl _ _ _ _ _ _ _ _ _ _ _ _ _ _ _ _) (by simp [Value.oneCell']) (by decide) (by unfold maxLen; omega) (by omega) (by simp; omega) (w2.heap.size + 1) (by simp) ?_; intro g cap w4 hown hgrow hat hlt1; have hbg : Below w.heap.size w w4 := Below.grown (by exact Below.r) hgrow (by simp; omega) (fun k hk => by have := HOWN.out k hk; omega); obtain ⟨hc4, hf4⟩ := grown_low hgrow HOWN.out (by simp; omega); have hz4 := hgrow.size; (try simp at hz4))
        refine hK.out _ _ ?_ (fun hHeld => ?_)
        ·((try dsimp only); (refine ⟨by go_simp, fun k => by go_simp, fun k => by go_simp⟩))
        clear hK K
        refine tkh 11 (v := ?_) rfl (.inl ⟨by rfl, ?_⟩) ?_
        rotate_left
        ·((intro w hSw; (try dsimp only at hSw); go_simp) <;> with_reducible rfl)
        try simp only [Act.put, List.setIfInBounds_toArray, List.set_cons_zero, List.set_cons_succ]
        refine wpAnyH_ready (rs := [12]) (by kernel_rfl) (by simp) ?_
        refine AllReadyH.cons rfl (fun K hK => ?_) ?_
        ·go_simp
         refine hK.out _ _ ?_ (fun hHeld => ?_)
         ·((try dsimp only); (refine ⟨by go_simp, fun k => by go_simp, fun k => by go_simp⟩))
         clear hK K
         refine wpAnyH_done (by kernel_rfl) ?_ _
         (go_wp2_with fail; go_roundg (gk - 1); (case measure => omega); exact put_rel hj hlt hb HM.out HPL.out HP.out HST.out HQ.out Below.r (RT.mono (fun c hc _ => by rcases hc with h | h; exact .inl ⟨h, by omega⟩; exact .inr ⟨by omega, fun e => by have := HOK.out _ e; omega⟩) _ _ (RT.ext (Agree.below ((Below.refl _ _).alloc (Nat.le_refl _) _)) _ _ HRT.out)) hown hgrow HOWN.out hat (by simp) hlt1)
        exact AllReadyH.nil
       exact AllReadyH.nil
      exact AllReadyH.nil
     exact AllReadyH.nil
    exact AllReadyH.nil
  ·have hjl : j = t.a.length := by omega
   have hst := HP.out
   rw [hjl, List.take_of_length_le (by rw [putTs_length]; omega)] at hst
   have hE := RTs_of_row (A := fun b => (A b ∧ b < w.heap.size) ∨ w.heap.size + 4 ≤ b) HO.out (fun b h => .inr (by omega)) (fun q hq => RT.mono (fun b hb _ => by rcases hb with ⟨h, _⟩ | ⟨h, _⟩; exact .inl h; exact .inr h) _ _ (HQ.out q hq))
   obtain ⟨av, cv, hav, hrd⟩ := hE
   rw [hst] at hav hrd
   rw [putTs_length] at hav
   subst hav
   have HRD := Lib.hid hrd
   obtain ⟨a0, -, -, -, -, -, -, -, -, -, -, -, -, -, ae⟩ := At15z.1 HM.out.a
   obtain ⟨c0, c1, c2, c3, c4, c5, c6, c7, c8, c9, ca, cb, cc, cd, ce⟩ := At15z.1 HM.out.c
   obtain ⟨d0, d1, d2, d3, d4, d5, d6, d7, d8, d9, da, db, dc, dd, de⟩ := At15z.1 HM.out.d
   have cf := HM.out.cf
   have u2 : w.heap.size + 1 + 1 < wr.heap.size := by omega
   clear hst hrd
   go_wp2_with fail
   refine bodyPost_ret (v := TV ⟨t.k, t.v, t.vs, t.lo, t.hi, t.w, t.p, putTs s t.k 0 t.a⟩ ⟨ma, mb, mc, md, me, mf, mg, mh, mi, mj, av, cv⟩) (by simp [results, Tryz.f107, go_sem, putTs_length, c0, c1, c2, c3, c4, c5, c6, c7, c8, c9, ca, cb, cc, cd, ce, cf, u2]) rfl ?_
   obtain ⟨r1, r2, r3, r4, -⟩ := RT_iff.1 (RT.mono (A' := fun b => (A b ∧ b < w.heap.size) ∨ w.heap.size + 4 ≤ b) (fun b h _ => .inl h) _ _ (RT.ext (Agree.below hb) _ _ HT.out))
   exact ⟨Below.r, _, rfl, RT.mono (fun b h _ => by rcases h with h | h; exact .inl h.1; exact .inr (by omega)) _ _ (RT.ext (A := fun b => (A b ∧ b < w.heap.size) ∨ w.heap.size + 4 ≤ b) (fun p v hA hc => Agree.but (c := w.heap.size + 1 + 1) But.r p v (fun e => by rcases hA with h | h; have := h.2; omega; omega) hc) _ _ (RT_iff.2 ⟨r1, r2, r3, r4, HRD.out⟩))⟩
end Go.Proofs.YtcbdfjeehimcfaaGreat
namespace Go.Proofs.YtcbdfjeehimcfaaGreat
open Go Go.RowKit
set_option maxRecDepth 100000 in
set_option maxHeartbeats 16000000 in
theorem r19put_11 (t s : GT) (w : World) (A : Nat → Prop) (m q : TA) (hl : RT w A t m) (hs : RT w A s q) (hk : t.k = 11) :
  Calls Tryz.prog 107 #[TV t m, TV s q] w (PutR w A (putT s t)) := by
 obtain ⟨ma, mb, mc, md, me, mf, mg, mh, mi, mj, mk, ml⟩ := m
 obtain ⟨na, nb, nc, nd, ne, nf, ng, nh, ni, nj, nk, nl⟩ := q
 have HS := Lib.hid (RT.mono (A' := fun b => A b ∧ b < w.heap.size) (fun b h hb => ⟨h, hb⟩) _ _ hs)
 rw [putT_eq, if_pos hk]
 clear hl hs
 have hk' : (t.k == 11) = true := by simp [hk]
 clear hk
 go_enter Tryz.func107, Tryz.ntmps107
 go_wp2_with fail
 refine bodyPost_ret (v := TV s ⟨na, nb, nc, nd, ne, nf, ng, nh, ni, nj, nk, nl⟩) (by simp [results, Tryz.f107, go_sem]) rfl ?_
 exact ⟨Below.r, _, rfl, RT.mono (fun b h _ => .inl h.1) _ _ (RT.ext (Agree.below Below.r) _ _ HS.out)⟩
theorem r19put_any (N : Nat) : PutIH N := by
 induction N with
 | zero => intro t; have := sizeT_pos t; intros; omega
 | succ N ih =>
  intro t s w A m q hN ox hl hs
  by_cases h11 : t.k = 11
  ·exact r19put_11 t s w A m q hl hs h11
  by_cases h10 : t.k = 10
  ·exact r19put_10 N ih t s w A m q hN ox hl hs h10
  ·exact r19put_x N ih t s w A m q hN ox hl hs h11 h10
end Go.Proofs.YtcbdfjeehimcfaaGreat
