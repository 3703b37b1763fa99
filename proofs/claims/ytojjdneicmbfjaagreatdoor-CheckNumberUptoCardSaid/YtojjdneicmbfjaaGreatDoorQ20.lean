/- What the proofs of the Trial statements need: part 21. -/
import Derived.Deep.RegionHeld3
import Derived.Maps.AppendAt
import Derived.Test.YtojjdneicmbfjaaGreatDoorQ14
import Derived.Test.YtojjdneicmbfjaaGreatDoorQ18
import Derived.Test.YtojjdneicmbfjaaGreatDoorQ19
set_option linter.unusedVariables false
set_option linter.unusedSimpArgs false
namespace Go.Proofs.YtojjdneicmbfjaaGreatDoor
open Go Go.RowKit
def SamR (c : Nat) (s : ByteArray) (r : Res GV) (w : World) : Ending → World → Prop := fun e w' => But c w.heap.size w w' ∧
 match r with
 | .ok v j => (∃ m, e = .returned (VV v m) ∧ RV w' (fun b => w.heap.size ≤ b) v m.a) ∧ Cur w' c s j false
 | .no k => e = endP k
def SamsR (c : Nat) (s : ByteArray) (r : Res (List GV)) (w : World) : Ending → World → Prop := fun e w' => But c w.heap.size w w' ∧
 match r with
 | .ok l j => (∃ a cp, e = .returned (.slice a l.length cp) ∧ RVs w' (fun b => w.heap.size ≤ b) l a) ∧ Cur w' c s j false
 | .no k => e = endP k
def SamIH (c : Nat) (s : ByteArray) (S f : Nat) : Prop := ∀ (t : GT) (e : Env) (i : Nat) (w : World) (m : TA) (a : Option Addr), goodT (!e.isEmpty) t → okT t → sizeT t ≤ S → envOk S e → i ≤ s.size → (∃ k n, wkT f t e k n ≠ none) → Cur w c s i false → RT w (fun b => b ≠ c) t m → REnv w (fun b => b ≠ c) e a →
 Calls Tryz.prog 82 #[.agg #[.pointer (some ⟨c, 0, none⟩)], TV t m, .pointer a] w (SamR c s (sampT s f t e i) w)
def allRest (s : ByteArray) (f : Nat) (e : Env) (D : List GV) (l : List GT) (i : Nat) : Res (List GV) := (allD (fun x => sampT s f x e) l i).map (fun r => D ++ r)
theorem allRest_step (s : ByteArray) (f : Nat) (e : Env) (D : List GV) (l : List GT) (j : Nat) (h : j < l.length) (i : Nat) : allRest s f e D (l.drop j) i = match sampT s f l[j] e i with
  | .no k => .no k
  | .ok v q => allRest s f e (D ++ [v]) (l.drop (j + 1)) q := by
 unfold allRest
 rw [List.drop_eq_getElem_cons h, allD]
 cases sampT s f l[j] e i with
 | no k => rfl
 | ok v q =>
  simp only [Res.bind]
  cases allD (fun x => sampT s f x e) (l.drop (j + 1)) q with
  | no k => rfl
  | ok r p => simp [Res.map]
theorem RVs_of_row {w : World} {base e n : Nat} {v : Value} {ps : List (GV × VA)} {A : Nat → Prop} (h : w.ownsRow base e 3 v n (flatV ps)) (hA : ∀ b, base ≤ b → A b) (hr : ∀ p ∈ ps, RV w A p.1 p.2.a) : ∃ a c, v = .slice a (ps.map Prod.fst).length c ∧ RVs w A (ps.map Prod.fst) a := by
 have hn : ps.length = n := by have := h.1; rw [flatV_length] at this; omega
 rcases h.2 with ⟨rfl, h0⟩ | ⟨g, cap, cur, rfl, hb, h3⟩
 ·have hz : ps = [] := List.eq_nil_of_length_eq_zero (by omega)
  subst hz
  exact ⟨none, 0, rfl, by simp only [List.map_nil, RVs]⟩
 ·refine ⟨_, cap, by rw [List.length_map, hn], RVs_of_owns (hA _ hb) h hr⟩
theorem cells_new3 (w : World) (a b c : Value) (t : TypeId) : ∀ j u, [a, b, c][j]? = some u → (w.alloc (.cells #[a, b, c] t)).cell? ((⟨w.heap.size, 0, none⟩ : Addr).add j) = some u := fun j u hu =>
 World.news_of_block (heap_alloc_new w _) j u (by simpa using hu)
set_option maxRecDepth 100000 in
set_option maxHeartbeats 2000000 in
theorem samAll_any (c : Nat) (s : ByteArray) (S f : Nat) (hS : S ≤ 1099511627776) (ih : SamIH c s S f) (hb : isBits s = true) (l : List GT) (e : Env) (i : Nat) (w : World) (a al : Option Addr) (cp : Nat) (hl64 : l.length ≤ 64)
  (hl : ∀ x ∈ l, goodT (!e.isEmpty) x ∧ okT x ∧ sizeT x ≤ S ∧ ∃ k n, wkT f x e k n ≠ none) (he : envOk S e) (hi : i ≤ s.size) (hc : Cur w c s i false) (hr : RTs w (fun b => b ≠ c) l al) (hv : REnv w (fun b => b ≠ c) e a) :
  Calls Tryz.prog 121 #[.agg #[.pointer (some ⟨c, 0, none⟩)], .slice al l.length cp, .pointer a] w (SamsR c s (allD (fun x => sampT s f x e) l i) w) := by
 have IH := Lib.hid ih
 have HL := Lib.hid hr
 have HV := Lib.hid hv
 have HE := Lib.hid he
 have HG := Lib.hid hl
 have HC := Lib.hid hc
 have hcs : c < w.heap.size := World.block_lt_of_cell? _ _ hc.1.1
 obtain ⟨i0, hi0, y0, y1, y2⟩ := info_parts infoVal
 have hR0 : allRest s f e [] (l.drop 0) i = allD (fun x => sampT s f x e) l i := by
  unfold allRest
  rw [List.drop_zero]
  cases allD (fun x => sampT s f x e) l i <;> simp [Res.map]
 generalize allD (fun x => sampT s f x e) l i = R at *
 have HR0 := Lib.hid hR0
 have hin := fun x hx q hq => sampT_in s S f x e q (hl x hx).1 (hl x hx).2.1 (hl x hx).2.2.1 he hq
 have HIN := Lib.hid hin
 clear ih hr hv he hl hc hR0 hin hb
 go_enter Tryz.func121, Tryz.ntmps121
 go_wp2_with fail
 go_loopg [7, 12] (l.length) (fun gk t7 i' wr => ∃ (j p : Nat) (ps : List (GV × VA)) (v : Value), v = t7 ∧ gk + j = l.length ∧ i' = .int .i64 j ∧ p ≤ s.size ∧ But c w.heap.size w wr ∧ w.heap.size < wr.heap.size ∧ wr.cell? ⟨w.heap.size, 0, none⟩ = some (.pointer (some ⟨c, 0, none⟩)) ∧ Hid (ps.length = j) ∧ Hid (allRest s f e (ps.map Prod.fst) (l.drop j) p = R) ∧ Hid (Cur wr c s p false) ∧
  Hid (wr.ownsRow (w.heap.size + 1) 24 3 v j (flatV ps)) ∧ Hid (∀ q ∈ ps, RV wr (Own w.heap.size (fun _ => False) v) q.1 q.2.a))
 case atStart => exact ⟨0, i, [], _, rfl, by omega, rfl, hi, But.z, by simp, by go_simp, Lib.hid rfl, HR0, Lib.hid (Cur.below (B := w.heap.size) Below.z hcs HC.out), Lib.hid (World.ownsRow_nil _ _ _ _), fun q hq => by simp at hq⟩
 case round =>
  obtain ⟨j, p, ps, v, rfl, hj, rfl, hp, hbt, hz, hcell, HPL, HP, HCU, HO, HQ⟩ := hrel
  by_cases hlt : j < l.length
  ·obtain ⟨b, o, mj, rfl, hA, hbs, g0, gx⟩ := HL.out.get j hlt
   obtain ⟨z0, z1, z2, z3, z4, z5, z6, z7, z8, z9, za, zb, zc, zd, ze⟩ := At15.1 (g0.ext (Agree.but hbt) hA)
   have hs1 : b < wr.heap.size := by have := hbt.size; omega
   have hcr : c < wr.heap.size := by have := hbt.size; omega
   obtain ⟨x1, x2, x3, x4⟩ := HG.out l[j] (List.getElem_mem hlt)
   have HX := Lib.hid (And.intro x1 (And.intro x2 (And.intro x3 x4)))
   have hst := HP.out
   rw [allRest_step _ _ _ _ _ _ hlt] at hst
   have hinj := HIN.out l[j] (List.getElem_mem hlt) p hp
   clear g0 x1 x2 x3 x4
   rcases hW : sampT s f l[j] e p with ⟨v', q⟩ | ⟨k⟩
   ·rw [hW] at hst hinj
    have hq := hinj.2.1
    have HW := Lib.hid hW
    have HST := Lib.hid hst
    clear hW hst hinj
    go_wp2_with (first
     | (go_at_call 82; refine (IH.out l[j] e p _ mj a HX.out.1 HX.out.2.1 HX.out.2.2.1 HE.out hp HX.out.2.2.2 (by exact Cur.below (B := wr.heap.size) Below.z hcr HCU.out) (by exact RT.ext (Agree.but But.z) _ _ gx) (by exact REnv.ext (Agree.but But.z) _ _ HV.out)).mono ?_; rw [HW.out]; rintro e1 w2 ⟨hb2, ⟨m, rfl, hrv⟩, hc2⟩; have HRV := Lib.hid hrv; have HC2 := Lib.hid hc2; clear hrv hc2; have hz2 := hb2.size; simp at hz2; have hbb : But c wr.heap.size wr w2 := But.z; have HO2 := Lib.hid (owns_but HO.out hbb (fun k hk => (by have := HO.out.lt _ hk; omega))))
     | (at_builtin; refine wpList_append_lies _ rfl _ _ 22 rfl (w.heap.size + 1) 24 i0 _ 3 40 Tryz.underlying22 hi0 y0 y1 y2 rfl (by decide) _ j _ (by rfl) (HO2.out.alloc _) ⟨w2.heap.size, 0, none⟩ 1 1 [.int .u8 v'.k, .int .i64 v'.n, .slice m.a v'.l.length m.c] (by rfl) rfl (cells_new3 _ _ _ _ _) (by simp [Value.oneCell']) (by decide) (by unfold maxLen; omega) (by omega) (by simp; omega) (w2.heap.size + 1) (by simp) ?_; intro g cap w4 hown hgrow hat hlt1))
    have hownk : ∀ k, v.ownBlock = some k → w.heap.size ≤ k := fun k e => by have := (HO.out.lt _ e).1; omega
    have hownl : ∀ k, v.ownBlock = some k → k < wr.heap.size := fun k e => (HO.out.lt _ e).2
    have hbw1 : Below (w.heap.size + 1) w2 w4 := Below.grown ((Below.refl _ _).alloc (by omega) _) hgrow (by simp; omega) (fun k e => (HO2.out.lt _ e).1)
    have hag2 : Agree (Own w.heap.size (fun _ => False) v) w2 (w2.alloc (.cells #[.int .u8 v'.k, .int .i64 v'.n, .slice m.a v'.l.length m.c] 24)) := Agree.below ((Below.refl _ _).alloc (Nat.le_refl _) _)
    have hagb : Agree (Own w.heap.size (fun _ => False) v) wr w2 := fun q u hq hcq => (hbb.cell (World.block_lt_of_cell? _ _ hcq) (by rcases hq with ⟨h, _⟩ | ⟨h, _⟩; exact absurd h id; omega)).trans hcq
    go_roundg (gk - 1)
    case measure => omega
    case rel =>
     refine ⟨j + 1, q, ps ++ [(v', m)], _, rfl, by omega, by go_num, hq, (hbt.trans (hbb.mono (by omega))).trans (But.of (hbw1.mono (by omega))), by have := hbw1.size; omega, ?_, Lib.hid (by have := HPL.out; simp; omega), Lib.hid (by rw [List.map_append]; exact HST.out), Lib.hid (Cur.below hbw1 (by omega) HC2.out), Lib.hid ?_, ?_⟩
     ·exact (hbw1.cell (p := ⟨w.heap.size, 0, none⟩) (by simp)).trans ((hbb.cell (p := ⟨w.heap.size, 0, none⟩) (by simp; omega) (by simp; omega)).trans hcell)
     ·rw [flatV_append]; exact hown
     ·intro q hq
      rcases List.mem_append.1 hq with hq | hq
      ·exact RV.own hgrow hownk hat (by simp) (RV.ext hag2 _ _ (RV.ext hagb _ _ (HQ.out q hq)))
      ·simp at hq
       subst hq
       refine RV.own hgrow hownk hat (by simp) (RV.ext hag2 _ _ (RV.mono (fun b h _ => ?_) _ _ HRV.out))
       simp at h
       exact .inr ⟨by omega, fun e => by have := hownl b e; omega⟩
   ·rw [hW] at hst
    have HW := Lib.hid hW
    have HST := Lib.hid hst
    clear hW hst hinj
    go_wp2_with (go_at_call 82; refine (IH.out l[j] e p _ mj a HX.out.1 HX.out.2.1 HX.out.2.2.1 HE.out hp HX.out.2.2.2 (by exact Cur.below (B := wr.heap.size) Below.z hcr HCU.out) (by exact RT.ext (Agree.but But.z) _ _ gx) (by exact REnv.ext (Agree.but But.z) _ _ HV.out)).mono ?_; rw [HW.out]; rintro e1 w2 ⟨hb2, rfl⟩)
    rw [← HST.out]
    exact ⟨rfl, But.z, rfl⟩
  ·have hjl : j = l.length := by omega
   have hst := HP.out
   rw [hjl, List.drop_length] at hst
   have hst2 : R = .ok (ps.map Prod.fst) p := by rw [← hst]; simp [allRest, allD, Res.map]
   have hE := RVs_of_row (A := fun b => w.heap.size ≤ b) HO.out (fun b h => by omega) (fun q hq => RV.mono (fun b hb _ => by rcases hb with ⟨h, _⟩ | ⟨h, _⟩; exact absurd h id; exact h) _ _ (HQ.out q hq))
   obtain ⟨av, cv, hav, hrd⟩ := hE
   have HRD := Lib.hid hrd
   have HAV := Lib.hid hav
   clear hst hrd hav
   subst hst2
   go_wp2_with fail
   go_ret
   exact ⟨hbt, ⟨av, cv, by rw [← HAV.out]; rfl, HRD.out⟩, HCU.out⟩
theorem pickL_take {α : Type} (l : List α) (row : List Int) (j : Nat) (h : j < row.length) (k : Nat) (hk : row[j] = (k : Int)) (hl : k < l.length) : pickL l (row.take (j + 1)) = pickL l (row.take j) ++ [l[k]] := by
 unfold pickL
 rw [List.take_succ_eq_append_getElem h, List.filterMap_append, hk]
 simp [List.getElem?_eq_getElem hl]
set_option maxRecDepth 100000 in
set_option maxHeartbeats 2000000 in
theorem pickedV_any (l : List GV) (row : List Int) (A A2 : Nat → Prop) (w : World) (al ar : Option Addr) (cl cr : Nat) (hl : l.length ≤ 1048576) (hrow : row.length ≤ 64) (hm : ∀ x ∈ row, 0 ≤ x ∧ x < (l.length : Int)) (hr : RVs w A l al) (hi : RIs w A2 row ar) :
  Calls Tryz.prog 123 #[.slice al l.length cl, .slice ar row.length cr] w fun e w' => Below w.heap.size w w' ∧ ∃ a cp, e = .returned (.slice a (pickL l row).length cp) ∧ RVs w' (fun b => A b ∨ w.heap.size ≤ b) (pickL l row) a := by
 have HL := Lib.hid (RVs.mono (A' := fun b => A b ∧ b < w.heap.size) (fun b h hb => ⟨h, hb⟩) _ _ hr)
 have HI := Lib.hid hi
 have HM := Lib.hid hm
 obtain ⟨i0, hi0, y0, y1, y2⟩ := info_parts infoVal
 clear hr hi hm
 go_enter Tryz.func123, Tryz.ntmps123
 go_wp2_with fail
 go_loopg [5, 10] (row.length) (fun gk t5 i' wr => ∃ (j : Nat) (ps : List (GV × VA)) (v : Value), v = t5 ∧ gk + j = row.length ∧ i' = .int .i64 j ∧ Below w.heap.size w wr ∧ Hid (ps.length = j) ∧ Hid (ps.map Prod.fst = pickL l (row.take j)) ∧
  Hid (wr.ownsRow w.heap.size 24 3 v j (flatV ps)) ∧ Hid (∀ q ∈ ps, RV wr (Own w.heap.size A v) q.1 q.2.a))
 case atStart => exact ⟨0, [], _, rfl, by omega, rfl, Below.z, Lib.hid rfl, Lib.hid rfl, Lib.hid (World.ownsRow_nil _ _ _ _), fun q hq => by simp at hq⟩
 case round =>
  obtain ⟨j, ps, v, rfl, hj, rfl, hb, HPL, HP, HO, HQ⟩ := hrel
  have hz := hb.size
  by_cases hlt : j < row.length
  ·obtain ⟨b1, o1, rfl, hA1, hbs1, g1⟩ := HI.out.get j hlt
   obtain ⟨x0, x1⟩ := HM.out row[j] (List.getElem_mem hlt)
   obtain ⟨k, hk⟩ : ∃ k : Nat, row[j] = (k : Int) := ⟨row[j].toNat, by omega⟩
   have hkl : k < l.length := by omega
   have hkI : (k : Int) < (l.length : Int) := by omega
   have hst := pickL_take l row j hlt k hk hkl
   rw [hk] at g1
   have r0 : wr.cell? ⟨b1, o1 + j, none⟩ = some (.int .i64 k) := (hb.cell hbs1).trans g1
   obtain ⟨b, o, mj, rfl, hA, hbs, g0, gx⟩ := HL.out.get k hkl
   obtain ⟨k0, k1, k2⟩ := At3.1 (g0.ext (Agree.below hb) (A := fun _ => True) trivial)
   have hs1 : b < wr.heap.size := by omega
   have hs2 : b1 < wr.heap.size := by omega
   have HST := Lib.hid hst
   clear g0 g1 hk x0 x1 hst
   go_wp2_with (at_builtin; refine wpList_append_lies _ rfl _ _ 22 rfl w.heap.size 24 i0 _ 3 40 Tryz.underlying22 hi0 y0 y1 y2 rfl (by decide) _ j _ (by rfl) (HO.out.alloc _) ⟨wr.heap.size, 0, none⟩ 1 1 [.int .u8 l[k].k, .int .i64 l[k].n, .slice mj.a l[k].l.length mj.c] (by rfl) rfl (cells_new3 _ _ _ _ _) (by simp [Value.oneCell']) (by decide) (by unfold maxLen; omega) (by omega) (by simp; omega) (wr.heap.size + 1) (by simp) ?_; intro g cap w4 hown hgrow hat hlt1)
   have hownk : ∀ q, v.ownBlock = some q → w.heap.size ≤ q := fun q e => (HO.out.lt _ e).1
   have hbw1 : Below w.heap.size wr w4 := Below.grown ((Below.refl _ _).alloc (by omega) _) hgrow (by simp; omega) hownk
   have hag2 : Agree (Own w.heap.size A v) wr (wr.alloc (.cells #[.int .u8 l[k].k, .int .i64 l[k].n, .slice mj.a l[k].l.length mj.c] 24)) := Agree.below ((Below.refl _ _).alloc (Nat.le_refl _) _)
   go_roundg (gk - 1)
   case measure => omega
   case rel =>
    refine ⟨j + 1, ps ++ [(l[k], mj)], _, rfl, by omega, by go_num, hb.trans hbw1, Lib.hid (by have := HPL.out; simp; omega), Lib.hid (by rw [List.map_append, HP.out, HST.out]; rfl), Lib.hid ?_, ?_⟩
    ·rw [flatV_append]; exact hown
    ·intro q hq
     rcases List.mem_append.1 hq with hq | hq
     ·exact RV.own hgrow hownk hat (by simp) (RV.ext hag2 _ _ (HQ.out q hq))
     ·simp at hq
      subst hq
      exact RV.own hgrow hownk hat (by simp) (RV.ext hag2 _ _ (RV.mono (fun b h _ => .inl h) _ _ (RV.ext (Agree.below hb) _ _ gx)))
  ·have hjl : j = row.length := by omega
   have hst := HP.out
   rw [hjl, List.take_length] at hst
   have hE := RVs_of_row (A := fun b => A b ∨ w.heap.size ≤ b) HO.out (fun b h => .inr h) (fun q hq => RV.mono (fun b hb _ => by rcases hb with ⟨h, _⟩ | ⟨h, _⟩; exact .inl h; exact .inr h) _ _ (HQ.out q hq))
   obtain ⟨av, cv, hav, hrd⟩ := hE
   rw [hst] at hav hrd
   have HRD := Lib.hid hrd
   have HAV := Lib.hid hav
   clear hst hrd hav
   go_wp2_with fail
   go_ret
   exact ⟨hb, av, cv, by rw [← HAV.out]; rfl, HRD.out⟩
def flatT : List (GT × TA) → List Value
 | [] => []
 | (x, m) :: r => [.int .u8 x.k, .int .u8 x.v.k, .int .i64 x.v.n, .slice m.va x.v.l.length m.vc, .slice m.vsa x.vs.length m.vsc, .int .i64 x.lo, .int .i64 x.hi, .slice m.wa x.w.length m.wc, .int .u8 x.p.k, .int .u8 x.p.v.k, .int .i64 x.p.v.n, .slice m.pva x.p.v.l.length m.pvc, .int .i64 x.p.n, .slice m.pa x.p.a.length m.pc, .slice m.a x.a.length m.c] ++ flatT r
theorem flatT_length : ∀ ps : List (GT × TA), (flatT ps).length = ps.length * 15
 | [] => rfl
 | (x, m) :: r => by simp only [flatT, List.length_append, List.length_cons, List.length_nil, flatT_length r]; omega
theorem flatT_append : ∀ ps qs : List (GT × TA), flatT (ps ++ qs) = flatT ps ++ flatT qs
 | [], qs => rfl
 | (x, m) :: r, qs => by simp only [List.cons_append, flatT, flatT_append r qs, List.nil_append]
theorem RTs_of_cells {w : World} {g : Nat} {A : Nat → Prop} (hA : A g) : ∀ (ps : List (GT × TA)) (o : Nat), (∀ j u, (flatT ps)[j]? = some u → w.cell? ⟨g, o + j, none⟩ = some u) → (∀ p ∈ ps, RT w A p.1 p.2) → RTs w A (ps.map Prod.fst) (some ⟨g, o, none⟩)
 | [], o, _, _ => by simp only [List.map_nil, RTs]
 | (x, m) :: r, o, h, hr => by
  simp only [List.map_cons, RTs]
  refine ⟨g, o, m, rfl, hA, ?_, hr (x, m) (by simp), RTs_of_cells hA r (o + 15) (fun j u hj => ?_) fun p hp => hr p (by simp [hp])⟩
  ·rw [At15]
   exact ⟨h 0 _ rfl, h 1 _ rfl, h 2 _ rfl, h 3 _ rfl, h 4 _ rfl, h 5 _ rfl, h 6 _ rfl, h 7 _ rfl, h 8 _ rfl, h 9 _ rfl, h 10 _ rfl, h 11 _ rfl, h 12 _ rfl, h 13 _ rfl, h 14 _ rfl⟩
  ·have := h (j + 15) u (by simpa [flatT] using hj)
   rw [show o + 15 + j = o + (j + 15) by omega]; exact this
theorem RTs_of_row {w : World} {base e n : Nat} {v : Value} {ps : List (GT × TA)} {A : Nat → Prop} (h : w.ownsRow base e 15 v n (flatT ps)) (hA : ∀ b, base ≤ b → A b) (hr : ∀ p ∈ ps, RT w A p.1 p.2) : ∃ a c, v = .slice a (ps.map Prod.fst).length c ∧ RTs w A (ps.map Prod.fst) a := by
 have hn : ps.length = n := by have := h.1; rw [flatT_length] at this; omega
 rcases h.2 with ⟨rfl, h0⟩ | ⟨g, cap, cur, rfl, hb, h3⟩
 ·have hz : ps = [] := List.eq_nil_of_length_eq_zero (by omega)
  subst hz
  exact ⟨none, 0, rfl, by simp only [List.map_nil, RTs]⟩
 ·refine ⟨_, cap, by rw [List.length_map, hn], RTs_of_cells (hA _ hb) ps 0 (fun j u hj => ?_) hr⟩
  have hl := h.1
  have hj2 := (List.getElem?_eq_some_iff.1 hj).1
  rw [Nat.zero_add, h.cellAt j (by omega)]; exact hj
theorem infoTerm : (Tryz.prog.info? 31).map (fun i => (i.zero, i.size, i.bytes)) = some (some (.agg #[.int .u8 0, .int .u8 0, .int .i64 0, .slice none 0 0, .slice none 0 0, .int .i64 0, .int .i64 0, .slice none 0 0, .int .u8 0, .int .u8 0, .int .i64 0, .slice none 0 0, .int .i64 0, .slice none 0 0, .slice none 0 0]), 15, 216) := by kernel_rfl
set_option maxRecDepth 100000 in
set_option maxHeartbeats 2000000 in
theorem pickedT_any (l : List GT) (row : List Int) (A A2 : Nat → Prop) (w : World) (al ar : Option Addr) (cl cr : Nat) (hl : l.length ≤ 1048576) (hrow : row.length ≤ 64) (hm : ∀ x ∈ row, 0 ≤ x ∧ x < (l.length : Int)) (hr : RTs w A l al) (hi : RIs w A2 row ar) :
  Calls Tryz.prog 126 #[.slice al l.length cl, .slice ar row.length cr] w fun e w' => Below w.heap.size w w' ∧ ∃ a cp, e = .returned (.slice a (pickL l row).length cp) ∧ RTs w' (fun b => A b ∨ w.heap.size ≤ b) (pickL l row) a := by
 have HL := Lib.hid (RTs.mono (A' := fun b => A b ∧ b < w.heap.size) (fun b h hb => ⟨h, hb⟩) _ _ hr)
 have HI := Lib.hid hi
 have HM := Lib.hid hm
 obtain ⟨i0, hi0, y0, y1, y2⟩ := info_parts infoTerm
 clear hr hi hm
 go_enter Tryz.func126, Tryz.ntmps126
 go_wp2_with fail
 go_loopg [5, 10] (row.length) (fun gk t5 i' wr => ∃ (j : Nat) (ps : List (GT × TA)) (v : Value), v = t5 ∧ gk + j = row.length ∧ i' = .int .i64 j ∧ Below w.heap.size w wr ∧ Hid (ps.length = j) ∧ Hid (ps.map Prod.fst = pickL l (row.take j)) ∧
  Hid (wr.ownsRow w.heap.size 31 15 v j (flatT ps)) ∧ Hid (∀ q ∈ ps, RT wr (Own w.heap.size A v) q.1 q.2))
 case atStart => exact ⟨0, [], _, rfl, by omega, rfl, Below.z, Lib.hid rfl, Lib.hid rfl, Lib.hid (World.ownsRow_nil _ _ _ _), fun q hq => by simp at hq⟩
 case round =>
  obtain ⟨j, ps, v, rfl, hj, rfl, hb, HPL, HP, HO, HQ⟩ := hrel
  have hz := hb.size
  by_cases hlt : j < row.length
  ·obtain ⟨b1, o1, rfl, hA1, hbs1, g1⟩ := HI.out.get j hlt
   obtain ⟨x0, x1⟩ := HM.out row[j] (List.getElem_mem hlt)
   obtain ⟨k, hk⟩ : ∃ k : Nat, row[j] = (k : Int) := ⟨row[j].toNat, by omega⟩
   have hkl : k < l.length := by omega
   have hkI : (k : Int) < (l.length : Int) := by omega
   have hst := pickL_take l row j hlt k hk hkl
   rw [hk] at g1
   have r0 : wr.cell? ⟨b1, o1 + j, none⟩ = some (.int .i64 k) := (hb.cell hbs1).trans g1
   obtain ⟨b, o, mj, rfl, hA, hbs, g0, gx⟩ := HL.out.get k hkl
   obtain ⟨z0, z1, z2, z3, z4, z5, z6, z7, z8, z9, za, zb, zc, zd, ze⟩ := At15.1 (g0.ext (Agree.below hb) (A := fun _ => True) trivial)
   have hs1 : b < wr.heap.size := by omega
   have hs2 : b1 < wr.heap.size := by omega
   have HST := Lib.hid hst
   clear g0 g1 hk x0 x1 hst
   go_wp2_with (at_builtin; refine wpList_append_lies _ rfl _ _ 29 rfl w.heap.size 31 i0 _ 15 216 Tryz.underlying29 hi0 y0 y1 y2 rfl (by decide) _ j _ (by rfl) (HO.out.alloc _) ⟨wr.heap.size, 0, none⟩ 1 1 [.int .u8 l[k].k, .int .u8 l[k].v.k, .int .i64 l[k].v.n, .slice mj.va l[k].v.l.length mj.vc, .slice mj.vsa l[k].vs.length mj.vsc, .int .i64 l[k].lo, .int .i64 l[k].hi, .slice mj.wa l[k].w.length mj.wc, .int .u8 l[k].p.k, .int .u8 l[k].p.v.k, .int .i64 l[k].p.v.n, .slice mj.pva l[k].p.v.l.length mj.pvc, .int .i64 l[k].p.n, .slice mj.pa l[k].p.a.length mj.pc, .slice mj.a l[k].a.length mj.c] (by rfl) rfl (fun j u hu => World.news_of_block (heap_alloc_new wr _) j u (by simpa using hu)) (by simp [Value.oneCell']) (by decide) (by unfold maxLen; omega) (by omega) (by simp; omega) (wr.heap.size + 1) (by simp) ?_; intro g cap w4 hown hgrow hat hlt1)
   have hownk : ∀ q, v.ownBlock = some q → w.heap.size ≤ q := fun q e => (HO.out.lt _ e).1
   have hbw1 : Below w.heap.size wr w4 := Below.grown ((Below.refl _ _).alloc (by omega) _) hgrow (by simp; omega) hownk
   have hag2 : Agree (Own w.heap.size A v) wr (wr.alloc (.cells #[.int .u8 l[k].k, .int .u8 l[k].v.k, .int .i64 l[k].v.n, .slice mj.va l[k].v.l.length mj.vc, .slice mj.vsa l[k].vs.length mj.vsc, .int .i64 l[k].lo, .int .i64 l[k].hi, .slice mj.wa l[k].w.length mj.wc, .int .u8 l[k].p.k, .int .u8 l[k].p.v.k, .int .i64 l[k].p.v.n, .slice mj.pva l[k].p.v.l.length mj.pvc, .int .i64 l[k].p.n, .slice mj.pa l[k].p.a.length mj.pc, .slice mj.a l[k].a.length mj.c] 31)) := Agree.below ((Below.refl _ _).alloc (Nat.le_refl _) _)
   go_roundg (gk - 1)
   case measure => omega
   case rel =>
    refine ⟨j + 1, ps ++ [(l[k], mj)], _, rfl, by omega, by go_num, hb.trans hbw1, Lib.hid (by have := HPL.out; simp; omega), Lib.hid (by rw [List.map_append, HP.out, HST.out]; rfl), Lib.hid ?_, ?_⟩
    ·rw [flatT_append]; exact hown
    ·intro q hq
     rcases List.mem_append.1 hq with hq | hq
     ·exact RT.own hgrow hownk hat (by simp) (RT.ext hag2 _ _ (HQ.out q hq))
     ·simp at hq
      subst hq
      exact RT.own hgrow hownk hat (by simp) (RT.ext hag2 _ _ (RT.mono (fun b h _ => .inl h) _ _ (RT.ext (Agree.below hb) _ _ gx)))
  ·have hjl : j = row.length := by omega
   have hst := HP.out
   rw [hjl, List.take_length] at hst
   have hE := RTs_of_row (A := fun b => A b ∨ w.heap.size ≤ b) HO.out (fun b h => .inr h) (fun q hq => RT.mono (fun b hb _ => by rcases hb with ⟨h, _⟩ | ⟨h, _⟩; exact .inl h; exact .inr h) _ _ (HQ.out q hq))
   obtain ⟨av, cv, hav, hrd⟩ := hE
   rw [hst] at hav hrd
   have HRD := Lib.hid hrd
   have HAV := Lib.hid hav
   clear hst hrd hav
   go_wp2_with fail
   go_ret
   exact ⟨hb, av, cv, by rw [← HAV.out]; rfl, HRD.out⟩
end Go.Proofs.YtojjdneicmbfjaaGreatDoor
