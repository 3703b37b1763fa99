/- What the proofs of the Trial statements need: part 44. -/
import Derived.Deep.RegionHeld3
import Derived.IntWalk
import Derived.RegionTactic
import Derived.Test.YtojjdneicmbfjaaGreatQ0
import Derived.Test.YtojjdneicmbfjaaGreatQ1
import Derived.Test.YtojjdneicmbfjaaGreatQ17
import Derived.Test.YtojjdneicmbfjaaGreatQ20
set_option linter.unusedVariables false
set_option linter.unusedSimpArgs false
namespace Go.Proofs.YtojjdneicmbfjaaGreat
open Go Go.RowKit
theorem At5 {w b o c0 c1 c2 c3 c4} : At w b o [c0, c1, c2, c3, c4] ↔ w.cell? ⟨b, o, none⟩ = some c0 ∧ w.cell? ⟨b, o + 1, none⟩ = some c1 ∧ w.cell? ⟨b, o + 2, none⟩ = some c2 ∧
  w.cell? ⟨b, o + 3, none⟩ = some c3 ∧ w.cell? ⟨b, o + 4, none⟩ = some c4 := by
 simp only [At, Nat.add_assoc, Nat.reduceAdd, and_true]
def okR (x : GR) : Prop := isI64 x.f ∧ isI64 x.t ∧ okV x.v
def okRs (l : List GR) : Prop := ∀ x ∈ l, okR x
def RRs (w : World) (A : Nat → Prop) : List GR → Option Addr → Prop
 | [], _ => True
 | x :: l, a => ∃ b o m, a = some ⟨b, o, none⟩ ∧ A b ∧ At w b o [.int .i64 x.f, .int .i64 x.t, .int .u8 x.v.k, .int .i64 x.v.n, .slice (VA.a m) x.v.l.length (VA.c m)] ∧ RV w A x.v m.a ∧ RRs w A l (some ⟨b, o + 5, none⟩)
theorem RRs.ext {w w' : World} {A : Nat → Prop} (h : Agree A w w') : ∀ (l : List GR) a, RRs w A l a → RRs w' A l a
 | [], _, _ => by simp only [RRs]
 | x :: l, a, hx => by
  simp only [RRs] at hx ⊢
  obtain ⟨b, o, m, e, hA, h0, hx, hl⟩ := hx
  exact ⟨b, o, m, e, hA, h0.ext h hA, RV.ext h x.v _ hx, RRs.ext h l _ hl⟩
theorem RRs.mono {w : World} {A A' : Nat → Prop} (h : ∀ b, A b → b < w.heap.size → A' b) : ∀ (l : List GR) a, RRs w A l a → RRs w A' l a
 | [], _, _ => by simp only [RRs]
 | x :: l, a, hx => by
  simp only [RRs] at hx ⊢
  obtain ⟨b, o, m, e, hA, h0, hx, hl⟩ := hx
  exact ⟨b, o, m, e, h b hA (World.block_lt_of_cell? _ _ h0.1), h0, RV.mono h x.v _ hx, RRs.mono h l _ hl⟩
theorem RRs.get {w A} : ∀ {l : List GR} {a}, RRs w A l a → ∀ i (h : i < l.length), ∃ b o m, a = some ⟨b, o, none⟩ ∧ A b ∧ b < w.heap.size ∧
  At w b (o + i * 5) [.int .i64 l[i].f, .int .i64 l[i].t, .int .u8 l[i].v.k, .int .i64 l[i].v.n, .slice (VA.a m) l[i].v.l.length (VA.c m)] ∧ RV w A l[i].v m.a
 | [], _, _, i, h => absurd h (by simp)
 | x :: l, a, h, i, hi => by
  simp only [RRs] at h
  obtain ⟨b, o, m, rfl, hA, h0, hx, hl⟩ := h
  have hb : b < w.heap.size := World.block_lt_of_cell? _ _ h0.1
  cases i with
  | zero => exact ⟨b, o, m, rfl, hA, hb, by simpa using h0, hx⟩
  | succ i =>
   obtain ⟨b', o', m', e, hA', hb', g0, gx⟩ := hl.get i (by simpa using hi)
   simp at e
   obtain ⟨rfl, rfl⟩ := e
   exact ⟨b, o, m', rfl, hA, hb, by rw [show o + (i + 1) * 5 = o + 5 + i * 5 from by omega]; exact g0, gx⟩
/-- the rest of a row lies farther on -/
theorem RRs.drop {w A} : ∀ {l : List GR} {b o : Nat}, RRs w A l (some ⟨b, o, none⟩) → ∀ k, RRs w A (l.drop k) (some ⟨b, o + k * 5, none⟩)
 | [], _, _, _, k => by simp only [List.drop_nil, RRs]
 | x :: l, b, o, h, 0 => by simpa using h
 | x :: l, b, o, h, k + 1 => by
  simp only [RRs] at h
  obtain ⟨b', o', m, e, hA, h0, hx, hl⟩ := h
  simp at e
  obtain ⟨rfl, rfl⟩ := e
  rw [List.drop_succ_cons, show o + (k + 1) * 5 = o + 5 + k * 5 by omega]
  exact RRs.drop hl k
theorem RRs.take {w A} : ∀ {l : List GR} {a}, RRs w A l a → ∀ k, RRs w A (l.take k) a
 | [], _, _, k => by simp only [List.take_nil, RRs]
 | x :: l, a, h, 0 => by simp only [List.take_zero, RRs]
 | x :: l, a, h, k + 1 => by
  simp only [List.take_succ_cons, RRs] at h ⊢
  obtain ⟨b', o', m, e, hA, h0, hx, hl⟩ := h
  exact ⟨b', o', m, e, hA, h0, hx, RRs.take hl k⟩
/-- the cells of a row of trials -/
def flatR : List (GR × VA) → List Value
 | [] => []
 | (x, m) :: r => [.int .i64 x.f, .int .i64 x.t, .int .u8 x.v.k, .int .i64 x.v.n, .slice m.a x.v.l.length m.c] ++ flatR r
theorem flatR_length : ∀ ps : List (GR × VA), (flatR ps).length = ps.length * 5
 | [] => rfl
 | (x, m) :: r => by simp only [flatR, List.length_append, List.length_cons, List.length_nil, flatR_length r]; omega
theorem flatR_append : ∀ ps qs : List (GR × VA), flatR (ps ++ qs) = flatR ps ++ flatR qs
 | [], qs => rfl
 | (x, m) :: r, qs => by simp only [List.cons_append, flatR, flatR_append r qs, List.nil_append]
theorem RRs_of_cells {w : World} {g : Nat} {A : Nat → Prop} (hA : A g) : ∀ (ps : List (GR × VA)) (o : Nat), (∀ j u, (flatR ps)[j]? = some u → w.cell? ⟨g, o + j, none⟩ = some u) → (∀ p ∈ ps, RV w A p.1.v p.2.a) → RRs w A (ps.map Prod.fst) (some ⟨g, o, none⟩)
 | [], o, _, _ => by simp only [List.map_nil, RRs]
 | (x, m) :: r, o, h, hr => by
  simp only [List.map_cons, RRs]
  refine ⟨g, o, m, rfl, hA, ?_, hr (x, m) (by simp), RRs_of_cells hA r (o + 5) (fun j u hj => ?_) fun p hp => hr p (by simp [hp])⟩
  ·rw [At5]
   exact ⟨h 0 _ rfl, h 1 _ rfl, h 2 _ rfl, h 3 _ rfl, h 4 _ rfl⟩
  ·have := h (j + 5) u (by simpa [flatR] using hj)
   rw [show o + 5 + j = o + (j + 5) by omega]; exact this
theorem RRs_of_row {w : World} {base e n : Nat} {v : Value} {ps : List (GR × VA)} {A : Nat → Prop} (h : w.ownsRow base e 5 v n (flatR ps)) (hA : ∀ b, base ≤ b → A b) (hr : ∀ p ∈ ps, RV w A p.1.v p.2.a) : ∃ a c, v = .slice a (ps.map Prod.fst).length ((ps.map Prod.fst).length + c) ∧ RRs w A (ps.map Prod.fst) a := by
 have hn : ps.length = n := by have := h.1; rw [flatR_length] at this; omega
 rcases h.2 with ⟨rfl, h0⟩ | ⟨g, cap, cur, rfl, hb, h3, hcap, h4⟩
 ·have hz : ps = [] := List.eq_nil_of_length_eq_zero (by omega)
  subst hz
  exact ⟨none, 0, rfl, by simp only [List.map_nil, RRs]⟩
 ·refine ⟨_, cap - n, by rw [List.length_map, hn, Nat.add_sub_cancel' hcap], RRs_of_cells (hA _ hb) ps 0 (fun j u hj => ?_) hr⟩
  have hl := h.1
  have hj2 := (List.getElem?_eq_some_iff.1 hj).1
  rw [Nat.zero_add, h.cellAt j (by omega)]; exact hj
end Go.Proofs.YtojjdneicmbfjaaGreat
namespace Go.Proofs.YtojjdneicmbfjaaGreat
open Go Go.RowKit
/-- the same trials, the first ones so much farther on? -/
def sameRs (d : Int) : List GR → List GR → Bool
 | [], [] => true
 | x :: l, y :: l' => x.f + d == y.f && x.t + d == y.t && sameV x.v y.v && sameRs d l l'
 | _, _ => false
theorem sameRs_len (d : Int) : ∀ (l l' : List GR), l.length ≠ l'.length → sameRs d l l' = false
 | [], [], h => absurd rfl h
 | [], _ :: _, _ => rfl
 | _ :: _, [], _ => rfl
 | x :: l, y :: l', h => by simp [sameRs, sameRs_len d l l' (by simpa using h)]
theorem sameRs_drop (d : Int) : ∀ (l l' : List GR) (j : Nat), (∀ q (h : q < l.length) (h' : q < l'.length), q < j → (l[q].f + d == l'[q].f && l[q].t + d == l'[q].t && sameV l[q].v l'[q].v) = true) → j ≤ l.length → j ≤ l'.length → sameRs d l l' = sameRs d (l.drop j) (l'.drop j)
 | _, _, 0, _, _, _ => by simp
 | [], _, j + 1, _, h, _ => by simp at h
 | _ :: _, [], j + 1, _, _, h => by simp at h
 | x :: l, y :: l', j + 1, g, h, h' => by
  have g0 := g 0 (by simp) (by simp) (by omega)
  simp only [List.getElem_cons_zero] at g0
  rw [sameRs, g0, Bool.true_and, List.drop_succ_cons, List.drop_succ_cons]
  exact sameRs_drop d l l' j (fun q hq hq' hj => by
   have := g (q + 1) (by simpa using hq) (by simpa using hq') (by omega)
   simpa only [List.getElem_cons_succ] using this) (by simpa using h) (by simpa using h')
theorem sameRs_at (d : Int) (l l' : List GR) (j : Nat) (g : ∀ q (h : q < l.length) (h' : q < l'.length), q < j → (l[q].f + d == l'[q].f && l[q].t + d == l'[q].t && sameV l[q].v l'[q].v) = true) (h : j < l.length) (h' : j < l'.length) (hn : (l[j].f + d == l'[j].f && l[j].t + d == l'[j].t && sameV l[j].v l'[j].v) = false) : sameRs d l l' = false := by
 rw [sameRs_drop d l l' j g (by omega) (by omega), List.drop_eq_getElem_cons h, List.drop_eq_getElem_cons h', sameRs, hn, Bool.false_and]
theorem sameRs_all (d : Int) (l l' : List GR) (hl : l.length = l'.length) (g : ∀ q (h : q < l.length) (h' : q < l'.length), (l[q].f + d == l'[q].f && l[q].t + d == l'[q].t && sameV l[q].v l'[q].v) = true) : sameRs d l l' = true := by
 rw [sameRs_drop d l l' l.length (fun q h h' _ => g q h h') (by omega) (by omega), List.drop_length, List.drop_eq_nil_of_le (by omega)]
 rfl
set_option maxRecDepth 100000 in
set_option maxHeartbeats 2000000 in
theorem r29same_any (l l' : List GR) (d : Int) (A A' : Nat → Prop) (w : World) (al al' : Option Addr) (cl cl' : Nat) (hl : l.length ≤ 1048576) (hl' : l'.length ≤ 1048576) (hd : 0 ≤ d ∧ d ≤ 1099511627776)
  (ho : ∀ x ∈ l, (0 ≤ x.f ∧ x.f ≤ 1099511627776) ∧ (0 ≤ x.t ∧ x.t ≤ 1099511627776) ∧ okV x.v) (ho' : ∀ x ∈ l', okR x) (hr : RRs w A l al) (hr' : RRs w A' l' al') :
  Calls Tryz.prog 9 #[.slice al l.length cl, .slice al' l'.length cl', .int .i64 d] w fun e w' => e = .returned (.bool (sameRs d l l')) ∧ Below w.heap.size w w' := by
 have HL := Lib.hid hr
 have HL' := Lib.hid hr'
 have HO := Lib.hid ho
 have HO' := Lib.hid ho'
 obtain ⟨d0, d1⟩ := hd
 clear hr hr' ho ho'
 by_cases hll : l.length = l'.length
 case neg =>
  have hll' : ((l.length : Int) != (l'.length : Int)) = true := by simp; omega
  rw [sameRs_len d l l' hll]
  clear hll
  go_enter Tryz.func9, Tryz.ntmps9
  go_wp2_with fail
  go_ret
  exact ⟨rfl, Below.z⟩
 have hll' : ((l.length : Int) != (l'.length : Int)) = false := by simp; omega
 have HLL := Lib.hid hll
 clear hll
 generalize hF : sameRs d l l' = F
 have HF := Lib.hid hF
 clear hF
 go_enter Tryz.func9, Tryz.ntmps9
 go_wp2_with fail
 go_loopg [7] (l.length) (fun gk i wr => ∃ j : Nat, gk + j = l.length ∧ i = .int .i64 j ∧ Hid (∀ q (h : q < l.length) (h' : q < l'.length), q < j → (l[q].f + d == l'[q].f && l[q].t + d == l'[q].t && sameV l[q].v l'[q].v) = true) ∧ Below w.heap.size w wr)
 case atStart => exact ⟨0, by omega, rfl, fun q h h' hq => absurd hq (by omega), Below.z⟩
 case round =>
  obtain ⟨j, hj, rfl, HS, hb⟩ := hrel
  by_cases hlt : j < l.length
  ·have hlt' : j < l'.length := by have := HLL.out; omega
   have hzw := hb.size
   obtain ⟨b, o, mj, rfl, hA, hbs, g0, gx⟩ := HL.out.get j hlt
   obtain ⟨b', o', mj', rfl, hA', hbs', g0', gy⟩ := HL'.out.get j hlt'
   obtain ⟨k0, k1, k2, k3, k4⟩ := At5.1 (g0.ext (Agree.below hb) (A := fun _ => True) trivial)
   obtain ⟨k0', k1', k2', k3', k4'⟩ := At5.1 (g0'.ext (Agree.below hb) (A := fun _ => True) trivial)
   obtain ⟨⟨f0, f1⟩, ⟨t0, t1⟩, oV⟩ := HO.out l[j] (List.getElem_mem hlt)
   obtain ⟨⟨u0, u1⟩, ⟨v0, v1⟩, oV'⟩ := HO'.out l'[j] (List.getElem_mem hlt')
   have OV := Lib.hid oV
   have OV' := Lib.hid oV'
   have hs1 : b < wr.heap.size := by omega
   have hs2 : b' < wr.heap.size := by omega
   have wf : IntKind.i64.wrap (l[j].f + d) = l[j].f + d := IntWalk.i64_in _ (by omega)
   have wt : IntKind.i64.wrap (l[j].t + d) = l[j].t + d := IntWalk.i64_in _ (by omega)
   clear hbs hbs' g0 g0' oV oV'
   cases hF : (l[j].f + d != l'[j].f)
   ·cases hT : (l[j].t + d != l'[j].t)
    ·have hFT : (l[j].f + d == l'[j].f) = true ∧ (l[j].t + d == l'[j].t) = true := by simpa using And.intro hF hT
     have HFT := Lib.hid hFT
     clear hFT
     go_wp2_with fail
     refine wp_tail 39 (by kernel_rfl) (by kernel_rfl) ?_
     simp only [List.take_succ_cons, List.take_zero, List.drop_succ_cons, List.drop_zero]
     repeat still_step
     refine wpStill_nil ?_
     clear wf wt
     go_wp2_with (go_at_call 26; refine (r14same_any _ l[j].v l'[j].v _ A A' mj mj' (Nat.le_refl _) OV.out OV'.out (by exact RV_iff.1 (RV.ext (Agree.below hb.drew) _ _ gx)) (by exact RV_iff.1 (RV.ext (Agree.below hb.drew) _ _ gy))).mono ?_; rintro e2 w2 ⟨rfl, hb2⟩)
     all_goals have hbb : Below w.heap.size w w2 := hb.drew.trans (hb2.mono (by simp; omega))
     ·have hne : sameV l[j].v l'[j].v = false := by simpa using ‹(!sameV l[j].v l'[j].v) = true›
      go_ret
      exact ⟨by rw [← HF.out]; simp [sameRs_at d l l' j HS.out hlt hlt' (by rw [hne, Bool.and_false])], hbb⟩
     ·have hne : sameV l[j].v l'[j].v = true := by simpa using ‹(!sameV l[j].v l'[j].v) = false›
      go_roundg (gk - 1)
      case rel => exact ⟨j + 1, by omega, by go_num, fun q h h' hq => (by
       by_cases hqj : q = j
       ·subst hqj; rw [HFT.out.1, HFT.out.2, hne]; rfl
       ·exact HS.out q h h' (by omega)), hbb⟩
      case measure => omega
    ·have hne : (l[j].t + d == l'[j].t) = false := by simpa using hT
     have HNE := Lib.hid hne
     clear hne
     go_wp2_with fail
     go_region
     go_wp2_with fail
     go_ret
     exact ⟨by rw [← HF.out]; simp [sameRs_at d l l' j HS.out hlt hlt' (by rw [HNE.out, Bool.and_false, Bool.false_and])], Below.z⟩
   ·have hne : (l[j].f + d == l'[j].f) = false := by simpa using hF
    have HNE := Lib.hid hne
    clear hne
    go_wp2_with fail
    go_region
    go_wp2_with fail
    go_ret
    exact ⟨by rw [← HF.out]; simp [sameRs_at d l l' j HS.out hlt hlt' (by rw [HNE.out, Bool.false_and, Bool.false_and])], Below.z⟩
  ·have hjl : j = l.length := by omega
   go_wp2_with fail
   go_ret
   exact ⟨by rw [← HF.out]; simp [sameRs_all d l l' HLL.out fun q h h' => HS.out q h h' (by omega)], hb⟩
end Go.Proofs.YtojjdneicmbfjaaGreat
namespace Go.Proofs.YtojjdneicmbfjaaGreat
open Go Go.RowKit
/-- an operation that yields is taken; the region's operations as a list -/
theorem tq {P : Program} {md : Region.Mode} {l : List Oper} {Q : Exit → Act → World → Prop} {S : World → Prop} (i : Nat) {oi : Oper} {v : Value} {fuel : Nat} {listed : Array Bool} {a : Act} {w : World} (hi : l[i]? = some oi) (hy : YieldsIf P l.toArray S oi v a)
  (h : wpAnyH P md l.toArray Q S fuel (listed.setIfInBounds i true) (a.put oi.dst v) w) (hS : S w := by assumption) (hs : Region.noSelect l.toArray = true := by kernel_rfl) (hf : Region.free md l.toArray listed i = true := by kernel_rfl) (hr : (Region.ready md l.toArray listed).contains i = true := by kernel_rfl)
  (hQ : ∀ c a w, Q (.panic c) (a.put oi.dst v) w → Q (.panic c) a w := by exact fun _ _ _ h => h) : wpAnyH P md l.toArray Q S (fuel + 1) listed a w := wpAnyH_take (by simpa using hi) hs hf hr hQ hy hS h
theorem At5z {w : World} {b : Nat} {c0 c1 c2 c3 c4 : Value} : At w b 0 [c0, c1, c2, c3, c4] ↔ w.cell? ⟨b, 0, none⟩ = some c0 ∧ w.cell? ⟨b, 1, none⟩ = some c1 ∧ w.cell? ⟨b, 2, none⟩ = some c2 ∧ w.cell? ⟨b, 3, none⟩ = some c3 ∧ w.cell? ⟨b, 4, none⟩ = some c4 := At5
end Go.Proofs.YtojjdneicmbfjaaGreat
