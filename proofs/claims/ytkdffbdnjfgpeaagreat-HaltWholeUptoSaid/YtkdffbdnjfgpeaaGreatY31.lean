/- Part 32. -/
import Derived.Deep.RegionHeld3
import Derived.Test.YtkdffbdnjfgpeaaGreatY25
import Derived.Test.YtkdffbdnjfgpeaaGreatY29
import Derived.Test.YtkdffbdnjfgpeaaGreatYTk
set_option linter.all false
namespace Go.Proofs.YtkdffbdnjfgpeaaGreat
open Go.Lib (hid)
open Go Go.RowKit Go.Proofs.Tryz
theorem tk2 {P:Program} {md:Region.Mode} {ops:Array Oper} {Q:Exit→Act→World→Prop} (i:Nat) {oi:Oper} {v:Value} {fuel:Nat} {listed:Array Bool} {a:Act} {w:World} (hi:ops[i]? =some oi) (hQ:∀c a w,Q (.panic c) (a.put oi.dst v) w→Q (.panic c) a w) (hy:Yields P ops oi v a)
 (h:wpAny P md ops Q fuel (listed.setIfInBounds i true) (a.put oi.dst v) w) (hs:Region.noSelect ops=true:=by kernel_rfl) (hf:Region.free md ops listed i=true:=by kernel_rfl) (hr:(Region.ready md ops listed).contains i=true:=by kernel_rfl):wpAny P md ops Q (fuel+1) listed a w:=wpAny_take hi hs hf hr hQ hy h
theorem Zko (n:Int) (N:Int) (hN:N=n) (w:World):Calls prog 142 #[.int .i64 N] w fun e w'=>e=.returned (VV ⟨1,n,[]⟩ ⟨none,0⟩)∧Below w.heap.size w w':=by
 subst hN;exact Zgq N w
theorem ZvV {p:Prop} (h:p:=by
 refine wr1 11 fun K hK=>?_
 go_simp
 refine hK _ _ ?_
 clear hK K
 refine ty 12 ?_
 refine ty 13 ?_
 refine wpAny_done kr ?_ _
 (go_wp2_with fail;go_ret;exact ⟨rfl,ZtX⟩)):p:=h
set_option maxRecDepth 100000
set_option maxHeartbeats 32000000
theorem ZdX (p:GP) (t:Nat) (hv:Value) (f:Nat) (v:GV) (A A2:Nat→Prop) (m:VA) (w:World) (hq:ZaY p t hv f) (hr:RH w A p (.iface t hv)) (ov:okV v) (hv2:RV w A2 v m.a):
  Calls prog 339 #[.agg #[.iface t hv],VV v m] w fun e w'=>e=.returned (.bool (if Ua v=true then Zh p ⟨1,v.l.length,[]⟩ else false))∧Below w.heap.size w w':=by
 obtain ⟨ma,mc⟩:=m
 obtain ⟨⟨hM,hE⟩,hC⟩:=hq
 obtain ⟨v1,v2,v3,v4⟩:=ZA.1 ov
 have HM:=hid hM
 have HC:=hid hC
 have HR:=hid hr
 have O1:=hid v1
 have ON:=hid (show okV ⟨1,v.l.length,[]⟩ by simp only [okV,okVs];exact ⟨by unfold Yg;omega,by unfold Zv;omega,sm,trivial⟩)
 clear hM hC hr hv2 ov v1 v2 v4
 have hrow:J0 v.k=Ua v:=rfl
 cases hG:Ua v
 ·rw [hG] at hrow
  have HG:=hid hrow
  clear hrow hG
  simp only [Bool.false_eq_true,if_false]
  go_enter func339,ntmps339
  go_wp2_with fail
  refine wp_region_any kr ?_
  try (change wpAny _ _ _ _ _ _ _ (World.drew _))
  refine wr1 0 fun K hK=>?_
  go_simp
  refine hK _ _ ?_
  clear hK K
  refine wr1 1 fun K hK=>?_
  go_simp
  go_wp2_with (go_at_call 337;refine (U5 v ⟨ma,mc⟩ _ O1.out).mono ?_;rw [HG.out];rintro e w1 ⟨rfl,hb1⟩)
  refine ty 2 ?_
  refine to 3 ?_
  refine to 5 ?_
  refine wr [4,6] ?_
  refine rc (fun K hK=>?_) ?_
  ·go_simp
   refine hK _ _ ?_
   clear hK K
   refine to 9 ?_
   refine to 10 ?_
   refine wr1 6 fun K hK=>?_
   go_simp
   refine hK _ _ ?_
   clear hK K
   refine to 7 ?_
   refine wr1 8 fun K hK=>?_
   go_simp
   refine hK _ _ ?_
   clear hK K
   exact ZvV
  refine rc (fun K hK=>?_) ?_
  ·go_simp
   refine hK _ _ ?_
   clear hK K
   refine to 7 ?_
   refine wr [4,8] ?_
   refine rc (fun K hK=>?_) ?_
   ·go_simp
    refine hK _ _ ?_
    clear hK K
    refine to 9 ?_
    refine to 10 ?_
    refine wr1 8 fun K hK=>?_
    go_simp
    refine hK _ _ ?_
    clear hK K
    exact ZvV
   refine rc (fun K hK=>?_) ?_
   ·go_simp
    refine hK _ _ ?_
    clear hK K
    refine wr1 4 fun K hK=>?_
    go_simp
    refine hK _ _ ?_
    clear hK K
    refine to 9 ?_
    refine to 10 ?_
    exact ZvV
   exact AllReady.nil
  exact AllReady.nil
 rw [hG] at hrow
 have HG:=hid hrow
 clear hrow hG
 simp only [if_true]
 generalize hH:Zh p ⟨1,v.l.length,[]⟩=H
 have HH:=hid hH
 clear hH
 go_enter func339,ntmps339
 go_wp2_with fail
 refine ZT (fun W=>Below w.heap.size w W∧W.heap.size=w.heap.size+2∧At W w.heap.size 0 [.iface t hv]∧W.cell? ⟨w.heap.size+1,0,none⟩=some (.int .u8 v.k)∧W.cell? ⟨w.heap.size+1,1,none⟩=some (.int .i64 v.n)∧W.cell? ⟨w.heap.size+1,2,none⟩=some (.slice ma v.l.length mc)) ⟨ZtZ,sm,⟨gs,trivial⟩,gs,gs,gs⟩ ?_
 intro W0 ⟨hb0,hs0,hA,d0,d1,d2⟩
 have c0:=hA.1
 go_region_held3 (fun W=>∀c k,c < w.heap.size+2→W.cell? ⟨c,k,none⟩=W0.cell? ⟨c,k,none⟩) ((intro c k hc;refine Below.cell (B:=w.heap.size+2) (w:=W0) (p:=⟨c,k,none⟩) ?_ hc;(exact ZtZ))) ((first
  | (go_at_call 337;(with_reducible refine (U5 v ⟨ma,mc⟩ _ O1.out).mono ?_);rw [HG.out];rintro e w1 ⟨rfl,hb1⟩;have hz1:=hb1.size;(try simp at hz1))
  | (go_at_call 142;refine (Zko v.l.length _ om _).mono ?_;(rintro e w2 ⟨rfl,hb2⟩;have hz2:=hb2.size;(try simp at hz2)))
  | (refine YK kr (HM.out _ _) ?_)
  | (refine (HC.out _ A (fun _=>True) ⟨1,v.l.length,[]⟩ ⟨none,0⟩ (by exact RH.ext ar _ _ HR.out) ON.out (by simp [RV,RVs])).mono ?_;rw [HH.out];rintro e w3 ⟨rfl,hb3⟩;have hz3:=hb3.size;(try simp at hz3))))
 all_goals go_wp2_with fail
 all_goals go_ret
 all_goals exact ⟨rfl,ZtZ⟩
set_option maxRecDepth 512
theorem ZvT {p:Prop} (h:p:=by
 refine wr1 21 fun K hK=>?_
 go_simp
 refine hK _ _ ?_
 clear hK K
 refine ty 22 ?_
 refine ty 23 ?_
 refine wpAny_done kr ?_ _
 (go_wp2_with fail;go_ret;exact ⟨rfl,ZtX⟩)):p:=h
theorem Zv9 {p:Prop} (h:p:=by
 refine rc (fun K hK=>?_) ?_
 ·go_simp
  refine hK _ _ ?_
  clear hK K
  refine to 17 ?_
  refine wr [12,18] ?_
  refine rc (fun K hK=>?_) ?_
  ·go_simp
   refine hK _ _ ?_
   clear hK K
   refine to 19 ?_
   refine to 20 ?_
   refine wr1 18 fun K hK=>?_
   go_simp
   refine hK _ _ ?_
   clear hK K
   exact ZvT
  refine rc (fun K hK=>?_) ?_
  ·go_simp
   refine hK _ _ ?_
   clear hK K
   refine wr1 12 fun K hK=>?_
   go_simp
   refine hK _ _ ?_
   clear hK K
   refine to 19 ?_
   refine to 20 ?_
   exact ZvT
  exact AllReady.nil
 exact AllReady.nil):p:=h
theorem ZvQ {p:Prop} (h:p:=by
 go_simp
 refine hK _ _ ?_
 clear hK K
 refine to 17 ?_
 refine wr1 18 fun K hK=>?_
 go_simp
 refine hK _ _ ?_
 clear hK K
 exact ZvT):p:=h
theorem Zo1 {p:Prop} (h:p:=by
 refine ty 9 ?_
 refine ty 10 ?_
 refine to 11 ?_
 refine to 13 ?_
 refine to 15 ?_
 refine wr [12,14,16] ?_
 refine rc (fun K hK=>?_) ?_
 ·go_simp
  refine hK _ _ ?_
  clear hK K
  refine to 19 ?_
  refine to 20 ?_
  refine wr [14,16] ?_
  refine rc (fun K hK=>?_) ?_
  ·go_simp
   refine hK _ _ ?_
   clear hK K
   refine wr1 16 fun K hK=>?_
   exact ZvQ
  refine rc (fun K hK=>?_) ?_
  ·go_simp
   refine hK _ _ ?_
   clear hK K
   refine wr1 14 fun K hK=>?_
   exact ZvQ
  exact AllReady.nil
 refine rc (fun K hK=>?_) ?_
 ·go_simp
  refine hK _ _ ?_
  clear hK K
  refine wr [12,16] ?_
  refine rc (fun K hK=>?_) ?_
  ·go_simp
   refine hK _ _ ?_
   clear hK K
   refine to 19 ?_
   refine to 20 ?_
   refine wr1 16 fun K hK=>?_
   exact ZvQ
  exact Zv9
 refine rc (fun K hK=>?_) ?_
 ·go_simp
  refine hK _ _ ?_
  clear hK K
  refine wr [12,14] ?_
  refine rc (fun K hK=>?_) ?_
  ·go_simp
   refine hK _ _ ?_
   clear hK K
   refine to 19 ?_
   refine to 20 ?_
   refine wr1 14 fun K hK=>?_
   exact ZvQ
  exact Zv9
 exact AllReady.nil):p:=h
set_option maxRecDepth 100000
theorem Ze6 (p:GP) (n:Int) (t:Nat) (hv:Value) (f:Nat) (v:GV) (A A2:Nat→Prop) (m:VA) (w:World) (hn:0≤n∧n≤64) (hq:ZaY p t hv f) (hr:RH w A p (.iface t hv)) (ov:okV v) (hv2:RV w A2 v m.a):
  Calls prog 336 #[.agg #[.int .i64 n,.iface t hv],VV v m] w fun e w'=>e=.returned (.bool (if Ua v=true then (match v.l[n.toNat]? with|some x=>Zh p x|none=>false) else false))∧Below w.heap.size w w':=by
 obtain ⟨ma,mc⟩:=m
 obtain ⟨⟨hM,hE⟩,hC⟩:=hq
 obtain ⟨v1,v2,v3,v4⟩:=ZA.1 ov
 obtain ⟨n0,n1⟩:=hn
 have HM:=hid hM
 have HC:=hid hC
 have HR:=hid hr
 have HL:=hid (Zl.1 hv2)
 have OL:=hid v4
 have O1:=hid v1
 clear hM hC hr hv2 ov v1 v2 v4
 have hrow:J0 v.k=Ua v:=rfl
 cases hG:Ua v
 ·rw [hG] at hrow
  have HG:=hid hrow
  clear hrow hG
  simp only [Bool.false_eq_true,if_false]
  go_enter func336,ntmps336
  go_wp2_with fail
  refine wp_region_any kr ?_
  try (change wpAny _ _ _ _ _ _ _ (World.drew _))
  refine wr1 0 fun K hK=>?_
  go_simp
  refine hK _ _ ?_
  clear hK K
  refine wr1 1 fun K hK=>?_
  go_simp
  go_wp2_with (go_at_call 337;refine (U5 v ⟨ma,mc⟩ _ O1.out).mono ?_;rw [HG.out];rintro e w1 ⟨rfl,hb1⟩)
  refine ty 2 ?_
  refine to 3 ?_
  refine to 5 ?_
  refine wr [4,6] ?_
  refine rc (fun K hK=>?_) ?_
  ·go_simp
   refine hK _ _ ?_
   clear hK K
   refine wr1 6 fun K hK=>?_
   go_simp
   refine hK _ _ ?_
   clear hK K
   refine to 7 ?_
   refine to 8 ?_
   exact Zo1
  refine rc (fun K hK=>?_) ?_
  ·go_simp
   refine hK _ _ ?_
   clear hK K
   refine to 7 ?_
   refine wr1 4 fun K hK=>?_
   go_simp
   refine hK _ _ ?_
   clear hK K
   refine to 8 ?_
   exact Zo1
  exact AllReady.nil
 rw [hG] at hrow
 have HG:=hid hrow
 clear hrow hG
 simp only [if_true]
 obtain ⟨k,hk⟩:∃k:Nat,n=(k:Int):=⟨n.toNat,om⟩
 subst hk
 simp only [Int.toNat_natCast]
 by_cases hlt:k < v.l.length
 case neg=>
  rw [List.getElem?_eq_none om]
  have hlt':¬(k:Int) < (v.l.length:Int):=om
  go_enter func336,ntmps336
  go_wp2_with fail
  refine wp_region_any kr ?_
  try (change wpAny _ _ _ _ _ _ _ (World.drew _))
  refine wr1 0 fun K hK=>?_
  go_simp
  refine hK _ _ ?_
  clear hK K
  refine wr1 1 fun K hK=>?_
  go_simp
  go_wp2_with (go_at_call 337;refine (U5 v ⟨ma,mc⟩ _ O1.out).mono ?_;rw [HG.out];rintro e w1 ⟨rfl,hb1⟩;have hz1:=hb1.size;simp at hz1;have r0:w1.cell? ⟨w.heap.size,0,none⟩=some (.int .i64 k):=(hb1.cell so).trans gs;have r2:w1.cell? ⟨w.heap.size+1,2,none⟩=some (.slice ma v.l.length mc):=(hb1.cell so).trans gs)
  refine ty 2 ?_
  refine ty 3 ?_
  refine ty 5 ?_
  refine wr [4,6] ?_
  refine rc (fun K hK=>?_) ?_
  ·go_simp
   refine hK _ _ ?_
   clear hK K
   refine wr1 6 fun K hK=>?_
   go_simp
   refine hK _ _ ?_
   clear hK K
   refine ty 7 ?_
   refine ty 8 ?_
   exact Zo1
  refine rc (fun K hK=>?_) ?_
  ·go_simp
   refine hK _ _ ?_
   clear hK K
   refine ty 7 ?_
   refine wr1 4 fun K hK=>?_
   go_simp
   refine hK _ _ ?_
   clear hK K
   refine ty 8 ?_
   exact Zo1
  exact AllReady.nil
 rw [List.getElem?_eq_getElem hlt]
 simp only []
 obtain ⟨b0,o0,⟨mja,mjc⟩,rfl,hA,hbs,g0,gx⟩:=HL.out.get k hlt
 obtain ⟨k0,k1,k2⟩:=At3.1 g0
 have GX:=hid gx
 have ojk:=OL.out.get k hlt
 have OJ:=hid ojk
 have hltI:(k:Int) < (v.l.length:Int):=om
 clear gx g0 ojk
 generalize hH:Zh p v.l[k]=H
 have HH:=hid hH
 clear hH
 go_enter func336,ntmps336
 go_wp2_with fail
 refine ZT (fun W=>Below w.heap.size w W∧W.heap.size=w.heap.size+2∧At W w.heap.size 0 [.int .i64 k,.iface t hv]∧W.cell? ⟨w.heap.size+1,0,none⟩=some (.int .u8 v.k)∧W.cell? ⟨w.heap.size+1,1,none⟩=some (.int .i64 v.n)∧W.cell? ⟨w.heap.size+1,2,none⟩=some (.slice (some ⟨b0,o0,none⟩) v.l.length mc)) ⟨ZtZ,sm,⟨gs,gs,trivial⟩,gs,gs,gs⟩ ?_
 intro W0 ⟨hb0,hs0,hA,d0,d1,d2⟩
 have c0:W0.cell? ⟨w.heap.size,0,none⟩=some (.int .i64 k):=hA.1
 have c1:W0.cell? ⟨w.heap.size,1,none⟩=some (.iface t hv):=hA.2.1
 have hbs0:b0 < W0.heap.size:=om
 have hbs2:b0 < w.heap.size+2:=om
 have s0:=(hb0.cell (p:=⟨b0,o0+k*3,none⟩) hbs).trans k0
 have s1:=(hb0.cell (p:=⟨b0,o0+k*3+1,none⟩) hbs).trans k1
 have s2:=(hb0.cell (p:=⟨b0,o0+k*3+2,none⟩) hbs).trans k2
 go_region_held3 (fun W=>∀c k,c < w.heap.size+2→W.cell? ⟨c,k,none⟩=W0.cell? ⟨c,k,none⟩) ((intro c k hc;refine Below.cell (B:=w.heap.size+2) (w:=W0) (p:=⟨c,k,none⟩) ?_ hc;(exact ZtZ))) ((first
  | (go_at_call 337;(with_reducible refine (U5 v ⟨some ⟨b0,o0,none⟩,mc⟩ _ O1.out).mono ?_);rw [HG.out];rintro e w1 ⟨rfl,hb1⟩;have hz1:=hb1.size;(try simp at hz1))
  | (refine YK kr (HM.out _ _) ?_)
  | (refine (HC.out _ A A2 v.l[k] ⟨mja,mjc⟩ (by exact RH.ext ar _ _ HR.out) OJ.out (by exact Zt5 ar _ _ GX.out)).mono ?_;rw [HH.out];rintro e w3 ⟨rfl,hb3⟩;have hz3:=hb3.size;(try simp at hz3))))
 all_goals go_wp2_with fail
 all_goals go_ret
 all_goals exact ⟨rfl,ZtZ⟩
set_option maxRecDepth 512
theorem X2 (args:Array Value) (w:World):(callFunc 327 args).run prog w=.ok (.enter 327 args) w∧(callFunc 334 args).run prog w=.ok (.enter 334 args) w ∧
  (callFunc 335 args).run prog w=.ok (.enter 335 args) w∧(callFunc 336 args).run prog w=.ok (.enter 336 args) w ∧
  (callFunc 338 args).run prog w=.ok (.enter 338 args) w∧(callFunc 339 args).run prog w=.ok (.enter 339 args) w:=
 ⟨kr,kr,kr,kr,kr,kr⟩
theorem X5 {t t':Nat} {v v':Value} (h:Value.iface t v=Value.iface t' v'):t=t'∧v=v':=by simpa using h
theorem Ze4 (l:List GP) (v:GV) (h:l.length=1):∀h0:0 < l.length,Xz l v=Zh l[0] v:=by
 intro h0
 cases l with
 | nil=>simp at h
 | cons q l=>simp only [Xz,List.getElem_cons_zero]
theorem Ze7 (N:Nat):∀(p:GP),Zm p≤N→VT p→okP p→ZeT p:=by
 induction N with
 | zero=>intro p;have:=ZS p;intros;omega
 | succ N ih=>
  intro p hN hg ox w A x hx
  obtain ⟨hgn,hga⟩:=Zbk.1 hg
  obtain ⟨⟨k1,k2⟩,k3,k4,k5,k6⟩:=ZbB hgn
  obtain ⟨_,ov,_,_,oa⟩:=Y3.1 ox
  have hse:=Wk p
  have harg:∀j (h:j < p.a.length),ZeT p.a[j]:=fun j h=>ih _ (by have:=Xq p.a j h;omega) (hga.get j h) (oa.get j h)
  have h1:∀v,p.a.length=1→∀h:0 < p.a.length,Xz p.a v=Zh p.a[0] v:=fun v hl h=>Ze4 p.a v hl h
  rcases (by omega:p.k=1∨p.k=2∨p.k=3∨p.k=4∨p.k=5∨p.k=6∨p.k=7∨p.k=8∨p.k=9∨p.k=10∨p.k=11) with hk|hk|hk|hk|hk|hk|hk|hk|hk|hk|hk
  ·have e:=(ZkM hk).1 hx
   refine ⟨_,_,_,e,⟨Qs _,(ZjU (.bool true)).2⟩,fun w' A' A2 v m hr hov hv=>?_⟩
   rw [Xf,if_pos hk]
   exact Zbl true v m w'
  ·have e:=(ZkN hk).1 hx
   refine ⟨_,_,_,e,⟨Qs _,(ZjU (.bool true)).2⟩,fun w' A' A2 v m hr hov hv=>?_⟩
   rw [Xf,if_neg om,if_pos hk]
   exact Zbl false v m w'
  ·obtain ⟨mu,e,_⟩:=(Zj1 hk).1 hx
   refine ⟨_,_,_,e,⟨Zcz _,fun a b=>(X2 a b).1⟩,fun w' A' A2 v m hr hov hv=>?_⟩
   obtain ⟨mu',e',hu⟩:=(Zj1 hk).1 hr
   have e2:=(X5 e').2
   rw [e2]
   rw [Xf,if_neg om,if_neg om,if_pos hk]
   exact Zbm p.v v false A2 A' mu' m w' ov hov hu hv
  ·obtain ⟨mu,e,_⟩:=(Zj2 hk).1 hx
   refine ⟨_,_,_,e,⟨Zcz _,fun a b=>(X2 a b).1⟩,fun w' A' A2 v m hr hov hv=>?_⟩
   obtain ⟨mu',e',hu⟩:=(Zj2 hk).1 hr
   have e2:=(X5 e').2
   rw [e2]
   rw [Xf,if_neg om,if_neg om,if_neg om,if_pos hk]
   exact Zbm p.v v true A2 A' mu' m w' ov hov hu hv
  ·have hl:=k3 (.inl hk)
   obtain ⟨y,e,hy⟩:=(Zj3 hk).1 hx
   refine ⟨_,_,_,e,⟨Zih _,fun a b=>(X2 a b).2.1⟩,fun w' A' A2 v m hr hov hv=>?_⟩
   obtain ⟨y',e',hy'⟩:=(Zj3 hk).1 hr
   have e2:=(X5 e').2
   rw [e2]
   have hr0:=(WS hl).1 hy'
   obtain ⟨t,hv0,f,rfl,hC⟩:=harg 0 om _ _ _ hr0
   rw [Xf,if_neg om,if_neg om,if_neg om,if_neg om,if_pos hk,h1 v hl om]
   exact Ze5 t hv0 f p.a[0] v A' A2 m w' hC hr0 hov hv
  ·obtain ⟨a,c,e,hy⟩:=(Zj4 hk).1 hx
   refine ⟨_,_,_,e,⟨Jj _,fun a b=>(X2 a b).2.2.1⟩,fun w' A' A2 v m hr hov hv=>?_⟩
   obtain ⟨a',c',e',hy'⟩:=(Zj4 hk).1 hr
   have e2:=(X5 e').2
   rw [e2]
   rw [Xf,if_neg om,if_neg om,if_neg om,if_neg om,if_neg om,if_pos hk]
   exact Zbn p.a false a' c' v A' A2 m w' (k5 (.inl hk)) harg hy' hov hv
  ·obtain ⟨a,c,e,hy⟩:=(Zj5 hk).1 hx
   refine ⟨_,_,_,e,⟨Jj _,fun a b=>(X2 a b).2.2.1⟩,fun w' A' A2 v m hr hov hv=>?_⟩
   obtain ⟨a',c',e',hy'⟩:=(Zj5 hk).1 hr
   have e2:=(X5 e').2
   rw [e2]
   rw [Xf,if_neg om,if_neg om,if_neg om,if_neg om,if_neg om,if_neg om,if_pos hk]
   exact Zbn p.a true a' c' v A' A2 m w' (k5 (.inr hk)) harg hy' hov hv
  ·have hl:=k3 (.inr om)
   obtain ⟨y,e,hy⟩:=(Zj6 hk).1 hx
   refine ⟨_,_,_,e,⟨Zjn _,fun a b=>(X2 a b).2.2.2.1⟩,fun w' A' A2 v m hr hov hv=>?_⟩
   obtain ⟨y',e',hy'⟩:=(Zj6 hk).1 hr
   have e2:=(X5 e').2
   rw [e2]
   have hr0:=(WS hl).1 hy'
   obtain ⟨t,hv0,f,rfl,hC⟩:=harg 0 om _ _ _ hr0
   rw [Xf,if_neg om,if_neg om,if_neg om,if_neg om,if_neg om,if_neg om,if_neg om,if_pos hk]
   have h9:=Ze6 p.a[0] p.n t hv0 f v A' A2 m w' (k4 hk) hC hr0 hov hv
   cases hx:v.l[p.n.toNat]? with
   | none=>rw [hx] at h9;exact h9
   | some x=>rw [hx] at h9;simp only [h1 x hl om];exact h9
  ·have hl:=k3 (.inr om)
   obtain ⟨y,e,hy⟩:=(Zj7 hk).1 hx
   refine ⟨_,_,_,e,⟨Zbz _,fun a b=>(X2 a b).2.2.2.2.1⟩,fun w' A' A2 v m hr hov hv=>?_⟩
   obtain ⟨y',e',hy'⟩:=(Zj7 hk).1 hr
   have e2:=(X5 e').2
   rw [e2]
   have hr0:=(WS hl).1 hy'
   obtain ⟨t,hv0,f,rfl,hC⟩:=harg 0 om _ _ _ hr0
   rw [Xf,if_neg om,if_neg om,if_neg om,if_neg om,if_neg om,if_neg om,if_neg om,if_neg om,if_pos hk]
   have h9:=Zbo p.a[0] t hv0 f false v A' A2 m w' hC hr0 hov hv
   rw [Zbs] at h9
   simp only [fun x=>h1 x hl om]
   exact h9
  ·have hl:=k3 (.inr om)
   obtain ⟨y,e,hy⟩:=(ZhG hk).1 hx
   refine ⟨_,_,_,e,⟨Zbz _,fun a b=>(X2 a b).2.2.2.2.1⟩,fun w' A' A2 v m hr hov hv=>?_⟩
   obtain ⟨y',e',hy'⟩:=(ZhG hk).1 hr
   have e2:=(X5 e').2
   rw [e2]
   have hr0:=(WS hl).1 hy'
   obtain ⟨t,hv0,f,rfl,hC⟩:=harg 0 om _ _ _ hr0
   rw [Xf,if_neg om,if_neg om,if_neg om,if_neg om,if_neg om,if_neg om,if_neg om,if_neg om,if_neg om,if_pos hk]
   have h9:=Zbo p.a[0] t hv0 f true v A' A2 m w' hC hr0 hov hv
   rw [Zbt] at h9
   simp only [fun x=>h1 x hl om]
   exact h9
  have hl:=k3 (.inr om)
  obtain ⟨y,e,hy⟩:=(ZhH hk).1 hx
  refine ⟨_,_,_,e,⟨ZgU _,fun a b=>(X2 a b).2.2.2.2.2⟩,fun w' A' A2 v m hr hov hv=>?_⟩
  obtain ⟨y',e',hy'⟩:=(ZhH hk).1 hr
  have e2:=(X5 e').2
  rw [e2]
  have hr0:=(WS hl).1 hy'
  obtain ⟨t,hv0,f,rfl,hC⟩:=harg 0 om _ _ _ hr0
  rw [Xf,if_neg om,if_neg om,if_neg om,if_neg om,if_neg om,if_neg om,if_neg om,if_neg om,if_neg om,if_neg om,h1 _ hl om]
  exact ZdX p.a[0] t hv0 f v A' A2 m w' hC hr0 hov hv
theorem Zv7 {p:Prop} (h:p:=by
 refine wr1 6 fun K hK=>?_
 go_simp
 go_wp2_with (first|(go_at_call 269;refine (Ve p _ A ⟨mpa,mpc,mpb,mpd⟩ OP.out hs (by exact Zub az _ _ HR.out)).mono ?_;rw [HM.out];rintro e w1 ⟨rfl,hb1⟩;have hz1:=hb1.size;simp at hz1;have p0:w1.cell? ⟨w.heap.size,0,none⟩=some (.int .u8 p.k):=(hb1.cell so).trans gs;have p1:w1.cell? ⟨w.heap.size,1,none⟩=some (.int .u8 p.v.k):=(hb1.cell so).trans gs;have p2:w1.cell? ⟨w.heap.size,2,none⟩=some (.int .i64 p.v.n):=(hb1.cell so).trans gs;have p3:w1.cell? ⟨w.heap.size,3,none⟩=some (.slice mpa p.v.l.length mpc):=(hb1.cell so).trans gs;have p4:w1.cell? ⟨w.heap.size,4,none⟩=some (.int .i64 p.n):=(hb1.cell so).trans gs;have p5:w1.cell? ⟨w.heap.size,5,none⟩=some (.slice mpb p.a.length mpd):=(hb1.cell so).trans gs;have q0:w1.cell? ⟨w.heap.size+1,0,none⟩=some (.int .u8 v.k):=(hb1.cell so).trans gs;have q1:w1.cell? ⟨w.heap.size+1,1,none⟩=some (.int .i64 v.n):=(hb1.cell so).trans gs;have q2:w1.cell? ⟨w.heap.size+1,2,none⟩=some (.slice ma v.l.length mc):=(hb1.cell so).trans gs;have hB1:Below w.heap.size w w1:=ZtX)|(go_at_call 270;refine (KA (Zm p) p _ A ⟨mpa,mpc,mpb,mpd⟩ (Nat.le_refl _) HG.out OP.out (by exact Zub az _ _ HR.out)).mono ?_;(rintro e w2 ⟨hb2,h,rfl,hrh⟩;obtain ⟨t,hv,f,rfl,⟨⟨hMe,hE⟩,hC⟩⟩:=HH.out _ _ _ hrh);(have HME:=hid hMe;have HC:=hid hC;have HRH:=hid hrh;clear hMe hC hrh;have hz2:=hb2.size;(try simp at hz2);have hB2:Below w.heap.size w w2:=ZtX;have q20:w2.cell? ⟨w.heap.size+1,0,none⟩=some (.int .u8 v.k):=(hb2.cell so).trans gs;have q21:w2.cell? ⟨w.heap.size+1,1,none⟩=some (.int .i64 v.n):=(hb2.cell so).trans gs;have q22:w2.cell? ⟨w.heap.size+1,2,none⟩=some (.slice ma v.l.length mc):=(hb2.cell so).trans gs))|(refine YK kr (HME.out _ _) ?_)|(refine (HC.out _ _ A2 v ⟨ma,mc⟩ (by exact HRH.out) OV.out (by exact Zt5 az _ _ HV.out)).mono ?_;rw [HF.out];rintro e w3 ⟨rfl,hb3⟩))
 refine ty 7 ?_
 refine ty 8 ?_
 refine wpAny_done kr ?_ _
 (go_wp2_with fail;go_ret;exact ⟨rfl,ZtX⟩)):p:=h
theorem Zv8 {p:Prop} (h:p:=by
 go_simp
 refine hK _ _ ?_
 clear hK K
 refine wr1 4 fun K hK=>?_
 go_simp
 go_wp2_with (first|(go_at_call 270;refine (KA (Zm p) p _ A ⟨mpa,mpc,mpb,mpd⟩ (Nat.le_refl _) HG.out OP.out (by exact Zub az _ _ HR.out)).mono ?_;(rintro e w2 ⟨hb2,h,rfl,hrh⟩;obtain ⟨t,hv,f,rfl,⟨⟨hMe,hE⟩,hC⟩⟩:=HH.out _ _ _ hrh);(have HME:=hid hMe;have HC:=hid hC;have HRH:=hid hrh;clear hMe hC hrh;have hz2:=hb2.size;(try simp at hz2);have hB2:Below w.heap.size w w2:=ZtX;have q20:w2.cell? ⟨w.heap.size+1,0,none⟩=some (.int .u8 v.k):=(hb2.cell so).trans gs;have q21:w2.cell? ⟨w.heap.size+1,1,none⟩=some (.int .i64 v.n):=(hb2.cell so).trans gs;have q22:w2.cell? ⟨w.heap.size+1,2,none⟩=some (.slice ma v.l.length mc):=(hb2.cell so).trans gs))|(refine YK kr (HME.out _ _) ?_)|(refine (HC.out _ _ A2 v ⟨ma,mc⟩ (by exact HRH.out) OV.out (by exact Zt5 az _ _ HV.out)).mono ?_;rw [HF.out];rintro e w3 ⟨rfl,hb3⟩))
 exact Zv7):p:=h
theorem ZvU {p:Prop} (h:p:=by
 go_simp
 refine hK _ _ ?_
 clear hK K
 refine wr1 6 fun K hK=>?_
 go_simp
 refine hK _ _ ?_
 clear hK K
 refine ty 7 ?_
 refine ty 8 ?_
 refine wpAny_done kr ?_ _
 (go_wp2_with fail;go_ret;exact ⟨rfl,ZtX⟩)):p:=h
set_option maxRecDepth 100000
theorem ZgC (p:GP) (v:GV) (A A2:Nat→Prop) (mp:PA) (m:VA) (w:World) (ox:okP p) (hs:Zm p≤1099511627776) (hr:RP w A p mp) (ov:okV v) (hv2:RV w A2 v m.a):
  Calls prog 231 #[PV p mp,VV v m] w fun e w'=>e=.returned (.bool (Xo p&&Zh p v))∧Below w.heap.size w w':=by
 obtain ⟨mpa,mpc,mpb,mpd⟩:=mp
 obtain ⟨ma,mc⟩:=m
 have HR:=hid hr
 have HV:=hid hv2
 have OP:=hid ox
 have OV:=hid ov
 clear hr hv2 ox ov
 cases hM:Xo p
 ·have HM:=hid hM
  clear hM
  simp only [Bool.false_and]
  go_enter func231,ntmps231
  go_wp2_with fail
  refine wp_region_any kr ?_
  try (change wpAny _ _ _ _ _ _ _ (World.drew _))
  refine wr1 0 fun K hK=>?_
  go_simp
  refine hK _ _ ?_
  clear hK K
  refine wr1 1 fun K hK=>?_
  go_simp
  go_wp2_with (go_at_call 269;refine (Ve p _ A ⟨mpa,mpc,mpb,mpd⟩ OP.out hs (by exact Zub az _ _ HR.out)).mono ?_;rw [HM.out];rintro e w1 ⟨rfl,hb1⟩)
  refine ty 2 ?_
  refine wr [3,5] ?_
  refine rc (fun K hK=>?_) ?_
  ·go_simp
   refine hK _ _ ?_
   clear hK K
   refine wr [4,5] ?_
   refine rc (fun K hK=>?_) ?_
   ·go_simp
    refine hK _ _ ?_
    clear hK K
    refine wr1 5 fun K hK=>?_
    exact ZvU
   refine rc (fun K hK=>?_) ?_
   ·go_simp
    refine hK _ _ ?_
    clear hK K
    refine wr1 4 fun K hK=>?_
    exact ZvU
   exact AllReady.nil
  refine rc (fun K hK=>?_) ?_
  ·go_simp
   refine hK _ _ ?_
   clear hK K
   refine wr1 3 fun K hK=>?_
   go_simp
   refine hK _ _ ?_
   clear hK K
   refine wr1 4 fun K hK=>?_
   exact ZvU
  exact AllReady.nil
 have HG:=hid (Je hM)
 have HM:=hid hM
 have HH:=hid (Ze7 (Zm p) p (Nat.le_refl _) HG.out OP.out)
 clear hM
 simp only [Bool.true_and]
 generalize hF:Zh p v=F
 have HF:=hid hF
 clear hF
 go_enter func231,ntmps231
 go_wp2_with fail
 refine wp_region_any kr ?_
 try (change wpAny _ _ _ _ _ _ _ (World.drew _))
 refine wr1 0 fun K hK=>?_
 go_simp
 refine hK _ _ ?_
 clear hK K
 refine wr1 1 fun K hK=>?_
 go_simp
 go_wp2_with (first|(go_at_call 269;refine (Ve p _ A ⟨mpa,mpc,mpb,mpd⟩ OP.out hs (by exact Zub az _ _ HR.out)).mono ?_;rw [HM.out];rintro e w1 ⟨rfl,hb1⟩;have hz1:=hb1.size;simp at hz1;have p0:w1.cell? ⟨w.heap.size,0,none⟩=some (.int .u8 p.k):=(hb1.cell so).trans gs;have p1:w1.cell? ⟨w.heap.size,1,none⟩=some (.int .u8 p.v.k):=(hb1.cell so).trans gs;have p2:w1.cell? ⟨w.heap.size,2,none⟩=some (.int .i64 p.v.n):=(hb1.cell so).trans gs;have p3:w1.cell? ⟨w.heap.size,3,none⟩=some (.slice mpa p.v.l.length mpc):=(hb1.cell so).trans gs;have p4:w1.cell? ⟨w.heap.size,4,none⟩=some (.int .i64 p.n):=(hb1.cell so).trans gs;have p5:w1.cell? ⟨w.heap.size,5,none⟩=some (.slice mpb p.a.length mpd):=(hb1.cell so).trans gs;have q0:w1.cell? ⟨w.heap.size+1,0,none⟩=some (.int .u8 v.k):=(hb1.cell so).trans gs;have q1:w1.cell? ⟨w.heap.size+1,1,none⟩=some (.int .i64 v.n):=(hb1.cell so).trans gs;have q2:w1.cell? ⟨w.heap.size+1,2,none⟩=some (.slice ma v.l.length mc):=(hb1.cell so).trans gs;have hB1:Below w.heap.size w w1:=ZtX)|(refine YK kr (HME.out _ _) ?_)|(refine (HC.out _ _ A2 v ⟨ma,mc⟩ (by exact HRH.out) OV.out (by exact Zt5 az _ _ HV.out)).mono ?_;rw [HF.out];rintro e w3 ⟨rfl,hb3⟩))
 refine ty 2 ?_
 refine wr [3,5] ?_
 refine rc (fun K hK=>?_) ?_
 ·go_simp
  refine hK _ _ ?_
  clear hK K
  refine wr [4,5] ?_
  refine rc (fun K hK=>?_) ?_
  ·go_simp
   go_wp2_with (first|(go_at_call 270;refine (KA (Zm p) p _ A ⟨mpa,mpc,mpb,mpd⟩ (Nat.le_refl _) HG.out OP.out (by exact Zub az _ _ HR.out)).mono ?_;(rintro e w2 ⟨hb2,h,rfl,hrh⟩;obtain ⟨t,hv,f,rfl,⟨⟨hMe,hE⟩,hC⟩⟩:=HH.out _ _ _ hrh);(have HME:=hid hMe;have HC:=hid hC;have HRH:=hid hrh;clear hMe hC hrh;have hz2:=hb2.size;(try simp at hz2);have hB2:Below w.heap.size w w2:=ZtX;have q20:w2.cell? ⟨w.heap.size+1,0,none⟩=some (.int .u8 v.k):=(hb2.cell so).trans gs;have q21:w2.cell? ⟨w.heap.size+1,1,none⟩=some (.int .i64 v.n):=(hb2.cell so).trans gs;have q22:w2.cell? ⟨w.heap.size+1,2,none⟩=some (.slice ma v.l.length mc):=(hb2.cell so).trans gs))|(refine YK kr (HME.out _ _) ?_)|(refine (HC.out _ _ A2 v ⟨ma,mc⟩ (by exact HRH.out) OV.out (by exact Zt5 az _ _ HV.out)).mono ?_;rw [HF.out];rintro e w3 ⟨rfl,hb3⟩))
   refine wr1 5 fun K hK=>?_
   go_simp
   refine hK _ _ ?_
   clear hK K
   exact Zv7
  refine rc (fun K hK=>?_) ?_
  ·exact Zv8
  exact AllReady.nil
 refine rc (fun K hK=>?_) ?_
 ·go_simp
  refine hK _ _ ?_
  clear hK K
  refine wr1 3 fun K hK=>?_
  exact Zv8
 exact AllReady.nil
end Go.Proofs.YtkdffbdnjfgpeaaGreat
