/- What the proofs of the Trial statements need: part 25. -/
import Derived.Deep.RegionWith
import Derived.RegionTactic
import Derived.Test.YtclphfojkggcpaaGreatZ6
import Derived.Test.YtclphfojkggcpaaGreatZ10
import Derived.Test.YtclphfojkggcpaaGreatZ13
import Derived.Test.YtclphfojkggcpaaGreatZ15
set_option linter.unusedVariables false
set_option linter.unusedSimpArgs false
namespace Go.Proofs.YtclphfojkggcpaaGreat
open Go.Lib (hid)
open Go Go.RowKit
theorem holds1_any (b:Bool) (v:GV) (m:VA) (w:World):Calls Tryz.prog 205 #[.bool b,VV v m] w fun e w'=>e=.returned (.bool b)∧Below w.heap.size w w':=by
 go_enter Tryz.func205,Tryz.ntmps205
 go_wp2_with fail
 go_ret
 exact ⟨rfl,Below.z⟩
set_option maxRecDepth 100000 in
theorem holds3_any (u v:GV) (b:Bool) (A A':Nat→Prop) (mu m:VA) (w:World) (ou:okV u) (ov:okV v) (hu:RV w A' u mu.a) (hv:RV w A v m.a):
  Calls Tryz.prog 206 #[.agg #[.int .u8 u.k,.int .i64 u.n,.slice mu.a u.l.length mu.c,.bool b],VV v m] w fun e w'=>e=.returned (.bool (if b=true then decide (cmpV v u < 0) else sameV v u))∧Below w.heap.size w w':=by
 obtain ⟨mua,muc⟩:=mu
 obtain ⟨ma,mc⟩:=m
 have HU:=hid (RV_iff.1 hu)
 have HV:=hid (RV_iff.1 hv)
 have OU:=hid ou
 have OV:=hid ov
 clear hu hv ou ov
 cases b
 ·simp only [Bool.false_eq_true,if_false]
  go_enter Tryz.func206,Tryz.ntmps206
  go_wp2_with (go_at_call 208;refine (same_any _ v u _ A A' ⟨ma,mc⟩ ⟨mua,muc⟩ (Nat.le_refl _) OV.out OU.out (by exact RVs.ext (Agree.below Below.z) _ _ HV.out) (by exact RVs.ext (Agree.below Below.z) _ _ HU.out)).mono ?_;rintro e w1 ⟨rfl,hb⟩;have hB1:=hb;clear hb;obtain ⟨hc1,hf1⟩:=bcells hB1)
  go_ret
  exact ⟨rfl,Below.z⟩
 ·simp only [if_true]
  go_enter Tryz.func206,Tryz.ntmps206
  go_wp2_with (go_at_call 207;refine (cmp_any _ v u _ A A' ⟨ma,mc⟩ ⟨mua,muc⟩ (Nat.le_refl _) OV.out OU.out (by exact RVs.ext (Agree.below Below.z) _ _ HV.out) (by exact RVs.ext (Agree.below Below.z) _ _ HU.out)).mono ?_;rintro e w1 ⟨rfl,hb⟩;have hB1:=hb;clear hb;obtain ⟨hc1,hf1⟩:=bcells hB1)
  go_ret
  exact ⟨rfl,Below.z⟩
noncomputable def holdsStr:String:=(((Tryz.prog.info? 105).bind (fun i=>i.methods[0]?)).map (fun m=>m.name)).getD (String.ofList [])
def Meth (t:Nat) (hv:Value) (f:Nat):Prop:=∀(n:Nat) (w:World),(method (n+1) t hv holdsStr).run Tryz.prog w=.ok (f,hv) w
theorem upon_meth {P:Program} {o:Oper} {a:Act} {K:Act→World→Prop} {Q:Exit→Act→World→Prop} {n t:Nat} {hv:Value} {s S:String} {f:Nat} {w:World} {F:(FuncId×Value)→World→Result Next} (hs:s=S) (hM:(method (n+1) t hv S).run P w=.ok (f,hv) w)
  (hK:Oper.upon P o a K Q (F (f,hv) w)):Oper.upon P o a K Q (((method (n+1) t hv s).run P w).andThen F):=by
 subst hs;rw [hM];exact hK
theorem meth_always (hv:Value):Meth 105 hv 205:=fun n w=>by kernel_rfl
theorem meth_than (hv:Value):Meth 107 hv 206:=fun n w=>by kernel_rfl
theorem meth_not (hv:Value):Meth 109 hv 214:=fun n w=>by kernel_rfl
theorem meth_several (hv:Value):Meth 111 hv 215:=fun n w=>by kernel_rfl
theorem meth_at (hv:Value):Meth 113 hv 216:=fun n w=>by kernel_rfl
theorem meth_items (hv:Value):Meth 115 hv 218:=fun n w=>by kernel_rfl
theorem meth_many (hv:Value):Meth 116 hv 219:=fun n w=>by kernel_rfl
def HoldsC (p:GP) (t:Nat) (hv:Value) (f:Nat):Prop:=(Meth t hv f∧∀(args:Array Value) (w:World),(callFunc f args).run Tryz.prog w=.ok (.enter f args) w)∧∀(w:World) (A A2:Nat→Prop) (v:GV) (m:VA),RH w A p (.iface t hv)→okV v→RV w A2 v m.a →
 Calls Tryz.prog f #[hv,VV v m] w fun e w'=>e=.returned (.bool (holdsP p v))∧Below w.heap.size w w'
theorem holdsP_eq (p:GP) (v:GV):holdsP p v =
  (if p.k=1 then true else if p.k=2 then false
  else if p.k=3 then sameV v p.v else if p.k=4 then decide (cmpV v p.v < 0)
  else if p.k=5 then !(holds1 p.a v)
  else if p.k=6 then holdsQ false p.a v else if p.k=7 then holdsQ true p.a v
  else if p.k=8 then (if rowG v=true then (match v.l[p.n.toNat]? with|some x=>holds1 p.a x|none=>false) else false)
  else if p.k=9 then (if rowG v=true then v.l.all (fun x=>holds1 p.a x) else false)
  else if p.k=10 then (if rowG v=true then v.l.any (fun x=>holds1 p.a x) else false)
  else (if rowG v=true then holds1 p.a ⟨1,v.l.length,[]⟩ else false)):=by cases p;simp only [holdsP];rfl
set_option maxRecDepth 100000 in
theorem holds5_any (t:Nat) (hv:Value) (f:Nat) (q:GP) (v:GV) (A A2:Nat→Prop) (m:VA) (w:World) (hq:HoldsC q t hv f) (hr:RH w A q (.iface t hv)) (ov:okV v) (hv2:RV w A2 v m.a):
  Calls Tryz.prog 214 #[.agg #[.iface t hv],VV v m] w fun e w'=>e=.returned (.bool (!holdsP q v))∧Below w.heap.size w w':=by
 obtain ⟨ma,mc⟩:=m
 obtain ⟨⟨hM,hE⟩,hC⟩:=hq
 have HM:=hid hM
 have HC:=hid hC
 have HR:=hid hr
 have HV:=hid hv2
 have OV:=hid ov
 clear hM hC hr hv2 ov
 go_enter Tryz.func214,Tryz.ntmps214
 go_wp2_with (first
  | (refine upon_meth (by kernel_rfl) (HM.out _ _) ?_)
  | (refine (HC.out _ A A2 v ⟨ma,mc⟩ (by exact RH.ext (Agree.below Below.z) _ _ HR.out) OV.out (by exact RV.ext (Agree.below Below.z) _ _ HV.out)).mono ?_;rintro e w1 ⟨rfl,hb1⟩))
 go_ret
 exact ⟨rfl,Below.z⟩
theorem meths:(∀hv,Meth 105 hv 205∧∀(args:Array Value) (w:World),(callFunc 205 args).run Tryz.prog w=.ok (.enter 205 args) w):=
 fun hv=>⟨meth_always hv,fun _ _=>by kernel_rfl⟩
def HoldsI (p:GP):Prop:=∀(w:World) (A:Nat→Prop) (x:Value),RH w A p x→∃t hv f,x=.iface t hv∧HoldsC p t hv f
theorem holdsQ_hit (b:Bool) (v:GV):∀(l:List GP) (j:Nat) (h:j < l.length),(∀q (hq:q < l.length),q < j→holdsP l[q] v≠b)→holdsP l[j] v=b→holdsQ b l v=b
 | p::l,0,_,_,h=>by simp only [List.getElem_cons_zero] at h;simp only [holdsQ];rw [if_pos h]
 | p::l,j+1,hj,g,h=>by
  have g0:=g 0 (by simp) (by omega)
  simp only [List.getElem_cons_zero] at g0
  simp only [holdsQ]
  rw [if_neg g0]
  exact holdsQ_hit b v l j (by simpa using hj) (fun q hq hlt=>by have:=g (q+1) (by simpa using hq) (by omega);simpa only [List.getElem_cons_succ] using this) (by simpa only [List.getElem_cons_succ] using h)
theorem holdsQ_none (b:Bool) (v:GV):∀(l:List GP),(∀q (hq:q < l.length),holdsP l[q] v≠b)→holdsQ b l v= !b
 | [],_=>by simp [holdsQ]
 | p::l,g=>by
  have g0:=g 0 (by simp)
  simp only [List.getElem_cons_zero] at g0
  simp only [holdsQ]
  rw [if_neg g0]
  exact holdsQ_none b v l fun q hq=>by have:=g (q+1) (by simpa using hq);simpa only [List.getElem_cons_succ] using this
def itemsR (q:GP) (b:Bool):List GV→Bool
 | []=> !b
 | x::l=>if holdsP q x=b then b else itemsR q b l
theorem itemsR_hit (p:GP) (b:Bool):∀(l:List GV) (j:Nat) (h:j < l.length),(∀q (hq:q < l.length),q < j→holdsP p l[q]≠b)→holdsP p l[j]=b→itemsR p b l=b
 | x::l,0,_,_,h=>by simp only [List.getElem_cons_zero] at h;rw [itemsR,if_pos h]
 | x::l,j+1,hj,g,h=>by
  have g0:=g 0 (by simp) (by omega)
  simp only [List.getElem_cons_zero] at g0
  rw [itemsR,if_neg g0]
  exact itemsR_hit p b l j (by simpa using hj) (fun q hq hlt=>by have:=g (q+1) (by simpa using hq) (by omega);simpa only [List.getElem_cons_succ] using this) (by simpa only [List.getElem_cons_succ] using h)
theorem itemsR_none (p:GP) (b:Bool):∀(l:List GV),(∀q (hq:q < l.length),holdsP p l[q]≠b)→itemsR p b l= !b
 | [],_=>rfl
 | x::l,g=>by
  have g0:=g 0 (by simp)
  simp only [List.getElem_cons_zero] at g0
  rw [itemsR,if_neg g0]
  exact itemsR_none p b l fun q hq=>by have:=g (q+1) (by simpa using hq);simpa only [List.getElem_cons_succ] using this
theorem itemsR_any (p:GP):∀l,itemsR p true l=l.any (fun x=>holdsP p x)
 | []=>rfl
 | x::l=>by rw [itemsR,List.any_cons,itemsR_any p l];cases holdsP p x<;>simp
theorem itemsR_all (p:GP):∀l,itemsR p false l=l.all (fun x=>holdsP p x)
 | []=>rfl
 | x::l=>by rw [itemsR,List.all_cons,itemsR_all p l];cases holdsP p x<;>simp
set_option maxRecDepth 100000 in
set_option maxHeartbeats 1000000 in
theorem holds6_any (l:List GP) (b:Bool) (a:Option Addr) (cp:Nat) (v:GV) (A A2:Nat→Prop) (m:VA) (w:World) (hl:l.length≤64) (hq:∀j (h:j < l.length),HoldsI l[j]) (hr:RHs w A l a) (ov:okV v) (hv2:RV w A2 v m.a):
  Calls Tryz.prog 215 #[.agg #[.slice a l.length cp,.bool b],VV v m] w fun e w'=>e=.returned (.bool (holdsQ b l v))∧Below w.heap.size w w':=by
 obtain ⟨ma,mc⟩:=m
 have HQ:=hid hq
 have HR:=hid hr
 have HV:=hid hv2
 have OV:=hid ov
 clear hq hr hv2 ov
 generalize hF:holdsQ b l v=F
 have HF:=hid hF
 clear hF
 go_enter Tryz.func215,Tryz.ntmps215
 go_wp2_with fail
 go_loopg [10] (l.length) (fun gk i wr=>∃j:Nat,gk+j=l.length∧i=.int .i64 j∧Below w.heap.size w wr∧w.heap.size+1 < wr.heap.size∧Hid (∀q (h:q < l.length),q < j→holdsP l[q] v≠b)∧wr.cell? ⟨w.heap.size,1,none⟩=some (.bool b) ∧
  (wr.cell? ⟨w.heap.size+1,0,none⟩=some (.int .u8 v.k)∧wr.cell? ⟨w.heap.size+1,1,none⟩=some (.int .i64 v.n)∧wr.cell? ⟨w.heap.size+1,2,none⟩=some (.slice ma v.l.length mc)))
 case atStart=>exact ⟨0,by omega,rfl,Below.z,by simp,fun q h hq=>absurd hq (by omega),by go_simp,by go_simp,by go_simp,by go_simp⟩
 case round=>
  obtain ⟨j,hj,rfl,hb,hz,HN,c1,c2,c3,c4⟩:=hrel
  by_cases hlt:j < l.length
  ·obtain ⟨b0,o0,x,rfl,hA,hbs,k0,gx⟩:=HR.out.get j hlt
   have k1:wr.cell? ⟨b0,o0+j,none⟩=some x:=(hb.cell hbs).trans k0
   obtain ⟨t,hv,f,rfl,⟨hM,hE⟩,hC⟩:=HQ.out j hlt _ _ _ gx
   have HM:=hid hM
   have HC:=hid hC
   have GX:=hid gx
   have hs1:b0 < wr.heap.size:=by omega
   have hz1:w.heap.size < wr.heap.size:=by omega
   clear hM hC gx k0
   generalize hH:holdsP l[j] v=H
   have HH:=hid hH
   clear hH
   by_cases hHb:H=b
   ·have hHb':(H==b)=true:=by simp [hHb]
    have HHB:=hid hHb
    clear hHb
    go_wp2_with fail
    go_region_with (first
     | (refine upon_meth (by kernel_rfl) (HM.out _ _) ?_)
     | (refine (HC.out _ A A2 v ⟨ma,mc⟩ (by exact RH.ext (Agree.below Below.z) _ _ GX.out) OV.out (by exact RV.ext (Agree.below Below.z) _ _ HV.out)).mono ?_;rw [HH.out];rintro e w2 ⟨rfl,hb2⟩;have hz2:=hb2.size;simp at hz2;have d1:w2.cell? ⟨w.heap.size,1,none⟩=some (.bool b):=(hb2.cell (by simp;omega)).trans (by go_simp)))
    all_goals go_wp2_with fail
    all_goals go_ret
    all_goals exact ⟨ret_b1 (by rw [←HF.out,holdsQ_hit b v l j hlt HN.out (by rw [HH.out];exact HHB.out)]),Below.z⟩
   ·have hHb':(H==b)=false:=by simp [hHb]
    have HHB:=hid hHb
    clear hHb
    go_wp2_with fail
    go_region_with (first
     | (refine upon_meth (by kernel_rfl) (HM.out _ _) ?_)
     | (refine (HC.out _ A A2 v ⟨ma,mc⟩ (by exact RH.ext (Agree.below Below.z) _ _ GX.out) OV.out (by exact RV.ext (Agree.below Below.z) _ _ HV.out)).mono ?_;rw [HH.out];rintro e w2 ⟨rfl,hb2⟩;have hz2:=hb2.size;simp at hz2;have d1:w2.cell? ⟨w.heap.size,1,none⟩=some (.bool b):=(hb2.cell (by simp;omega)).trans (by go_simp)))
    all_goals go_wp2_with fail
    all_goals go_roundg (gk - 1)
    all_goals first
     | (case measure=>omega)
     | skip
    all_goals exact ⟨j+1,by omega,by go_num,Below.z,by omega,fun q h hq=>(by
     by_cases hqj:q=j
     ·subst hqj;rw [HH.out];exact HHB.out
     ·exact HN.out q h (by omega)),by go_simp,(hb2.cell (by simp;omega)).trans (by go_simp),(hb2.cell (by simp;omega)).trans (by go_simp),(hb2.cell (by simp;omega)).trans (by go_simp)⟩
  ·have hjl:j=l.length:=by omega
   have hn:=holdsQ_none b v l fun q hq=>HN.out q hq (by omega)
   rw [HF.out] at hn
   have HNN:=hid hn
   clear hn
   go_wp2_with fail
   go_ret
   exact ⟨ret_b1 (by rw [HNN.out]),hb⟩
set_option maxRecDepth 100000 in
set_option maxHeartbeats 1000000 in
theorem holds9_any (p:GP) (t:Nat) (hv:Value) (f:Nat) (b:Bool) (v:GV) (A A2:Nat→Prop) (m:VA) (w:World) (hq:HoldsC p t hv f) (hr:RH w A p (.iface t hv)) (ov:okV v) (hv2:RV w A2 v m.a):
  Calls Tryz.prog 218 #[.agg #[.iface t hv,.bool b],VV v m] w fun e w'=>e=.returned (.bool (if rowG v=true then itemsR p b v.l else false))∧Below w.heap.size w w':=by
 obtain ⟨ma,mc⟩:=m
 obtain ⟨⟨hM,hE⟩,hC⟩:=hq
 obtain ⟨v1,v2,v3,v4⟩:=okV_iff.1 ov
 have HM:=hid hM
 have HC:=hid hC
 have HR:=hid hr
 have HL:=hid (RV_iff.1 hv2)
 have OL:=hid v4
 have O1:=hid v1
 clear hM hC hr hv2 ov v1 v2 v4
 have hrow:rowB v.k=rowG v:=rfl
 cases hG:rowG v
 ·rw [hG] at hrow
  have HG:=hid hrow
  clear hrow hG
  simp only [Bool.false_eq_true,if_false]
  go_enter Tryz.func218,Tryz.ntmps218
  go_wp2_with (go_at_call 217;refine (row_any v ⟨ma,mc⟩ _ O1.out).mono ?_;rw [HG.out];rintro e w1 ⟨rfl,hb1⟩)
  go_ret
  exact ⟨rfl,Below.z⟩
 rw [hG] at hrow
 have HG:=hid hrow
 clear hrow hG
 simp only [if_true]
 generalize hF:itemsR p b v.l=F
 have HF:=hid hF
 clear hF
 go_enter Tryz.func218,Tryz.ntmps218
 go_wp2_with (go_at_call 217;refine (row_any v ⟨ma,mc⟩ _ O1.out).mono ?_;rw [HG.out];rintro e w1 ⟨rfl,hb1⟩;have hz1:=hb1.size;simp at hz1;have r0:w1.cell? ⟨w.heap.size,0,none⟩=some (.iface t hv):=(hb1.cell so).trans (by go_simp);have r1:w1.cell? ⟨w.heap.size,1,none⟩=some (.bool b):=(hb1.cell so).trans (by go_simp);have r2:w1.cell? ⟨w.heap.size+1,2,none⟩=some (.slice ma v.l.length mc):=(hb1.cell so).trans (by go_simp);have hB1:Below w.heap.size w w1:=Below.z)
 go_loopg [13] (v.l.length) (fun gk i wr=>∃j:Nat,gk+j=v.l.length∧i=.int .i64 j∧Below w.heap.size w wr∧w.heap.size+1 < wr.heap.size∧Hid (∀q (h:q < v.l.length),q < j→holdsP p v.l[q]≠b)∧wr.cell? ⟨w.heap.size,0,none⟩=some (.iface t hv)∧wr.cell? ⟨w.heap.size,1,none⟩=some (.bool b))
 case atStart=>exact ⟨0,by omega,rfl,hB1,by omega,fun q h hq=>absurd hq (by omega),r0,r1⟩
 case round=>
  obtain ⟨j,hj,rfl,hb,hz,HN,c0,c1⟩:=hrel
  by_cases hlt:j < v.l.length
  ·obtain ⟨b0,o0,⟨mja,mjc⟩,rfl,hA,hbs,g0,gx⟩:=HL.out.get j hlt
   obtain ⟨k0,k1,k2⟩:=At3.1 (g0.ext (Agree.below hb) (A:=fun _=>True) trivial)
   have GX:=hid gx
   have hs1:b0 < wr.heap.size:=by omega
   have hz1:w.heap.size < wr.heap.size:=by omega
   have ojk:=OL.out.get j hlt
   have OJ:=hid ojk
   clear gx g0 ojk
   generalize hH:holdsP p v.l[j]=H
   have HH:=hid hH
   clear hH
   by_cases hHb:H=b
   ·have hHb':(H==b)=true:=by simp [hHb]
    have HHB:=hid hHb
    clear hHb
    go_wp2_with fail
    go_region_with (first
     | (refine upon_meth (by kernel_rfl) (HM.out _ _) ?_)
     | (refine (HC.out _ A A2 v.l[j] ⟨mja,mjc⟩ (by exact RH.ext (Agree.below Below.z) _ _ HR.out) OJ.out (by exact RV.ext (Agree.below Below.z) _ _ GX.out)).mono ?_;rw [HH.out];rintro e w2 ⟨rfl,hb2⟩;have hz2:=hb2.size;simp at hz2;have d1:w2.cell? ⟨w.heap.size,1,none⟩=some (.bool b):=(hb2.cell (by simp;omega)).trans (by go_simp)))
    all_goals go_wp2_with fail
    all_goals go_ret
    all_goals exact ⟨ret_b1 (by rw [←HF.out,itemsR_hit p b v.l j hlt HN.out (by rw [HH.out];exact HHB.out)]),Below.z⟩
   ·have hHb':(H==b)=false:=by simp [hHb]
    have HHB:=hid hHb
    clear hHb
    go_wp2_with fail
    go_region_with (first
     | (refine upon_meth (by kernel_rfl) (HM.out _ _) ?_)
     | (refine (HC.out _ A A2 v.l[j] ⟨mja,mjc⟩ (by exact RH.ext (Agree.below Below.z) _ _ HR.out) OJ.out (by exact RV.ext (Agree.below Below.z) _ _ GX.out)).mono ?_;rw [HH.out];rintro e w2 ⟨rfl,hb2⟩;have hz2:=hb2.size;simp at hz2;have d1:w2.cell? ⟨w.heap.size,1,none⟩=some (.bool b):=(hb2.cell (by simp;omega)).trans (by go_simp)))
    all_goals go_wp2_with fail
    all_goals go_roundg (gk - 1)
    all_goals first
     | (case measure=>omega)
     | skip
    all_goals exact ⟨j+1,by omega,by go_num,Below.z,by omega,fun q h hq=>(by
     by_cases hqj:q=j
     ·subst hqj;rw [HH.out];exact HHB.out
     ·exact HN.out q h (by omega)),(hb2.cell (by simp;omega)).trans (by go_simp),by go_simp⟩
  ·have hjl:j=v.l.length:=by omega
   have hn:=itemsR_none p b v.l fun q hq=>HN.out q hq (by omega)
   rw [HF.out] at hn
   have HNN:=hid hn
   clear hn
   go_wp2_with fail
   go_ret
   exact ⟨ret_b1 (by rw [HNN.out]),hb⟩
end Go.Proofs.YtclphfojkggcpaaGreat
