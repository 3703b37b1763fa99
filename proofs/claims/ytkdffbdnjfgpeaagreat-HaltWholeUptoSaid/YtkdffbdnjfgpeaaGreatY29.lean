/- Part 30. -/
import Derived.RegionTactic
import Derived.Test.YtkdffbdnjfgpeaaGreatY15
set_option linter.all false
namespace Go.Proofs.YtkdffbdnjfgpeaaGreat
open Go.Lib (hid)
open Go Go.RowKit Go.Proofs.Tryz
theorem Zbl (b:Bool) (v:GV) (m:VA) (w:World):Calls prog 326 #[.bool b,VV v m] w fun e w'=>e=.returned (.bool b)∧Below w.heap.size w w':=by
 go_enter func326,ntmps326
 go_wp2_with fail
 go_ret
 exact ⟨rfl,ZtX⟩
set_option maxRecDepth 100000
theorem Zbm (u v:GV) (b:Bool) (A A':Nat→Prop) (mu m:VA) (w:World) (ou:okV u) (ov:okV v) (hu:RV w A' u mu.a) (hv:RV w A v m.a):
  Calls prog 327 #[.agg #[.int .u8 u.k,.int .i64 u.n,.slice mu.a u.l.length mu.c,.bool b],VV v m] w fun e w'=>e=.returned (.bool (if b=true then decide (Vj v u < 0) else XX v u))∧Below w.heap.size w w':=by
 obtain ⟨mua,muc⟩:=mu
 obtain ⟨ma,mc⟩:=m
 have HU:=hid (Zl.1 hu)
 have HV:=hid (Zl.1 hv)
 have OU:=hid ou
 have OV:=hid ov
 clear hu hv ou ov
 cases b
 ·simp only [Bool.false_eq_true,if_false]
  go_enter func327,ntmps327
  go_wp2_with (go_at_call 33;refine (Zez _ v u _ A A' ⟨ma,mc⟩ ⟨mua,muc⟩ (Nat.le_refl _) OV.out OU.out (by exact Zt8 az _ _ HV.out) (by exact Zt8 az _ _ HU.out)).mono ?_;rintro e w1 ⟨rfl,hb⟩;have hB1:=hb;clear hb;obtain ⟨hc1,hf1⟩:=Za hB1)
  go_ret
  exact ⟨rfl,ZtX⟩
 simp only [if_true]
 go_enter func327,ntmps327
 go_wp2_with (go_at_call 328;refine (Zi5 _ v u _ A A' ⟨ma,mc⟩ ⟨mua,muc⟩ (Nat.le_refl _) OV.out OU.out (by exact Zt8 az _ _ HV.out) (by exact Zt8 az _ _ HU.out)).mono ?_;rintro e w1 ⟨rfl,hb⟩;have hB1:=hb;clear hb;obtain ⟨hc1,hf1⟩:=Za hB1)
 go_ret
 exact ⟨rfl,ZtX⟩
set_option maxRecDepth 512
noncomputable def Zh9:String:=(((prog.info? 317).bind (fun i=>i.methods[0]?)).map (fun m=>m.name)).getD (String.ofList [])
def Zc3 (t:Nat) (hv:Value) (f:Nat):Prop:=∀(n:Nat) (w:World),(method (n+1) t hv Zh9).run prog w=.ok (f,hv) w
theorem YK {P:Program} {o:Oper} {a:Act} {K:Act→World→Prop} {Q:Exit→Act→World→Prop} {n t:Nat} {hv:Value} {s S:String} {f:Nat} {w:World} {F:(FuncId×Value)→World→Result Next} (hs:s=S) (hM:(method (n+1) t hv S).run P w=.ok (f,hv) w)
  (hK:Oper.upon P o a K Q (F (f,hv) w)):Oper.upon P o a K Q (((method (n+1) t hv s).run P w).andThen F):=by
 subst hs;rw [hM];exact hK
theorem Qs (hv:Value):Zc3 317 hv 326:=fun n w=>kr
theorem Zcz (hv:Value):Zc3 319 hv 327:=fun n w=>kr
theorem Zih (hv:Value):Zc3 321 hv 334:=fun n w=>kr
theorem Jj (hv:Value):Zc3 323 hv 335:=fun n w=>kr
theorem Zjn (hv:Value):Zc3 325 hv 336:=fun n w=>kr
theorem Zbz (hv:Value):Zc3 327 hv 338:=fun n w=>kr
theorem ZgU (hv:Value):Zc3 328 hv 339:=fun n w=>kr
def ZaY (p:GP) (t:Nat) (hv:Value) (f:Nat):Prop:=(Zc3 t hv f∧∀(args:Array Value) (w:World),(callFunc f args).run prog w=.ok (.enter f args) w)∧∀(w:World) (A A2:Nat→Prop) (v:GV) (m:VA),RH w A p (.iface t hv)→okV v→RV w A2 v m.a →
 Calls prog f #[hv,VV v m] w fun e w'=>e=.returned (.bool (Zh p v))∧Below w.heap.size w w'
theorem Xf (p:GP) (v:GV):Zh p v =
  (if p.k=1 then true else if p.k=2 then false
  else if p.k=3 then XX v p.v else if p.k=4 then decide (Vj v p.v < 0)
  else if p.k=5 then !(Xz p.a v)
  else if p.k=6 then XM false p.a v else if p.k=7 then XM true p.a v
  else if p.k=8 then (if Ua v=true then (match v.l[p.n.toNat]? with|some x=>Xz p.a x|none=>false) else false)
  else if p.k=9 then (if Ua v=true then v.l.all (fun x=>Xz p.a x) else false)
  else if p.k=10 then (if Ua v=true then v.l.any (fun x=>Xz p.a x) else false)
  else (if Ua v=true then Xz p.a ⟨1,v.l.length,[]⟩ else false)):=by cases p;simp only [Zh];rfl
set_option maxRecDepth 100000
theorem Ze5 (t:Nat) (hv:Value) (f:Nat) (q:GP) (v:GV) (A A2:Nat→Prop) (m:VA) (w:World) (hq:ZaY q t hv f) (hr:RH w A q (.iface t hv)) (ov:okV v) (hv2:RV w A2 v m.a):
  Calls prog 334 #[.agg #[.iface t hv],VV v m] w fun e w'=>e=.returned (.bool (!Zh q v))∧Below w.heap.size w w':=by
 obtain ⟨ma,mc⟩:=m
 obtain ⟨⟨hM,hE⟩,hC⟩:=hq
 have HM:=hid hM
 have HC:=hid hC
 have HR:=hid hr
 have HV:=hid hv2
 have OV:=hid ov
 clear hM hC hr hv2 ov
 go_enter func334,ntmps334
 go_wp2_with (first
  | (refine YK kr (HM.out _ _) ?_)
  | (refine (HC.out _ A A2 v ⟨ma,mc⟩ (by exact RH.ext az _ _ HR.out) OV.out (by exact Zt5 az _ _ HV.out)).mono ?_;rintro e w1 ⟨rfl,hb1⟩))
 go_ret
 exact ⟨rfl,ZtX⟩
set_option maxRecDepth 512
theorem ZjU:(∀hv,Zc3 317 hv 326∧∀(args:Array Value) (w:World),(callFunc 326 args).run prog w=.ok (.enter 326 args) w):=
 fun hv=>⟨Qs hv,fun _ _=>kr⟩
def ZeT (p:GP):Prop:=∀(w:World) (A:Nat→Prop) (x:Value),RH w A p x→∃t hv f,x=.iface t hv∧ZaY p t hv f
theorem Zbr (b:Bool) (v:GV):∀(l:List GP) (j:Nat) (h:j < l.length),(∀q (hq:q < l.length),q < j→Zh l[q] v≠b)→Zh l[j] v=b→XM b l v=b
 | p::l,0,_,_,h=>by simp only [List.getElem_cons_zero] at h;simp only [XM];rw [if_pos h]
 | p::l,j+1,hj,g,h=>by
  have g0:=g 0 sm om
  simp only [List.getElem_cons_zero] at g0
  simp only [XM]
  rw [if_neg g0]
  exact Zbr b v l j (by simpa using hj) (fun q hq hlt=>by have:=g (q+1) (by simpa using hq) om;simpa only [List.getElem_cons_succ] using this) (by simpa only [List.getElem_cons_succ] using h)
theorem Zak (b:Bool) (v:GV):∀(l:List GP),(∀q (hq:q < l.length),Zh l[q] v≠b)→XM b l v= !b
 | [],_=>by simp [XM]
 | p::l,g=>by
  have g0:=g 0 sm
  simp only [List.getElem_cons_zero] at g0
  simp only [XM]
  rw [if_neg g0]
  exact Zak b v l fun q hq=>by have:=g (q+1) (by simpa using hq);simpa only [List.getElem_cons_succ] using this
def Vk (q:GP) (b:Bool):List GV→Bool
 | []=> !b
 | x::l=>if Zh q x=b then b else Vk q b l
theorem Zbu (p:GP) (b:Bool):∀(l:List GV) (j:Nat) (h:j < l.length),(∀q (hq:q < l.length),q < j→Zh p l[q]≠b)→Zh p l[j]=b→Vk p b l=b
 | x::l,0,_,_,h=>by simp only [List.getElem_cons_zero] at h;rw [Vk,if_pos h]
 | x::l,j+1,hj,g,h=>by
  have g0:=g 0 sm om
  simp only [List.getElem_cons_zero] at g0
  rw [Vk,if_neg g0]
  exact Zbu p b l j (by simpa using hj) (fun q hq hlt=>by have:=g (q+1) (by simpa using hq) om;simpa only [List.getElem_cons_succ] using this) (by simpa only [List.getElem_cons_succ] using h)
theorem Zal (p:GP) (b:Bool):∀(l:List GV),(∀q (hq:q < l.length),Zh p l[q]≠b)→Vk p b l= !b
 | [],_=>rfl
 | x::l,g=>by
  have g0:=g 0 sm
  simp only [List.getElem_cons_zero] at g0
  rw [Vk,if_neg g0]
  exact Zal p b l fun q hq=>by have:=g (q+1) (by simpa using hq);simpa only [List.getElem_cons_succ] using this
theorem Zbt (p:GP):∀l,Vk p true l=l.any (fun x=>Zh p x)
 | []=>rfl
 | x::l=>by rw [Vk,List.any_cons,Zbt p l];cases Zh p x<;>simp
theorem Zbs (p:GP):∀l,Vk p false l=l.all (fun x=>Zh p x)
 | []=>rfl
 | x::l=>by rw [Vk,List.all_cons,Zbs p l];cases Zh p x<;>simp
theorem Zmq {p:Prop} (h:p:=by
 rw [HF.out] at hn
 have HNN:=hid hn
 clear hn
 go_wp2_with fail
 go_ret
 exact ⟨XA (by rw [HNN.out]),hb⟩):p:=h
set_option maxRecDepth 100000
set_option maxHeartbeats 1000000
theorem Zbn (l:List GP) (b:Bool) (a:Option Addr) (cp:Nat) (v:GV) (A A2:Nat→Prop) (m:VA) (w:World) (hl:l.length≤64) (hq:∀j (h:j < l.length),ZeT l[j]) (hr:RHs w A l a) (ov:okV v) (hv2:RV w A2 v m.a):
  Calls prog 335 #[.agg #[.slice a l.length cp,.bool b],VV v m] w fun e w'=>e=.returned (.bool (XM b l v))∧Below w.heap.size w w':=by
 obtain ⟨ma,mc⟩:=m
 have HQ:=hid hq
 have HR:=hid hr
 have HV:=hid hv2
 have OV:=hid ov
 clear hq hr hv2 ov
 generalize hF:XM b l v=F
 have HF:=hid hF
 clear hF
 go_enter func335,ntmps335
 go_wp2_with fail
 go_loopg [10] (l.length) (fun gk i wr=>∃j:Nat,gk+j=l.length∧i=.int .i64 j∧Below w.heap.size w wr∧w.heap.size+1 < wr.heap.size∧Hid (∀q (h:q < l.length),q < j→Zh l[q] v≠b)∧wr.cell? ⟨w.heap.size,1,none⟩=some (.bool b) ∧
  (wr.cell? ⟨w.heap.size+1,0,none⟩=some (.int .u8 v.k)∧wr.cell? ⟨w.heap.size+1,1,none⟩=some (.int .i64 v.n)∧wr.cell? ⟨w.heap.size+1,2,none⟩=some (.slice ma v.l.length mc)))
 case atStart=>exact ⟨0,om,rfl,ZtX,sm,fun q h hq=>absurd hq om,gs,gs,gs,gs⟩
 case round=>
  obtain ⟨j,hj,rfl,hb,hz,HN,c1,c2,c3,c4⟩:=hrel
  by_cases hlt:j < l.length
  ·obtain ⟨b0,o0,x,rfl,hA,hbs,k0,gx⟩:=HR.out.get j hlt
   have k1:wr.cell? ⟨b0,o0+j,none⟩=some x:=(hb.cell hbs).trans k0
   obtain ⟨t,hv,f,rfl,⟨hM,hE⟩,hC⟩:=HQ.out j hlt _ _ _ gx
   have HM:=hid hM
   have HC:=hid hC
   have GX:=hid gx
   have hs1:b0 < wr.heap.size:=om
   have hz1:w.heap.size < wr.heap.size:=om
   clear hM hC gx k0
   generalize hH:Zh l[j] v=H
   have HH:=hid hH
   clear hH
   by_cases hHb:H=b
   ·have hHb':(H==b)=true:=by simp [hHb]
    have HHB:=hid hHb
    clear hHb
    go_wp2_with fail
    go_region_with (first
     | (refine YK kr (HM.out _ _) ?_)
     | (refine (HC.out _ A A2 v ⟨ma,mc⟩ (by exact RH.ext az _ _ GX.out) OV.out (by exact Zt5 az _ _ HV.out)).mono ?_;rw [HH.out];rintro e w2 ⟨rfl,hb2⟩;have hz2:=hb2.size;simp at hz2;have d1:w2.cell? ⟨w.heap.size,1,none⟩=some (.bool b):=(hb2.cell (by simp;omega)).trans gs))
    all_goals go_wp2_with fail
    all_goals go_ret
    all_goals exact ⟨XA (by rw [←HF.out,Zbr b v l j hlt HN.out (by rw [HH.out];exact HHB.out)]),ZtX⟩
   have hHb':(H==b)=false:=by simp [hHb]
   have HHB:=hid hHb
   clear hHb
   go_wp2_with fail
   go_region_with (first
    | (refine YK kr (HM.out _ _) ?_)
    | (refine (HC.out _ A A2 v ⟨ma,mc⟩ (by exact RH.ext az _ _ GX.out) OV.out (by exact Zt5 az _ _ HV.out)).mono ?_;rw [HH.out];rintro e w2 ⟨rfl,hb2⟩;have hz2:=hb2.size;simp at hz2;have d1:w2.cell? ⟨w.heap.size,1,none⟩=some (.bool b):=(hb2.cell (by simp;omega)).trans gs))
   all_goals go_wp2_with fail
   all_goals go_roundg (gk - 1)
   all_goals first
    | (case measure=>omega)
    | skip
   all_goals exact ⟨j+1,om,by go_num,ZtX,om,fun q h hq=>(by
    by_cases hqj:q=j
    ·subst hqj;rw [HH.out];exact HHB.out
    exact HN.out q h om),gs,(hb2.cell (by simp;omega)).trans gs,(hb2.cell (by simp;omega)).trans gs,(hb2.cell (by simp;omega)).trans gs⟩
  have hjl:j=l.length:=om
  have hn:=Zak b v l fun q hq=>HN.out q hq om
  exact Zmq
theorem Zbo (p:GP) (t:Nat) (hv:Value) (f:Nat) (b:Bool) (v:GV) (A A2:Nat→Prop) (m:VA) (w:World) (hq:ZaY p t hv f) (hr:RH w A p (.iface t hv)) (ov:okV v) (hv2:RV w A2 v m.a):
  Calls prog 338 #[.agg #[.iface t hv,.bool b],VV v m] w fun e w'=>e=.returned (.bool (if Ua v=true then Vk p b v.l else false))∧Below w.heap.size w w':=by
 obtain ⟨ma,mc⟩:=m
 obtain ⟨⟨hM,hE⟩,hC⟩:=hq
 obtain ⟨v1,v2,v3,v4⟩:=ZA.1 ov
 have HM:=hid hM
 have HC:=hid hC
 have HR:=hid hr
 have HL:=hid (Zl.1 hv2)
 have OL:=hid v4
 have O1:=hid v1
 clear hM hC hr hv2 ov v1 v2 v4
 have hrow:J0 v.k=Ua v:=rfl
 cases hG:Ua v
 ·rw [hG] at hrow
  have HG:=hid hrow
  clear hrow hG
  simp only [Bool.false_eq_true,if_false]
  go_enter func338,ntmps338
  go_wp2_with (go_at_call 337;refine (U5 v ⟨ma,mc⟩ _ O1.out).mono ?_;rw [HG.out];rintro e w1 ⟨rfl,hb1⟩)
  go_ret
  exact ⟨rfl,ZtX⟩
 rw [hG] at hrow
 have HG:=hid hrow
 clear hrow hG
 simp only [if_true]
 generalize hF:Vk p b v.l=F
 have HF:=hid hF
 clear hF
 go_enter func338,ntmps338
 go_wp2_with (go_at_call 337;refine (U5 v ⟨ma,mc⟩ _ O1.out).mono ?_;rw [HG.out];rintro e w1 ⟨rfl,hb1⟩;have hz1:=hb1.size;simp at hz1;have r0:w1.cell? ⟨w.heap.size,0,none⟩=some (.iface t hv):=(hb1.cell so).trans gs;have r1:w1.cell? ⟨w.heap.size,1,none⟩=some (.bool b):=(hb1.cell so).trans gs;have r2:w1.cell? ⟨w.heap.size+1,2,none⟩=some (.slice ma v.l.length mc):=(hb1.cell so).trans gs;have hB1:Below w.heap.size w w1:=ZtX)
 go_loopg [13] (v.l.length) (fun gk i wr=>∃j:Nat,gk+j=v.l.length∧i=.int .i64 j∧Below w.heap.size w wr∧w.heap.size+1 < wr.heap.size∧Hid (∀q (h:q < v.l.length),q < j→Zh p v.l[q]≠b)∧wr.cell? ⟨w.heap.size,0,none⟩=some (.iface t hv)∧wr.cell? ⟨w.heap.size,1,none⟩=some (.bool b))
 case atStart=>exact ⟨0,om,rfl,hB1,om,fun q h hq=>absurd hq om,r0,r1⟩
 case round=>
  obtain ⟨j,hj,rfl,hb,hz,HN,c0,c1⟩:=hrel
  by_cases hlt:j < v.l.length
  ·obtain ⟨b0,o0,⟨mja,mjc⟩,rfl,hA,hbs,g0,gx⟩:=HL.out.get j hlt
   obtain ⟨k0,k1,k2⟩:=At3.1 (g0.ext (ZtY hb) (A:=fun _=>True) trivial)
   have GX:=hid gx
   have hs1:b0 < wr.heap.size:=om
   have hz1:w.heap.size < wr.heap.size:=om
   have ojk:=OL.out.get j hlt
   have OJ:=hid ojk
   clear gx g0 ojk
   generalize hH:Zh p v.l[j]=H
   have HH:=hid hH
   clear hH
   by_cases hHb:H=b
   ·have hHb':(H==b)=true:=by simp [hHb]
    have HHB:=hid hHb
    clear hHb
    go_wp2_with fail
    go_region_with (first
     | (refine YK kr (HM.out _ _) ?_)
     | (refine (HC.out _ A A2 v.l[j] ⟨mja,mjc⟩ (by exact RH.ext az _ _ HR.out) OJ.out (by exact Zt5 az _ _ GX.out)).mono ?_;rw [HH.out];rintro e w2 ⟨rfl,hb2⟩;have hz2:=hb2.size;simp at hz2;have d1:w2.cell? ⟨w.heap.size,1,none⟩=some (.bool b):=(hb2.cell (by simp;omega)).trans gs))
    all_goals go_wp2_with fail
    all_goals go_ret
    all_goals exact ⟨XA (by rw [←HF.out,Zbu p b v.l j hlt HN.out (by rw [HH.out];exact HHB.out)]),ZtX⟩
   have hHb':(H==b)=false:=by simp [hHb]
   have HHB:=hid hHb
   clear hHb
   go_wp2_with fail
   go_region_with (first
    | (refine YK kr (HM.out _ _) ?_)
    | (refine (HC.out _ A A2 v.l[j] ⟨mja,mjc⟩ (by exact RH.ext az _ _ HR.out) OJ.out (by exact Zt5 az _ _ GX.out)).mono ?_;rw [HH.out];rintro e w2 ⟨rfl,hb2⟩;have hz2:=hb2.size;simp at hz2;have d1:w2.cell? ⟨w.heap.size,1,none⟩=some (.bool b):=(hb2.cell (by simp;omega)).trans gs))
   all_goals go_wp2_with fail
   all_goals go_roundg (gk - 1)
   all_goals first
    | (case measure=>omega)
    | skip
   all_goals exact ⟨j+1,om,by go_num,ZtX,om,fun q h hq=>(by
    by_cases hqj:q=j
    ·subst hqj;rw [HH.out];exact HHB.out
    exact HN.out q h om),(hb2.cell (by simp;omega)).trans gs,gs⟩
  have hjl:j=v.l.length:=om
  have hn:=Zal p b v.l fun q hq=>HN.out q hq om
  exact Zmq
end Go.Proofs.YtkdffbdnjfgpeaaGreat
