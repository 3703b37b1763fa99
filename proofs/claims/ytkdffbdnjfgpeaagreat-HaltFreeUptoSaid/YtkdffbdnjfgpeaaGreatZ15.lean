/- Part 16. -/
import Derived.Deep.RegionHeld3
import Derived.Test.YtkdffbdnjfgpeaaGreatZ13
import Derived.Test.YtkdffbdnjfgpeaaGreatZ52
import Derived.Test.YtkdffbdnjfgpeaaGreatZTk
set_option linter.all false
namespace Go.Proofs.YtkdffbdnjfgpeaaGreat
open Go.Lib (hid)
open Go Go.RowKit Go.Proofs.Tryz
def UH (c:Nat) (s:ByteArray) (r:Res GV) (w:World):Ending→World→Prop:=fun e w'=>But c w.heap.size w w' ∧
 match r with
 | .ok v j=>(∃m,e=.returned (VV v m)∧RV w' (fun b=>w.heap.size≤b) v m.a)∧Cur w' c s j false
 | .no k=>e=ZgN k
def ZkO (c:Nat) (s:ByteArray) (r:Res (List GV)) (w:World):Ending→World→Prop:=fun e w'=>But c w.heap.size w w' ∧
 match r with
 | .ok l j=>(∃a cp,e=.returned (.slice a l.length cp)∧RVs w' (fun b=>w.heap.size≤b) l a)∧Cur w' c s j false
 | .no k=>e=ZgN k
def Vn (c:Nat) (s:ByteArray) (S f:Nat):Prop:=∀(t:GT) (e:Env) (i:Nat) (w:World) (m:TA) (a:Option Addr),Zp (!e.isEmpty) t→okT t→Zb t≤S→Ye S e→i≤s.size→(∃k n,wkT f t e k n≠none)→Cur w c s i false→RT w (fun b=>b≠c) t m→REnv w (fun b=>b≠c) e a →
 Calls prog 94 #[.agg #[.pointer (some ⟨c,0,none⟩)],TV t m,.pointer a] w (UH c s (Zd s f t e i) w)
def WB (s:ByteArray) (f:Nat) (e:Env) (D:List GV) (l:List GT) (i:Nat):Res (List GV):=(Xt (fun x=>Zd s f x e) l i).map (fun r=>D++r)
theorem K4 (s:ByteArray) (f:Nat) (e:Env) (D:List GV) (l:List GT) (j:Nat) (h:j < l.length) (i:Nat):WB s f e D (l.drop j) i=match Zd s f l[j] e i with
  | .no k=>.no k
  | .ok v q=>WB s f e (D++[v]) (l.drop (j+1)) q:=by
 unfold WB
 rw [List.drop_eq_getElem_cons h,Xt]
 cases Zd s f l[j] e i with
 | no k=>rfl
 | ok v q=>
  simp only [Res.bind]
  cases Xt (fun x=>Zd s f x e) (l.drop (j+1)) q with
  | no k=>rfl
  | ok r p=>simp [Res.map]
theorem VK {w:World} {base e n:Nat} {v:Value} {ps:List (GV×VA)} {A:Nat→Prop} (h:w.ownsRow base e 3 v n (Xd ps)) (hA:∀b,base≤b→A b) (hr:∀p∈ps,RV w A p.1 p.2.a):∃a c,v=.slice a (ps.map Prod.fst).length c∧RVs w A (ps.map Prod.fst) a:=by
 have hn:ps.length=n:=by have:=h.1;rw [UP] at this;omega
 rcases h.2 with ⟨rfl,h0⟩|⟨g,cap,cur,rfl,hb,h3⟩
 ·have hz:ps=[]:=List.eq_nil_of_length_eq_zero om
  subst hz
  exact ⟨none,0,rfl,by simp only [List.map_nil,RVs]⟩
 refine ⟨_,cap,by rw [List.length_map,hn],Qi (hA _ hb) h hr⟩
theorem UK (w:World) (a b c:Value) (t:TypeId):∀j u,[a,b,c][j]? =some u→(w.alloc (.cells #[a,b,c] t)).cell? ((⟨w.heap.size,0,none⟩:Addr).add j)=some u:=fun j u hu=>
 World.news_of_block (heap_alloc_new w _) j u (by simpa using hu)
set_option maxRecDepth 100000
set_option maxHeartbeats 2000000
theorem KF (c:Nat) (s:ByteArray) (S f:Nat) (hS:S≤1099511627776) (ih:Vn c s S f) (hb:Zc s=true) (l:List GT) (e:Env) (i:Nat) (w:World) (a al:Option Addr) (cp:Nat) (hl64:l.length≤64)
  (hl:∀x∈l,Zp (!e.isEmpty) x∧okT x∧Zb x≤S∧∃k n,wkT f x e k n≠none) (he:Ye S e) (hi:i≤s.size) (hc:Cur w c s i false) (hr:RTs w (fun b=>b≠c) l al) (hv:REnv w (fun b=>b≠c) e a):
  Calls prog 149 #[.agg #[.pointer (some ⟨c,0,none⟩)],.slice al l.length cp,.pointer a] w (ZkO c s (Xt (fun x=>Zd s f x e) l i) w):=by
 have IH:=hid ih
 have HL:=hid hr
 have HV:=hid hv
 have HE:=hid he
 have HG:=hid hl
 have HC:=hid hc
 have hcs:c < w.heap.size:=World.block_lt_of_cell? _ _ hc.1.1
 obtain ⟨i0,hi0,y0,y1,y2⟩:=info_parts US
 have hR0:WB s f e [] (l.drop 0) i=Xt (fun x=>Zd s f x e) l i:=by
  unfold WB
  rw [List.drop_zero]
  cases Xt (fun x=>Zd s f x e) l i<;>simp [Res.map]
 generalize Xt (fun x=>Zd s f x e) l i=R at *
 have HR0:=hid hR0
 have hin:=fun x hx q hq=>WJ s S f x e q (hl x hx).1 (hl x hx).2.1 (hl x hx).2.2.1 he hq
 have HIN:=hid hin
 clear ih hr hv he hl hc hR0 hin hb
 go_enter func149,ntmps149
 go_wp2_with fail
 go_loopg [7,12] (l.length) (fun gk t7 i' wr=>∃(j p:Nat) (ps:List (GV×VA)) (v:Value),v=t7∧gk+j=l.length∧i'=.int .i64 j∧p≤s.size∧But c w.heap.size w wr∧w.heap.size < wr.heap.size∧wr.cell? ⟨w.heap.size,0,none⟩=some (.pointer (some ⟨c,0,none⟩))∧Hid (ps.length=j)∧Hid (WB s f e (ps.map Prod.fst) (l.drop j) p=R)∧Hid (Cur wr c s p false) ∧
  Hid (wr.ownsRow (w.heap.size+1) 24 3 v j (Xd ps))∧Hid (∀q∈ps,RV wr (Own w.heap.size (fun _=>False) v) q.1 q.2.a))
 case atStart=>exact ⟨0,i,[],_,rfl,om,rfl,hi,Zt1,sm,gs,hid rfl,HR0,hid (Zt3 (B:=w.heap.size) ZtX hcs HC.out),hid (World.ownsRow_nil _ _ _ _),fun q hq=>by simp at hq⟩
 case round=>
  obtain ⟨j,p,ps,v,rfl,hj,rfl,hp,hbt,hz,hcell,HPL,HP,HCU,HO,HQ⟩:=hrel
  by_cases hlt:j < l.length
  ·obtain ⟨b,o,mj,rfl,hA,hbs,g0,gx⟩:=HL.out.get j hlt
   obtain ⟨z0,z1,z2,z3,z4,z5,z6,z7,z8,z9,za,zb,zc,zd,ze⟩:=Yp.1 (g0.ext (Zt0 hbt) hA)
   have hs1:b < wr.heap.size:=by have:=hbt.size;omega
   have hcr:c < wr.heap.size:=by have:=hbt.size;omega
   obtain ⟨x1,x2,x3,x4⟩:=HG.out l[j] (List.getElem_mem hlt)
   have HX:=hid (And.intro x1 (And.intro x2 (And.intro x3 x4)))
   have hst:=HP.out
   rw [K4 _ _ _ _ _ _ hlt] at hst
   have hinj:=HIN.out l[j] (List.getElem_mem hlt) p hp
   clear g0 x1 x2 x3 x4
   rcases hW:Zd s f l[j] e p with ⟨v',q⟩|⟨k⟩
   ·rw [hW] at hst hinj
    have hq:=hinj.2.1
    have HW:=hid hW
    have HST:=hid hst
    clear hW hst hinj
    go_wp2_with (first
     | (go_at_call 94;refine (IH.out l[j] e p _ mj a HX.out.1 HX.out.2.1 HX.out.2.2.1 HE.out hp HX.out.2.2.2 (by exact Zt3 (B:=wr.heap.size) ZtX hcr HCU.out) (by exact Zt2 (Zt0 Zt1) _ _ gx) (by exact Zua (Zt0 Zt1) _ _ HV.out)).mono ?_;rw [HW.out];rintro e1 w2 ⟨hb2,⟨m,rfl,hrv⟩,hc2⟩;have HRV:=hid hrv;have HC2:=hid hc2;clear hrv hc2;have hz2:=hb2.size;simp at hz2;have hbb:But c wr.heap.size wr w2:=Zt1;have HO2:=hid (Vf HO.out hbb (fun k hk=>(by have:=HO.out.lt _ hk;omega))))
     | (at_builtin;refine wpList_append_lies _ rfl _ _ 22 rfl (w.heap.size+1) 24 i0 _ 3 40 underlying22 hi0 y0 y1 y2 rfl (by decide) _ j _ (by rfl) (HO2.out.alloc _) ⟨w2.heap.size,0,none⟩ 1 1 [.int .u8 v'.k,.int .i64 v'.n,.slice m.a v'.l.length m.c] (by rfl) rfl (UK _ _ _ _ _) (by simp [Value.oneCell']) (by decide) (by unfold maxLen;omega) om (by simp;omega) (w2.heap.size+1) sm ?_;intro g cap w4 hown hgrow hat hlt1))
    have hownk:∀k,v.ownBlock=some k→w.heap.size≤k:=fun k e=>by have:=(HO.out.lt _ e).1;omega
    have hownl:∀k,v.ownBlock=some k→k < wr.heap.size:=fun k e=>(HO.out.lt _ e).2
    have hbw1:Below (w.heap.size+1) w2 w4:=Below.grown ((Below.refl _ _).alloc om _) hgrow (by simp;omega) (fun k e=>(HO2.out.lt _ e).1)
    have hag2:Agree (Own w.heap.size (fun _=>False) v) w2 (w2.alloc (.cells #[.int .u8 v'.k,.int .i64 v'.n,.slice m.a v'.l.length m.c] 24)):=ZtY ((Below.refl _ _).alloc (Nat.le_refl _) _)
    have hagb:Agree (Own w.heap.size (fun _=>False) v) wr w2:=fun q u hq hcq=>hbb.ag (World.block_lt_of_cell? _ _ hcq) (by rcases hq with ⟨h,_⟩|⟨h,_⟩;exact absurd h id;omega) hcq
    go_roundg (gk - 1)
    case measure=>omega
    case rel=>
     refine ⟨j+1,q,ps++[(v',m)],_,rfl,om,by go_num,hq,(hbt.trans (hbb.mono om)).trans (Zue (hbw1.mono om)),by have:=hbw1.size;omega,?_,hid (by have:=HPL.out;simp;omega),hid (by rw [List.map_append];exact HST.out),hid (Zt3 hbw1 om HC2.out),hid ?_,?_⟩
     ·exact (hbw1.cell (p:=⟨w.heap.size,0,none⟩) sm).trans ((hbb.cell (p:=⟨w.heap.size,0,none⟩) (by simp;omega) (by simp;omega)).trans hcell)
     ·rw [X3];exact hown
     intro q hq
     rcases List.mem_append.1 hq with hq|hq
     ·exact RV.own hgrow hownk hat sm (Zt5 hag2 _ _ (Zt5 hagb _ _ (HQ.out q hq)))
     simp at hq
     subst hq
     refine RV.own hgrow hownk hat sm (Zt5 hag2 _ _ (Zt9 (fun b h _=>?_) _ _ HRV.out))
     simp at h
     exact .inr ⟨om,fun e=>by have:=hownl b e;omega⟩
   rw [hW] at hst
   have HW:=hid hW
   have HST:=hid hst
   clear hW hst hinj
   go_wp2_with (go_at_call 94;refine (IH.out l[j] e p _ mj a HX.out.1 HX.out.2.1 HX.out.2.2.1 HE.out hp HX.out.2.2.2 (by exact Zt3 (B:=wr.heap.size) ZtX hcr HCU.out) (by exact Zt2 (Zt0 Zt1) _ _ gx) (by exact Zua (Zt0 Zt1) _ _ HV.out)).mono ?_;rw [HW.out];rintro e1 w2 ⟨hb2,rfl⟩)
   rw [←HST.out]
   exact ⟨rfl,Zt1,rfl⟩
  have hjl:j=l.length:=om
  have hst:=HP.out
  rw [hjl,List.drop_length] at hst
  have hst2:R=.ok (ps.map Prod.fst) p:=by rw [←hst];simp [WB,Xt,Res.map]
  have hE:=VK (A:=fun b=>w.heap.size≤b) HO.out (fun b h=>om) (fun q hq=>Zt9 (fun b hb _=>by rcases hb with ⟨h,_⟩|⟨h,_⟩;exact absurd h id;exact h) _ _ (HQ.out q hq))
  obtain ⟨av,cv,hav,hrd⟩:=hE
  have HRD:=hid hrd
  have HAV:=hid hav
  clear hst hrd hav
  subst hst2
  go_wp2_with fail
  go_ret
  exact ⟨hbt,⟨av,cv,by rw [←HAV.out];rfl,HRD.out⟩,HCU.out⟩
set_option maxRecDepth 512
theorem UZ {α:Type} (l:List α) (row:List Int) (j:Nat) (h:j < row.length) (k:Nat) (hk:row[j]=(k:Int)) (hl:k < l.length):YC l (row.take (j+1))=YC l (row.take j)++[l[k]]:=by
 unfold YC
 rw [List.take_succ_eq_append_getElem h,List.filterMap_append,hk]
 simp [List.getElem?_eq_getElem hl]
theorem qf4 {p:Prop} (h:p:=by
 obtain ⟨av,cv,hav,hrd⟩:=hE
 rw [hst] at hav hrd
 have HRD:=hid hrd
 have HAV:=hid hav
 clear hst hrd hav
 go_wp2_with fail
 go_ret
 exact ⟨hb,av,cv,by rw [←HAV.out];rfl,HRD.out⟩):p:=h
set_option maxRecDepth 100000
theorem Zd8 (l:List GV) (row:List Int) (A A2:Nat→Prop) (w:World) (al ar:Option Addr) (cl cr:Nat) (hl:l.length≤1048576) (hrow:row.length≤64) (hm:∀x∈row,0≤x∧x < (l.length:Int)) (hr:RVs w A l al) (hi:RIs w A2 row ar):
  Calls prog 151 #[.slice al l.length cl,.slice ar row.length cr] w fun e w'=>Below w.heap.size w w'∧∃a cp,e=.returned (.slice a (YC l row).length cp)∧RVs w' (fun b=>A b∨w.heap.size≤b) (YC l row) a:=by
 have HL:=hid (Zug (A':=fun b=>A b∧b < w.heap.size) (fun b h hb=>⟨h,hb⟩) _ _ hr)
 have HI:=hid hi
 have HM:=hid hm
 obtain ⟨i0,hi0,y0,y1,y2⟩:=info_parts US
 clear hr hi hm
 go_enter func151,ntmps151
 go_wp2_with fail
 go_loopg [5,10] (row.length) (fun gk t5 i' wr=>∃(j:Nat) (ps:List (GV×VA)) (v:Value),v=t5∧gk+j=row.length∧i'=.int .i64 j∧Below w.heap.size w wr∧Hid (ps.length=j)∧Hid (ps.map Prod.fst=YC l (row.take j)) ∧
  Hid (wr.ownsRow w.heap.size 24 3 v j (Xd ps))∧Hid (∀q∈ps,RV wr (Own w.heap.size A v) q.1 q.2.a))
 case atStart=>exact ⟨0,[],_,rfl,om,rfl,ZtX,hid rfl,hid rfl,hid (World.ownsRow_nil _ _ _ _),fun q hq=>by simp at hq⟩
 case round=>
  obtain ⟨j,ps,v,rfl,hj,rfl,hb,HPL,HP,HO,HQ⟩:=hrel
  have hz:=hb.size
  by_cases hlt:j < row.length
  ·obtain ⟨b1,o1,rfl,hA1,hbs1,g1⟩:=HI.out.get j hlt
   obtain ⟨x0,x1⟩:=HM.out row[j] (List.getElem_mem hlt)
   obtain ⟨k,hk⟩:∃k:Nat,row[j]=(k:Int):=⟨row[j].toNat,om⟩
   have hkl:k < l.length:=om
   have hkI:(k:Int) < (l.length:Int):=om
   have hst:=UZ l row j hlt k hk hkl
   rw [hk] at g1
   have r0:wr.cell? ⟨b1,o1+j,none⟩=some (.int .i64 k):=(hb.cell hbs1).trans g1
   obtain ⟨b,o,mj,rfl,hA,hbs,g0,gx⟩:=HL.out.get k hkl
   obtain ⟨k0,k1,k2⟩:=At3.1 (g0.ext (ZtY hb) (A:=fun _=>True) trivial)
   have hs1:b < wr.heap.size:=om
   have hs2:b1 < wr.heap.size:=om
   have HST:=hid hst
   clear g0 g1 hk x0 x1 hst
   go_wp2_with (at_builtin;refine wpList_append_lies _ rfl _ _ 22 rfl w.heap.size 24 i0 _ 3 40 underlying22 hi0 y0 y1 y2 rfl (by decide) _ j _ (by rfl) (HO.out.alloc _) ⟨wr.heap.size,0,none⟩ 1 1 [.int .u8 l[k].k,.int .i64 l[k].n,.slice mj.a l[k].l.length mj.c] (by rfl) rfl (UK _ _ _ _ _) (by simp [Value.oneCell']) (by decide) (by unfold maxLen;omega) om (by simp;omega) (wr.heap.size+1) sm ?_;intro g cap w4 hown hgrow hat hlt1)
   have hownk:∀q,v.ownBlock=some q→w.heap.size≤q:=fun q e=>(HO.out.lt _ e).1
   have hbw1:Below w.heap.size wr w4:=Below.grown ((Below.refl _ _).alloc om _) hgrow (by simp;omega) hownk
   have hag2:Agree (Own w.heap.size A v) wr (wr.alloc (.cells #[.int .u8 l[k].k,.int .i64 l[k].n,.slice mj.a l[k].l.length mj.c] 24)):=ZtY ((Below.refl _ _).alloc (Nat.le_refl _) _)
   go_roundg (gk - 1)
   case measure=>omega
   case rel=>
    refine ⟨j+1,ps++[(l[k],mj)],_,rfl,om,by go_num,hb.trans hbw1,hid (by have:=HPL.out;simp;omega),hid (by rw [List.map_append,HP.out,HST.out];rfl),hid ?_,?_⟩
    ·rw [X3];exact hown
    intro q hq
    rcases List.mem_append.1 hq with hq|hq
    ·exact RV.own hgrow hownk hat sm (Zt5 hag2 _ _ (HQ.out q hq))
    simp at hq
    subst hq
    exact RV.own hgrow hownk hat sm (Zt5 hag2 _ _ (Zt9 (fun b h _=>.inl h) _ _ (Zt5 (ZtY hb) _ _ gx)))
  have hjl:j=row.length:=om
  have hst:=HP.out
  rw [hjl,List.take_length] at hst
  have hE:=VK (A:=fun b=>A b∨w.heap.size≤b) HO.out (fun b h=>.inr h) (fun q hq=>Zt9 (fun b hb _=>by rcases hb with ⟨h,_⟩|⟨h,_⟩;exact .inl h;exact .inr h) _ _ (HQ.out q hq))
  exact qf4
set_option maxRecDepth 512
def Vc:List (GT×TA)→List Value
 | []=>[]
 | (x,m)::r=>[.int .u8 x.k,.int .u8 x.v.k,.int .i64 x.v.n,.slice m.va x.v.l.length m.vc,.slice m.vsa x.vs.length m.vsc,.int .i64 x.lo,.int .i64 x.hi,.slice m.wa x.w.length m.wc,.int .u8 x.p.k,.int .u8 x.p.v.k,.int .i64 x.p.v.n,.slice m.pva x.p.v.l.length m.pvc,.int .i64 x.p.n,.slice m.pa x.p.a.length m.pc,.slice m.a x.a.length m.c]++Vc r
theorem Ja:∀ps:List (GT×TA),(Vc ps).length=ps.length*15
 | []=>rfl
 | (x,m)::r=>by simp only [Vc,List.length_append,List.length_cons,List.length_nil,Ja r];omega
theorem WF:∀ps qs:List (GT×TA),Vc (ps++qs)=Vc ps++Vc qs
 | [],qs=>rfl
 | (x,m)::r,qs=>by simp only [List.cons_append,Vc,WF r qs,List.nil_append]
theorem KW {w:World} {g:Nat} {A:Nat→Prop} (hA:A g):∀(ps:List (GT×TA)) (o:Nat),(∀j u,(Vc ps)[j]? =some u→w.cell? ⟨g,o+j,none⟩=some u)→(∀p∈ps,RT w A p.1 p.2)→RTs w A (ps.map Prod.fst) (some ⟨g,o,none⟩)
 | [],o,_,_=>by simp only [List.map_nil,RTs]
 | (x,m)::r,o,h,hr=>by
  simp only [List.map_cons,RTs]
  refine ⟨g,o,m,rfl,hA,?_,hr (x,m) sm,KW hA r (o+15) (fun j u hj=>?_) fun p hp=>hr p (by simp [hp])⟩
  ·rw [Yp]
   exact ⟨h 0 _ rfl,h 1 _ rfl,h 2 _ rfl,h 3 _ rfl,h 4 _ rfl,h 5 _ rfl,h 6 _ rfl,h 7 _ rfl,h 8 _ rfl,h 9 _ rfl,h 10 _ rfl,h 11 _ rfl,h 12 _ rfl,h 13 _ rfl,h 14 _ rfl⟩
  have:=h (j+15) u (by simpa [Vc] using hj)
  rw [show o+15+j=o+(j+15) by omega];exact this
theorem VJ {w:World} {base e n:Nat} {v:Value} {ps:List (GT×TA)} {A:Nat→Prop} (h:w.ownsRow base e 15 v n (Vc ps)) (hA:∀b,base≤b→A b) (hr:∀p∈ps,RT w A p.1 p.2):∃a c,v=.slice a (ps.map Prod.fst).length c∧RTs w A (ps.map Prod.fst) a:=by
 have hn:ps.length=n:=by have:=h.1;rw [Ja] at this;omega
 rcases h.2 with ⟨rfl,h0⟩|⟨g,cap,cur,rfl,hb,h3⟩
 ·have hz:ps=[]:=List.eq_nil_of_length_eq_zero om
  subst hz
  exact ⟨none,0,rfl,by simp only [List.map_nil,RTs]⟩
 refine ⟨_,cap,by rw [List.length_map,hn],KW (hA _ hb) ps 0 (fun j u hj=>?_) hr⟩
 have hl:=h.1
 have hj2:=(List.getElem?_eq_some_iff.1 hj).1
 rw [Nat.zero_add,h.cellAt j om];exact hj
theorem Uy:(prog.info? 31).map (fun i=>(i.zero,i.size,i.bytes))=some (some (.agg #[.int .u8 0,.int .u8 0,.int .i64 0,.slice none 0 0,.slice none 0 0,.int .i64 0,.int .i64 0,.slice none 0 0,.int .u8 0,.int .u8 0,.int .i64 0,.slice none 0 0,.int .i64 0,.slice none 0 0,.slice none 0 0]),15,216):=kr
set_option maxRecDepth 100000
theorem Y4 (l:List GT) (row:List Int) (A A2:Nat→Prop) (w:World) (al ar:Option Addr) (cl cr:Nat) (hl:l.length≤1048576) (hrow:row.length≤64) (hm:∀x∈row,0≤x∧x < (l.length:Int)) (hr:RTs w A l al) (hi:RIs w A2 row ar):
  Calls prog 154 #[.slice al l.length cl,.slice ar row.length cr] w fun e w'=>Below w.heap.size w w'∧∃a cp,e=.returned (.slice a (YC l row).length cp)∧RTs w' (fun b=>A b∨w.heap.size≤b) (YC l row) a:=by
 have HL:=hid (RTs.mono (A':=fun b=>A b∧b < w.heap.size) (fun b h hb=>⟨h,hb⟩) _ _ hr)
 have HI:=hid hi
 have HM:=hid hm
 obtain ⟨i0,hi0,y0,y1,y2⟩:=info_parts Uy
 clear hr hi hm
 go_enter func154,ntmps154
 go_wp2_with fail
 go_loopg [5,10] (row.length) (fun gk t5 i' wr=>∃(j:Nat) (ps:List (GT×TA)) (v:Value),v=t5∧gk+j=row.length∧i'=.int .i64 j∧Below w.heap.size w wr∧Hid (ps.length=j)∧Hid (ps.map Prod.fst=YC l (row.take j)) ∧
  Hid (wr.ownsRow w.heap.size 31 15 v j (Vc ps))∧Hid (∀q∈ps,RT wr (Own w.heap.size A v) q.1 q.2))
 case atStart=>exact ⟨0,[],_,rfl,om,rfl,ZtX,hid rfl,hid rfl,hid (World.ownsRow_nil _ _ _ _),fun q hq=>by simp at hq⟩
 case round=>
  obtain ⟨j,ps,v,rfl,hj,rfl,hb,HPL,HP,HO,HQ⟩:=hrel
  have hz:=hb.size
  by_cases hlt:j < row.length
  ·obtain ⟨b1,o1,rfl,hA1,hbs1,g1⟩:=HI.out.get j hlt
   obtain ⟨x0,x1⟩:=HM.out row[j] (List.getElem_mem hlt)
   obtain ⟨k,hk⟩:∃k:Nat,row[j]=(k:Int):=⟨row[j].toNat,om⟩
   have hkl:k < l.length:=om
   have hkI:(k:Int) < (l.length:Int):=om
   have hst:=UZ l row j hlt k hk hkl
   rw [hk] at g1
   have r0:wr.cell? ⟨b1,o1+j,none⟩=some (.int .i64 k):=(hb.cell hbs1).trans g1
   obtain ⟨b,o,mj,rfl,hA,hbs,g0,gx⟩:=HL.out.get k hkl
   obtain ⟨z0,z1,z2,z3,z4,z5,z6,z7,z8,z9,za,zb,zc,zd,ze⟩:=Yp.1 (g0.ext (ZtY hb) (A:=fun _=>True) trivial)
   have hs1:b < wr.heap.size:=om
   have hs2:b1 < wr.heap.size:=om
   have HST:=hid hst
   clear g0 g1 hk x0 x1 hst
   go_wp2_with (at_builtin;refine wpList_append_lies _ rfl _ _ 29 rfl w.heap.size 31 i0 _ 15 216 underlying29 hi0 y0 y1 y2 rfl (by decide) _ j _ (by rfl) (HO.out.alloc _) ⟨wr.heap.size,0,none⟩ 1 1 [.int .u8 l[k].k,.int .u8 l[k].v.k,.int .i64 l[k].v.n,.slice mj.va l[k].v.l.length mj.vc,.slice mj.vsa l[k].vs.length mj.vsc,.int .i64 l[k].lo,.int .i64 l[k].hi,.slice mj.wa l[k].w.length mj.wc,.int .u8 l[k].p.k,.int .u8 l[k].p.v.k,.int .i64 l[k].p.v.n,.slice mj.pva l[k].p.v.l.length mj.pvc,.int .i64 l[k].p.n,.slice mj.pa l[k].p.a.length mj.pc,.slice mj.a l[k].a.length mj.c] (by rfl) rfl (fun j u hu=>World.news_of_block (heap_alloc_new wr _) j u (by simpa using hu)) (by simp [Value.oneCell']) (by decide) (by unfold maxLen;omega) om (by simp;omega) (wr.heap.size+1) sm ?_;intro g cap w4 hown hgrow hat hlt1)
   have hownk:∀q,v.ownBlock=some q→w.heap.size≤q:=fun q e=>(HO.out.lt _ e).1
   have hbw1:Below w.heap.size wr w4:=Below.grown ((Below.refl _ _).alloc om _) hgrow (by simp;omega) hownk
   have hag2:Agree (Own w.heap.size A v) wr (wr.alloc (.cells #[.int .u8 l[k].k,.int .u8 l[k].v.k,.int .i64 l[k].v.n,.slice mj.va l[k].v.l.length mj.vc,.slice mj.vsa l[k].vs.length mj.vsc,.int .i64 l[k].lo,.int .i64 l[k].hi,.slice mj.wa l[k].w.length mj.wc,.int .u8 l[k].p.k,.int .u8 l[k].p.v.k,.int .i64 l[k].p.v.n,.slice mj.pva l[k].p.v.l.length mj.pvc,.int .i64 l[k].p.n,.slice mj.pa l[k].p.a.length mj.pc,.slice mj.a l[k].a.length mj.c] 31)):=ZtY ((Below.refl _ _).alloc (Nat.le_refl _) _)
   go_roundg (gk - 1)
   case measure=>omega
   case rel=>
    refine ⟨j+1,ps++[(l[k],mj)],_,rfl,om,by go_num,hb.trans hbw1,hid (by have:=HPL.out;simp;omega),hid (by rw [List.map_append,HP.out,HST.out];rfl),hid ?_,?_⟩
    ·rw [WF];exact hown
    intro q hq
    rcases List.mem_append.1 hq with hq|hq
    ·exact RT.own hgrow hownk hat sm (Zt2 hag2 _ _ (HQ.out q hq))
    simp at hq
    subst hq
    exact RT.own hgrow hownk hat sm (Zt2 hag2 _ _ (Zud (fun b h _=>.inl h) _ _ (Zt2 (ZtY hb) _ _ gx)))
  have hjl:j=row.length:=om
  have hst:=HP.out
  rw [hjl,List.take_length] at hst
  have hE:=VJ (A:=fun b=>A b∨w.heap.size≤b) HO.out (fun b h=>.inr h) (fun q hq=>Zud (fun b hb _=>by rcases hb with ⟨h,_⟩|⟨h,_⟩;exact .inl h;exact .inr h) _ _ (HQ.out q hq))
  exact qf4
set_option maxRecDepth 512
mutual
def UB (s:GT):GT→GT
 | ⟨k,v,vs,lo,hi,ws,p,l⟩=>if k=11 then s else ⟨k,v,vs,lo,hi,ws,p,YH s k 0 l⟩
def YH (s:GT) (k:Int) (i:Nat):List GT→List GT
 | []=>[]
 | x::l=>(if ZU k i=true then x else UB s x)::YH s k (i+1) l
end
theorem Jo (s t:GT):UB s t=if t.k=11 then s else ⟨t.k,t.v,t.vs,t.lo,t.hi,t.w,t.p,YH s t.k 0 t.a⟩:=by cases t;simp only [UB]
theorem Yb (s:GT) (k:Int):∀(l:List GT) (i:Nat),(YH s k i l).length=l.length
 | [],_=>by simp [YH]
 | x::l,i=>by simp [YH,Yb s k l (i+1)]
theorem ZcH (s:GT) (k:Int):∀(l:List GT) (i j:Nat) (h:j < l.length) (h':j < (YH s k i l).length),(YH s k i l)[j]=if ZU k (i+j)=true then l[j] else UB s l[j]
 | x::l,i,0,_,_=>by simp [YH]
 | x::l,i,j+1,h,h'=>by
  have:=ZcH s k l (i+1) j (by simpa using h) (by rw [Yb];simpa using h)
  simp only [YH,List.getElem_cons_succ]
  rw [this,show i+1+j=i+(j+1) by omega]
theorem ZbH (s:GT) (k:Int) (l:List GT) (j:Nat) (h:j < l.length):(YH s k 0 l).take (j+1)=(YH s k 0 l).take j++[if ZU k j=true then l[j] else UB s l[j]]:=by
 have h':j < (YH s k 0 l).length:=by rw [Yb];exact h
 rw [List.take_succ_eq_append_getElem h',ZcH s k l 0 j h h',Nat.zero_add]
theorem Zfi (k:Int) (v:GV) (vs:List GV) (lo hi:Int) (ws:List Int) (p:GP) (l l':List GT) (h:l'.length=l.length):ZG ⟨k,v,vs,lo,hi,ws,p,l'⟩=ZG ⟨k,v,vs,lo,hi,ws,p,l⟩:=by
 simp only [ZG,Z6,Vo,ZB,Vp,Ya,Zn,h]
mutual
theorem ZcG {b:Bool} {s:GT} (hs:Zp b s):∀(t:GT),Zp true t→Zp b (UB s t)
 | ⟨k,v,vs,lo,hi,ws,p,l⟩,h=>by
  simp only [UB]
  split
  ·exact hs
  rename_i hk
  simp only [Zp] at h ⊢
  refine ⟨?_,fun e=>absurd e hk,ZbG hs k l 0 h.2.2⟩
  rw [Zfi k v vs lo hi ws p l _ (Yb s k l 0)]
  exact h.1
theorem ZbG {b:Bool} {s:GT} (hs:Zp b s) (k:Int):∀(l:List GT) (i:Nat),goodTs true k i l→goodTs b k i (YH s k i l)
 | [],_,_=>by simp only [YH,goodTs]
 | x::l,i,h=>by
  simp only [goodTs,YH] at h ⊢
  refine ⟨?_,ZbG hs k l (i+1) h.2⟩
  cases hb:ZU k i
  ·have:=ZcG hs x (by simpa using h.1)
   simpa using this
  simpa using h.1
end
mutual
theorem Jp {s:GT} (hs:okT s):∀(t:GT),okT t→okT (UB s t)
 | ⟨k,v,vs,lo,hi,ws,p,l⟩,h=>by
  simp only [UB]
  split
  ·exact hs
  simp only [okT] at h ⊢
  obtain ⟨h1,h2,h3,h4,h5,h6,h7,h8,h9⟩:=h
  exact ⟨h1,h2,h3,h4,h5,h6,h7,by rw [Yb];exact h8,Zee hs k l 0 h9⟩
theorem Zee {s:GT} (hs:okT s) (k:Int):∀(l:List GT) (i:Nat),okTs l→okTs (YH s k i l)
 | [],_,_=>by simp only [YH,okTs]
 | x::l,i,h=>by
  simp only [okTs,YH] at h ⊢
  refine ⟨?_,Zee hs k l (i+1) h.2⟩
  split
  ·exact h.1
  exact Jp hs x h.1
end
def Qe (t:GT):GT:=⟨t.k,t.v,t.vs,t.lo - 1,t.hi,t.w,t.p,t.a⟩
theorem KP {t:GT} (hk:t.k=10) (hn:ZG t=0):0≤t.lo∧t.lo≤8∧t.a.length=2:=by
 unfold ZG at hn
 rw [if_neg om] at hn
 by_cases h1:Z6 t=0
 case neg=>rw [if_pos h1] at hn;exact absurd hn h1
 rw [if_neg (by simp [h1])] at hn
 by_cases h2:ZB t=0
 case neg=>rw [if_pos h2] at hn;exact absurd hn h2
 rw [if_neg (by simp [h2])] at hn
 by_cases h3:Ya t=0
 case neg=>rw [if_pos h3] at hn;exact absurd hn h3
 rw [if_neg (by simp [h3])] at hn
 unfold Ya at h3
 rw [if_neg om,if_neg om,if_neg om,if_pos hk] at h3
 unfold Zn Xl at hn
 rw [if_neg om,if_neg om,if_neg om,if_pos hk] at hn
 have hw:Yi t.lo 0 8=true:=by
  cases h:Yi t.lo 0 8
  ·simp [h] at h3
  rfl
 have hw':0≤t.lo∧t.lo≤8:=by simpa [Yi] using hw
 refine ⟨hw'.1,hw'.2,?_⟩
 split at hn
 ·omega
 split at hn
 ·omega
 omega
theorem ZgS {t:GT} (hk:t.k=10) (hl:t.lo≠0) (hn:ZG t=0):ZG (Qe t)=0:=by
 obtain ⟨h0,h1,_⟩:=KP hk hn
 obtain ⟨k,v,vs,lo,hi,ws,p,l⟩:=t
 dsimp only at hk hl h0 h1
 subst hk
 have e1:Yi lo 0 8=true:=by simp [Yi];omega
 have e2:Yi (lo - 1) 0 8=true:=by simp [Yi];omega
 have:Ya ⟨10,v,vs,lo - 1,hi,ws,p,l⟩=Ya ⟨10,v,vs,lo,hi,ws,p,l⟩:=by simp [Ya,e1,e2]
 simp only [ZG,Qe,Z6,Vo,ZB,Vp,Zn] at hn ⊢
 rw [this]
 exact hn
theorem ZgR {t:GT} {b:Bool} (hk:t.k=10) (hl:t.lo≠0) (hg:Zp b t):Zp b (Qe t):=by
 have h:=Zk.1 hg
 exact Zk.2 ⟨ZgS hk hl h.1,h.2.1,h.2.2⟩
theorem ZaL {t:GT} (h0:0 < t.lo) (h:okT t):okT (Qe t):=by
 obtain ⟨h1,h2,h3,⟨h4,h4'⟩,h5⟩:=Ze.1 h
 exact Ze.2 ⟨h1,h2,h3,⟨by show _≤t.lo - 1;omega,by show t.lo - 1≤_;omega⟩,h5⟩
def YY (t:GT) (a b:GT):GT:=if t.lo=0 then a else UB (Qe t) b
theorem UE {t:GT} (hk:t.k=10) (hg:Zp false t) (h2:1 < t.a.length):Zp false (YY t t.a[0] t.a[1]):=by
 have h:=Zk.1 hg
 have g0:=h.2.2.get 0 om
 have g1:=h.2.2.get 1 h2
 unfold YY
 split
 ·simpa [ZU] using g0
 rename_i hl
 exact ZcG (ZgR hk hl hg) _ (by simpa [ZU,hk] using g1)
theorem YE {v:GV} (h:ZQ v=0):Zg v≤4096:=by
 unfold ZQ at h
 split at h
 ·omega
 split at h
 ·omega
 split at h
 ·omega
 omega
def ZhE (w:World) (A:Nat→Prop) (x:GT) (e:Ending) (w':World):Prop:=Below w.heap.size w w'∧∃m:TA,e=.returned (TV x m)∧RT w' (fun b=>A b∨w.heap.size≤b) x m
structure PutM (n:Nat) (t s:GT) (m q:TA) (v:Value) (W:World):Prop where
 sz:n+4≤W.heap.size
 a:At W n 0 [.int .u8 t.k,.int .u8 t.v.k,.int .i64 t.v.n,.slice m.va t.v.l.length m.vc,.slice m.vsa t.vs.length m.vsc,.int .i64 t.lo,.int .i64 t.hi,.slice m.wa t.w.length m.wc,.int .u8 t.p.k,.int .u8 t.p.v.k,.int .i64 t.p.v.n,.slice m.pva t.p.v.l.length m.pvc,.int .i64 t.p.n,.slice m.pa t.p.a.length m.pc,.slice m.a t.a.length m.c]
 b:At W (n+1) 0 [.int .u8 s.k,.int .u8 s.v.k,.int .i64 s.v.n,.slice q.va s.v.l.length q.vc,.slice q.vsa s.vs.length q.vsc,.int .i64 s.lo,.int .i64 s.hi,.slice q.wa s.w.length q.wc,.int .u8 s.p.k,.int .u8 s.p.v.k,.int .i64 s.p.v.n,.slice q.pva s.p.v.l.length q.pvc,.int .i64 s.p.n,.slice q.pa s.p.a.length q.pc,.slice q.a s.a.length q.c]
 c:At W (n+1+1) 0 [.int .u8 0,.int .u8 0,.int .i64 0,.slice none 0 0,.slice none 0 0,.int .i64 0,.int .i64 0,.slice none 0 0,.int .u8 0,.int .u8 0,.int .i64 0,.slice none 0 0,.int .i64 0,.slice none 0 0,.slice none 0 0]
 cf:∀k,W.frozen? ⟨n+1+1,k,none⟩=false
 d:At W (n+1+1+1) 0 [.int .u8 t.k,.int .u8 t.v.k,.int .i64 t.v.n,.slice m.va t.v.l.length m.vc,.slice m.vsa t.vs.length m.vsc,.int .i64 t.lo,.int .i64 t.hi,.slice m.wa t.w.length m.wc,.int .u8 t.p.k,.int .u8 t.p.v.k,.int .i64 t.p.v.n,.slice m.pva t.p.v.l.length m.pvc,.int .i64 t.p.n,.slice m.pa t.p.a.length m.pc,v]
 df:∀k,W.frozen? ⟨n+1+1+1,k,none⟩=false
theorem At.eq {w w':World} {b:Nat} (h:∀o,w'.cell? ⟨b,o,none⟩=w.cell? ⟨b,o,none⟩):∀(l:List Value) (o:Nat),At w b o l→At w' b o l
 | [],_,_=>by simp only [At]
 | v::l,o,hx=>by
  simp only [At] at hx ⊢
  exact ⟨(h o).trans hx.1,At.eq h l _ hx.2⟩
theorem PutM.ext {n:Nat} {t s:GT} {m q:TA} {v:Value} {W W':World} (h:PutM n t s m q v W) (hs:W.heap.size≤W'.heap.size) (hc:∀c o,c < n+4→W'.cell? ⟨c,o,none⟩=W.cell? ⟨c,o,none⟩) (hf:∀c o,c < n+4→W'.frozen? ⟨c,o,none⟩=W.frozen? ⟨c,o,none⟩):PutM n t s m q v W':=
 ⟨Nat.le_trans h.sz hs,At.eq (fun o=>hc _ o om) _ _ h.a,At.eq (fun o=>hc _ o om) _ _ h.b,At.eq (fun o=>hc _ o om) _ _ h.c,fun k=>(hf _ k om).trans (h.cf k),At.eq (fun o=>hc _ o om) _ _ h.d,fun k=>(hf _ k om).trans (h.df k)⟩
theorem At.but {c B:Nat} {w w':World} (h:But c B w w') {b:Nat} (hb:b < B) (hne:b≠c) (l:List Value) (o:Nat) (hx:At w b o l):At w' b o l:=At.eq (fun o=>h.cell (p:=⟨b,o,none⟩) hb hne) l o hx
theorem PutM.set {n:Nat} {t s:GT} {m q:TA} {v:Value} {W:World} (h:PutM n t s m q v W) (u:Value):PutM n t s m q u (W.setCell ⟨n+1+1+1,14,none⟩ u):=by
 have hb:But (n+1+1+1) W.heap.size W (W.setCell ⟨n+1+1+1,14,none⟩ u):=But.setOwn (But.refl _ _ _) _ _
 have hz:=h.sz
 obtain ⟨d0,d1,d2,d3,d4,d5,d6,d7,d8,d9,da,db,dc,dd,de⟩:=ZO.1 h.d
 refine ⟨Nat.le_trans hz hb.size,At.but hb om om _ _ h.a,At.but hb om om _ _ h.b,At.but hb om om _ _ h.c,fun k=>(hb.frozen (p:=⟨_,k,none⟩) (by simp;omega) sm).trans (h.cf k),ZO.2 ⟨?_,?_,?_,?_,?_,?_,?_,?_,?_,?_,?_,?_,?_,?_,?_⟩,fun k=>?_⟩
 all_goals first|(go_simp;done)|(have:=h.df k;go_simp)
theorem X4 {W w4:World} {r:Option Nat} {B:Nat} (hg:W.grownBy w4 r) (ho:∀k,r=some k→B≤k) (hB:B≤W.heap.size):
  (∀c o,c < B→w4.cell? ⟨c,o,none⟩=W.cell? ⟨c,o,none⟩)∧(∀c o,c < B→w4.frozen? ⟨c,o,none⟩=W.frozen? ⟨c,o,none⟩):=
 ⟨fun c o hc=>hg.cell_far ⟨c,o,none⟩ (Nat.lt_of_lt_of_le hc hB) (fun e=>by have:=ho c e.symm;omega),fun c o hc=>hg.frozen_far ⟨c,o,none⟩ (Nat.lt_of_lt_of_le hc hB) (fun e=>by have:=ho c e.symm;omega)⟩
theorem XI {W:World} {n:Nat} (hn:W.heap.size=n) (a b c d e f g h i j k l m o p:Value) (t:TypeId):∀r u,[a,b,c,d,e,f,g,h,i,j,k,l,m,o,p][r]? =some u→(W.alloc (.cells #[a,b,c,d,e,f,g,h,i,j,k,l,m,o,p] t)).cell? ((⟨n,0,none⟩:Addr).add r)=some u:=by
 subst hn
 exact fun r u hu=>World.news_of_block (heap_alloc_new W _) r u (by simpa using hu)
theorem Zix {B n:Nat} {A:Nat→Prop} {v:Value} {W w4:World} {g cap j H:Nat} {ps:List (GT×TA)} {x:GT} {m:TA} (hn:n < B) (hgrow:W.grownBy w4 v.ownBlock) (hown:∀k,v.ownBlock=some k→B≤k) (hat:v.ownBlock=some g∨g=H) (hH:W.heap.size=H) (hB:B≤W.heap.size) (u:Value) (hA:∀b,A b→b < n)
  (hps:∀q∈ps,RT W (Own B A v) q.1 q.2) (hx:RT W (Own B A v) x m):∀q∈ps++[(x,m)],RT (w4.setCell ⟨n,14,none⟩ u) (Own B A (.slice (some ⟨g,0,none⟩) j cap)) q.1 q.2:=by
 intro q hq
 have hs:Agree (Own B A (.slice (some ⟨g,0,none⟩) j cap)) w4 (w4.setCell ⟨n,14,none⟩ u):=Zt4 (p:=⟨n,14,none⟩) (fun h=>by rcases h with ⟨h,_⟩|⟨h,_⟩;exact absurd (hA _ h) sm;exact absurd h (by simp;omega))
 refine Zt2 hs _ _ ?_
 rcases List.mem_append.1 hq with hq|hq
 ·exact RT.own hgrow hown hat hH (hps q hq)
 simp at hq
 subst hq
 exact RT.own hgrow hown hat hH hx
theorem Uj {w wr W w4:World} {A:Nat→Prop} {t s x:GT} {m q mx:TA} {v:Value} {gk j g cap H e:Nat} {ps:List (GT×TA)} (hj:gk+j=t.a.length) (hlt:j < t.a.length) (hb:Below w.heap.size w wr) (hM:PutM w.heap.size t s m q v wr) (hPL:ps.length=j) (hP:ps.map Prod.fst=(YH s t.k 0 t.a).take j) (hst:(YH s t.k 0 t.a).take (j+1)=(YH s t.k 0 t.a).take j++[x])
  (hQ:∀q∈ps,RT wr (Own (w.heap.size+4) (fun b=>A b∧b < w.heap.size) v) q.1 q.2) (hW:Below wr.heap.size wr W) (hx:RT W (Own (w.heap.size+4) (fun b=>A b∧b < w.heap.size) v) x mx) (hown:w4.ownsRow (w.heap.size+4) e 15 (.slice (some ⟨g,0,none⟩) (j+1) cap) (j+1) (Vc ps++[.int .u8 x.k,.int .u8 x.v.k,.int .i64 x.v.n,.slice mx.va x.v.l.length mx.vc,.slice mx.vsa x.vs.length mx.vsc,.int .i64 x.lo,.int .i64 x.hi,.slice mx.wa x.w.length mx.wc,.int .u8 x.p.k,.int .u8 x.p.v.k,.int .i64 x.p.v.n,.slice mx.pva x.p.v.l.length mx.pvc,.int .i64 x.p.n,.slice mx.pa x.p.a.length mx.pc,.slice mx.a x.a.length mx.c]))
  (hgrow:W.grownBy w4 v.ownBlock) (hownk:∀k,v.ownBlock=some k→w.heap.size+4≤k) (hat:v.ownBlock=some g∨g=H) (hH:W.heap.size=H) (hlt1:g < w4.heap.size):
  ∃(j':Nat) (ps':List (GT×TA)) (v':Value),gk - 1+j'=t.a.length∧Value.int .i64 ((j:Int)+1)=.int .i64 j'∧Below w.heap.size w (w4.setCell ⟨w.heap.size+1+1+1,14,none⟩ (.slice (some ⟨g,0,none⟩) (j+1) cap))∧Hid (PutM w.heap.size t s m q v' (w4.setCell ⟨w.heap.size+1+1+1,14,none⟩ (.slice (some ⟨g,0,none⟩) (j+1) cap)))∧Hid (ps'.length=j')∧Hid (ps'.map Prod.fst=(YH s t.k 0 t.a).take j') ∧
   Hid ((w4.setCell ⟨w.heap.size+1+1+1,14,none⟩ (.slice (some ⟨g,0,none⟩) (j+1) cap)).ownsRow (w.heap.size+4) e 15 v' j' (Vc ps'))∧Hid (∀q∈ps',RT (w4.setCell ⟨w.heap.size+1+1+1,14,none⟩ (.slice (some ⟨g,0,none⟩) (j+1) cap)) (Own (w.heap.size+4) (fun b=>A b∧b < w.heap.size) v') q.1 q.2):=by
 have hz:=hM.sz
 have hzW:=hW.size
 have hzg:=hgrow.size
 have hbW:Below w.heap.size w W:=hb.trans (hW.mono om)
 have hbg:Below w.heap.size w w4:=Below.grown hbW hgrow om (fun k hk=>by have:=hownk k hk;omega)
 obtain ⟨hc4,hf4⟩:=X4 hgrow hownk om
 refine ⟨j+1,ps++[(x,mx)],.slice (some ⟨g,0,none⟩) (j+1) cap,om,sm,Below.setCell hbg (by simp;omega) _,hid ?_,hid (by simp;omega),hid (by rw [List.map_append,hP,hst];rfl),hid ?_,hid ?_⟩
 ·refine PutM.set (v:=v) (PutM.ext hM om ?_ ?_) _
  ·intro c i hc;rw [hc4 c i hc];exact hW.cell (p:=⟨c,i,none⟩) (by simp;omega)
  intro c i hc;rw [hf4 c i hc];exact hW.frozen (p:=⟨c,i,none⟩) (by simp;omega)
 ·rw [WF]
  exact Vf (c:=w.heap.size+1+1+1) (B:=w4.heap.size) hown (But.setOwn (But.refl _ _ _) _ _) (fun k hk=>by have e:k=g:=(by cases hk;rfl);rw [e];exact ⟨hlt1,by rcases hat with h|h;have:=hownk _ h;omega;omega⟩)
 exact Zix om hgrow hownk hat hH om _ (fun b h=>by have:=h.2;omega) (fun q hq=>Zt2 (ZtY hW) _ _ (hQ q hq)) hx
abbrev ZhD (N:Nat):Prop:=∀(t s:GT) (w:World) (A:Nat→Prop) (m q:TA),Zb t≤N→okT t→RT w A t m→RT w A s q →
  Calls prog 184 #[TV t m,TV s q] w (ZhE w A (UB s t))
theorem qf0 {p:Prop} (h:p:=by
 refine rch (fun K hK=>?_) ?_
 ·go_simp
  refine hK.out _ _ ?_ (fun hHeld=>?_)
  ·((try dsimp only);(refine ⟨gs,fun k=>gs,fun k=>gs⟩))
  clear hK K
  refine wpAnyH_ready (rs:=[10]) kr sm ?_
  refine rch (fun K hK=>?_) ?_
  ·(refine step_append_lies _ rfl _ _ 29 rfl (w.heap.size+4) 31 i0 _ 15 216 underlying29 hi0 y0 y1 y2 rfl (by decide) v j _ (by rfl) ((ZR HO.out (B:=wr.heap.size) hbr2 HOK.out).alloc _) ⟨w2.heap.size,0,none⟩ 1 1 [.int .u8 X.k,.int .u8 X.v.k,.int .i64 X.v.n,.slice m2.va X.v.l.length m2.vc,.slice m2.vsa X.vs.length m2.vsc,.int .i64 X.lo,.int .i64 X.hi,.slice m2.wa X.w.length m2.wc,.int .u8 X.p.k,.int .u8 X.p.v.k,.int .i64 X.p.v.n,.slice m2.pva X.p.v.l.length m2.pvc,.int .i64 X.p.n,.slice m2.pa X.p.a.length m2.pc,.slice m2.a X.a.length m2.c] (by rfl) rfl (XI rfl _ _ _ _ _ _ _ _ _ _ _ _ _ _ _ _) (by simp [Value.oneCell']) (by decide) (by unfold maxLen;omega) om (by simp;omega) (w2.heap.size+1) sm ?_;intro g cap w4 hown hgrow hat hlt1;have hbg:Below w.heap.size w w4:=Below.grown (by exact ZtZ) hgrow (by simp;omega) (fun k hk=>by have:=HOWN.out k hk;omega);obtain ⟨hc4,hf4⟩:=X4 hgrow HOWN.out (by simp;omega);have hz4:=hgrow.size;(try simp at hz4))
   refine hK.out _ _ ?_ (fun hHeld=>?_)
   ·((try dsimp only);(refine ⟨gs,fun k=>gs,fun k=>gs⟩))
   clear hK K
   refine tzh 11 ?_
   try simp only [Act.put,sl,s0,ss]
   refine wpAnyH_ready (rs:=[12]) kr sm ?_
   refine rch (fun K hK=>?_) ?_
   ·go_simp
    refine hK.out _ _ ?_ (fun hHeld=>?_)
    ·((try dsimp only);(refine ⟨gs,fun k=>gs,fun k=>gs⟩))
    clear hK K
    refine wpAnyH_done kr ?_ _
    (go_wp2_with fail;go_roundg (gk - 1);(case measure=>omega);exact Uj hj hlt hb HM.out HPL.out HP.out HST.out HQ.out ZtZ (Zud (fun c hc _=>by rcases hc with h|h;exact .inl ⟨h,om⟩;exact .inr ⟨om,fun e=>by have:=HOK.out _ e;omega⟩) _ _ (Zt2 (ZtY ((Below.refl _ _).alloc (Nat.le_refl _) _)) _ _ HRT.out)) hown hgrow HOWN.out hat sm hlt1)
   exact AllReadyH.nil
  exact AllReadyH.nil
 exact AllReadyH.nil):p:=h
theorem qf5 {p:Prop} (h:p:=by
 refine hK.out _ _ ?_ (fun hHeld=>?_)
 ·((try dsimp only);(refine ⟨gs,fun k=>gs,fun k=>gs⟩))
 clear hK K
 refine wpAnyH_ready (rs:=[9]) kr sm ?_
 exact qf0):p:=h
theorem qf1 {p:Prop} (h:p:=by
 go_wp2_with fail
 refine wp_region_held_drew (S:=(fun W=>W.cell? ⟨w.heap.size,14,none⟩=some (.slice (some ⟨b,o,none⟩) t.a.length ml)∧(∀k,W.cell? ⟨b,k,none⟩=wr.cell? ⟨b,k,none⟩)∧∀k,W.cell? ⟨w.heap.size+1,k,none⟩=wr.cell? ⟨w.heap.size+1,k,none⟩)) kr ?_ (fun hHeld=>?_)
 ·((try dsimp only);(refine ⟨gs,fun k=>gs,fun k=>gs⟩))
 refine tzh 0 ?_
 try simp only [Act.put,sl,s0,ss]
 refine tzh 2 ?_
 try simp only [Act.put,sl,s0,ss]
 refine tzh 3 ?_
 try simp only [Act.put,sl,s0,ss]
 refine tzh 4 ?_
 try simp only [Act.put,sl,s0,ss]
 refine tzh 5 ?_
 try simp only [Act.put,sl,s0,ss]
 refine tzh 6 ?_
 try simp only [Act.put,sl,s0,ss]
 refine tzh 7 ?_
 try simp only [Act.put,sl,s0,ss]
 refine wpAnyH_ready (rs:=[1,8]) kr sm ?_
 refine rch (fun K hK=>?_) ?_
 ·go_simp
  refine hK.out _ _ ?_ (fun hHeld=>?_)
  ·((try dsimp only);(refine ⟨gs,fun k=>gs,fun k=>gs⟩))
  clear hK K
  refine wpAnyH_ready (rs:=[8]) kr sm ?_
  refine rch (fun K hK=>?_) ?_
  ·go_simp
   go_wp2_with (go_at_call 184;(with_reducible refine (HC.out _ mj' ⟨na,nb,nc,nd,ne,nf,ng,nh,ni,nj,nk,nl⟩ (by exact Zt2 ar _ _ gx) (by exact Zt2 ar _ _ HS.out)).mono ?_);rintro e w2 ⟨hb2,m2,rfl,hrt⟩;have HRT:Hid (RT w2 (fun c=>(A c∧c < w.heap.size)∨wr.heap.size≤c) X m2):=hid hrt;clear hrt;have hz2:=hb2.size;(try simp at hz2);have hbr2:Below wr.heap.size wr w2:=ZtZ;have hw2:w.heap.size+4≤w2.heap.size:=om;have v0:w.heap.size < w2.heap.size:=om;have v1:w.heap.size+1 < w2.heap.size:=om;have v3:w.heap.size+1+1+1 < w2.heap.size:=om;have vb:b < w2.heap.size:=om;have yb:∀k,w2.cell? ⟨b,k,none⟩=wr.cell? ⟨b,k,none⟩:=(fun k=>hbr2.cell (p:=⟨b,k,none⟩) hs1);have yn1:∀k,w2.cell? ⟨w.heap.size+1,k,none⟩=wr.cell? ⟨w.heap.size+1,k,none⟩:=(fun k=>hbr2.cell (p:=⟨w.heap.size+1,k,none⟩) u1);have ya:=(hbr2.cell (p:=⟨w.heap.size,14,none⟩) u0).trans ae;have yd:=(hbr2.cell (p:=⟨w.heap.size+1+1+1,14,none⟩) u3).trans de;have yf:∀k,w2.frozen? ⟨w.heap.size+1+1+1,k,none⟩=false:=(fun k=>(hbr2.frozen (p:=⟨w.heap.size+1+1+1,k,none⟩) u3).trans (df k)))
   exact qf5
  exact AllReadyH.nil
 refine rch (fun K hK=>?_) ?_
 ·go_simp
  go_wp2_with (go_at_call 184;(with_reducible refine (HC.out _ mj' ⟨na,nb,nc,nd,ne,nf,ng,nh,ni,nj,nk,nl⟩ (by exact Zt2 ar _ _ gx) (by exact Zt2 ar _ _ HS.out)).mono ?_);rintro e w2 ⟨hb2,m2,rfl,hrt⟩;have HRT:Hid (RT w2 (fun c=>(A c∧c < w.heap.size)∨wr.heap.size≤c) X m2):=hid hrt;clear hrt;have hz2:=hb2.size;(try simp at hz2);have hbr2:Below wr.heap.size wr w2:=ZtZ;have hw2:w.heap.size+4≤w2.heap.size:=om;have v0:w.heap.size < w2.heap.size:=om;have v1:w.heap.size+1 < w2.heap.size:=om;have v3:w.heap.size+1+1+1 < w2.heap.size:=om;have vb:b < w2.heap.size:=om;have yb:∀k,w2.cell? ⟨b,k,none⟩=wr.cell? ⟨b,k,none⟩:=(fun k=>hbr2.cell (p:=⟨b,k,none⟩) hs1);have yn1:∀k,w2.cell? ⟨w.heap.size+1,k,none⟩=wr.cell? ⟨w.heap.size+1,k,none⟩:=(fun k=>hbr2.cell (p:=⟨w.heap.size+1,k,none⟩) u1);have ya:=(hbr2.cell (p:=⟨w.heap.size,14,none⟩) u0).trans ae;have yd:=(hbr2.cell (p:=⟨w.heap.size+1+1+1,14,none⟩) u3).trans de;have yf:∀k,w2.frozen? ⟨w.heap.size+1+1+1,k,none⟩=false:=(fun k=>(hbr2.frozen (p:=⟨w.heap.size+1+1+1,k,none⟩) u3).trans (df k)))
  refine hK.out _ _ ?_ (fun hHeld=>?_)
  ·((try dsimp only);(refine ⟨gs,fun k=>gs,fun k=>gs⟩))
  clear hK K
  refine wpAnyH_ready (rs:=[1,9]) kr sm ?_
  refine rch (fun K hK=>?_) ?_
  ·go_simp
   exact qf5
  refine rch (fun K hK=>?_) ?_
  ·go_simp
   refine hK.out _ _ ?_ (fun hHeld=>?_)
   ·((try dsimp only);(refine ⟨gs,fun k=>gs,fun k=>gs⟩))
   clear hK K
   refine wpAnyH_ready (rs:=[1]) kr sm ?_
   exact qf0
  exact AllReadyH.nil
 exact AllReadyH.nil):p:=h
theorem qf3 {p:Prop} (h:p:=by
 have hjl:j=t.a.length:=om
 have hst:=HP.out
 rw [hjl,List.take_of_length_le (by rw [Yb];omega)] at hst
 have hE:=VJ (A:=fun b=>(A b∧b < w.heap.size)∨w.heap.size+4≤b) HO.out (fun b h=>.inr om) (fun q hq=>Zud (fun b hb _=>by rcases hb with ⟨h,_⟩|⟨h,_⟩;exact .inl h;exact .inr h) _ _ (HQ.out q hq))
 obtain ⟨av,cv,hav,hrd⟩:=hE
 rw [hst] at hav hrd
 rw [Yb] at hav
 subst hav
 have HRD:=hid hrd
 obtain ⟨a0, -, -, -, -, -, -, -, -, -, -, -, -, -,ae⟩:=ZO.1 HM.out.a
 obtain ⟨c0,c1,c2,c3,c4,c5,c6,c7,c8,c9,ca,cb,cc,cd,ce⟩:=ZO.1 HM.out.c
 obtain ⟨d0,d1,d2,d3,d4,d5,d6,d7,d8,d9,da,db,dc,dd,de⟩:=ZO.1 HM.out.d
 have cf:=HM.out.cf
 have u2:w.heap.size+1+1 < wr.heap.size:=om
 clear hst hrd
 go_wp2_with fail
 refine bodyPost_ret (v:=TV ⟨t.k,t.v,t.vs,t.lo,t.hi,t.w,t.p,YH s t.k 0 t.a⟩ ⟨ma,mb,mc,md,me,mf,mg,mh,mi,mj,av,cv⟩) (by simp [results,Tryz.f184,go_sem,Yb,c0,c1,c2,c3,c4,c5,c6,c7,c8,c9,ca,cb,cc,cd,ce,cf,u2]) rfl ?_
 obtain ⟨r1,r2,r3,r4, -⟩:=Zo.1 (Zud (A':=fun b=>(A b∧b < w.heap.size)∨w.heap.size+4≤b) (fun b h _=>.inl h) _ _ (Zt2 (ZtY hb) _ _ HT.out))
 exact ⟨ZtZ,_,rfl,Zud (fun b h _=>by rcases h with h|h;exact .inl h.1;exact .inr om) _ _ (Zt2 (A:=fun b=>(A b∧b < w.heap.size)∨w.heap.size+4≤b) (fun p v hA hc=>Zt0 (c:=w.heap.size+1+1) But.r p v (fun e=>by rcases hA with h|h;have:=h.2;omega;omega) hc) _ _ (Zo.2 ⟨r1,r2,r3,r4,HRD.out⟩))⟩):p:=h
set_option maxRecDepth 100000
set_option maxHeartbeats 16000000
theorem Ziy (N:Nat) (ih:ZhD N) (t s:GT) (w:World) (A:Nat→Prop) (m q:TA) (hN:Zb t≤N+1) (ox:okT t) (hl:RT w A t m) (hs:RT w A s q) (hk:¬t.k=11) (hk0:¬t.k=10):
  Calls prog 184 #[TV t m,TV s q] w (ZhE w A (UB s t)):=by
 obtain ⟨ma,mb,mc,md,me,mf,mg,mh,mi,mj,mk,ml⟩:=m
 obtain ⟨na,nb,nc,nd,ne,nf,ng,nh,ni,nj,nk,nl⟩:=q
 have IH:=hid ih
 have HT:=hid (Zud (A':=fun b=>A b∧b < w.heap.size) (fun b h hb=>⟨h,hb⟩) _ _ hl)
 have HS:=hid (Zud (A':=fun b=>A b∧b < w.heap.size) (fun b h hb=>⟨h,hb⟩) _ _ hs)
 have HL:=hid (Zo.1 HT.out).2.2.2.2
 obtain ⟨-, -, -, -, -, -, -,oal,oa⟩:=Ze.1 ox
 have O:=hid oa
 have hse:=Zq t
 clear ih hl hs ox oa
 have hk10:(t.k==10)=false:=by simp [hk0]
 rw [Jo,if_neg hk]
 have hk':(t.k==11)=false:=by simp [hk]
 obtain ⟨i0,hi0,y0,y1,y2⟩:=info_parts Uy
 clear hk
 go_enter func184,ntmps184
 go_wp2_with fail
 go_loopg [6] (t.a.length) (fun gk t6 wr=>∃(j:Nat) (ps:List (GT×TA)) (v:Value),gk+j=t.a.length∧t6=.int .i64 j∧Below w.heap.size w wr∧Hid (PutM w.heap.size t s ⟨ma,mb,mc,md,me,mf,mg,mh,mi,mj,mk,ml⟩ ⟨na,nb,nc,nd,ne,nf,ng,nh,ni,nj,nk,nl⟩ v wr)∧Hid (ps.length=j)∧Hid (ps.map Prod.fst=(YH s t.k 0 t.a).take j)∧Hid (wr.ownsRow (w.heap.size+4) 31 15 v j (Vc ps))∧Hid (∀q∈ps,RT wr (Own (w.heap.size+4) (fun b=>A b∧b < w.heap.size) v) q.1 q.2))
 case atStart=>exact ⟨0,[],.slice none 0 0,om,rfl,ZtZ,hid ⟨sm,ZO.2 ⟨gs,gs,gs,gs,gs,gs,gs,gs,gs,gs,gs,gs,gs,gs,gs⟩,ZO.2 ⟨gs,gs,gs,gs,gs,gs,gs,gs,gs,gs,gs,gs,gs,gs,gs⟩,ZO.2 ⟨gs,gs,gs,gs,gs,gs,gs,gs,gs,gs,gs,gs,gs,gs,gs⟩,fun k=>gs,ZO.2 ⟨gs,gs,gs,gs,gs,gs,gs,gs,gs,gs,gs,gs,gs,gs,gs⟩,fun k=>gs⟩,hid rfl,hid rfl,hid (World.ownsRow_nil _ _ _ _),hid (fun q hq=>by simp at hq)⟩
 case round=>
  obtain ⟨j,ps,v,hj,rfl,hb,HM,HPL,HP,HO,HQ⟩:=hrel
  have hz:=HM.out.sz
  by_cases hlt:j < t.a.length
  ·obtain ⟨b,o,mj',rfl,hA,hbs,g0,gx⟩:=HL.out.get j hlt
   have hbw:=hA.2
   obtain ⟨k0,k1,k2,k3,k4,k5,k6,k7,k8,k9,ka,kb,kc,kd,ke⟩:=Yp.1 (g0.ext (ZtY hb) (A:=fun _=>True) trivial)
   obtain ⟨a0, -, -, -, -, -, -, -, -, -, -, -, -, -,ae⟩:=ZO.1 HM.out.a
   obtain ⟨b0,b1,b2,b3,b4,b5,b6,b7,b8,b9,ba,bb,bc,bd,be⟩:=ZO.1 HM.out.b
   obtain ⟨-, -, -, -, -, -, -, -, -, -, -, -, -, -,de⟩:=ZO.1 HM.out.d
   have df:=HM.out.df
   have u0:w.heap.size < wr.heap.size:=om
   have u1:w.heap.size+1 < wr.heap.size:=om
   have u3:w.heap.size+1+1+1 < wr.heap.size:=om
   have hs1:b < wr.heap.size:=om
   have hb4:b < w.heap.size+4:=om
   have hb5:¬b=w.heap.size+1+1+1:=om
   have HOK:=hid (show ∀k,v.ownBlock=some k→k < wr.heap.size from fun k hk=>(HO.out.lt _ hk).2)
   have HOWN:=hid (show ∀k,v.ownBlock=some k→w.heap.size+4≤k from fun k hk=>(HO.out.lt _ hk).1)
   have hst:=ZbH s t.k t.a j hlt
   have hsj:=ZD t.a j hlt
   have HC:=hid (fun (W:World) (m1 m2:TA) (h1:RT W (fun b=>A b∧b < w.heap.size) (t.a[j]'hlt) m1) (h2:RT W (fun b=>A b∧b < w.heap.size) s m2)=>IH.out (t.a[j]'hlt) s W (fun b=>A b∧b < w.heap.size) m1 m2 om (O.out.get j hlt) h1 h2)
   clear g0
   have hsb:ZU t.k j=false:=by simp [ZU,hk10]
   rw [hsb,if_neg sm] at hst
   generalize UB s t.a[j]=X at HC hst
   have HST:=hid hst
   clear hst hsb
   exact qf1
  exact qf3
set_option maxRecDepth 512
theorem qf2 {p:Prop} (h:p:=by
 refine rch (fun K hK=>?_) ?_
 ·go_simp
  refine hK.out _ _ ?_ (fun hHeld=>?_)
  ·((try dsimp only);(refine ⟨gs,fun k=>gs,fun k=>gs⟩))
  clear hK K
  refine wpAnyH_ready (rs:=[8]) kr sm ?_
  refine rch (fun K hK=>?_) ?_
  ·(refine step_append_lies _ rfl _ _ 29 rfl (w.heap.size+4) 31 i0 _ 15 216 underlying29 hi0 y0 y1 y2 rfl (by decide) v j _ (by rfl) (World.ownsRow.alloc (by exact HO.out) _) ⟨wr.heap.size,0,none⟩ 1 1 [.int .u8 t.a[j].k,.int .u8 t.a[j].v.k,.int .i64 t.a[j].v.n,.slice mj'.va t.a[j].v.l.length mj'.vc,.slice mj'.vsa t.a[j].vs.length mj'.vsc,.int .i64 t.a[j].lo,.int .i64 t.a[j].hi,.slice mj'.wa t.a[j].w.length mj'.wc,.int .u8 t.a[j].p.k,.int .u8 t.a[j].p.v.k,.int .i64 t.a[j].p.v.n,.slice mj'.pva t.a[j].p.v.l.length mj'.pvc,.int .i64 t.a[j].p.n,.slice mj'.pa t.a[j].p.a.length mj'.pc,.slice mj'.a t.a[j].a.length mj'.c] (by rfl) rfl (XI rfl _ _ _ _ _ _ _ _ _ _ _ _ _ _ _ _) (by simp [Value.oneCell']) (by decide) (by unfold maxLen;omega) om (by simp;omega) (wr.heap.size+1) sm ?_;intro g cap w4 hown hgrow hat hlt1;have hbg:Below w.heap.size w w4:=Below.grown (by exact ZtZ) hgrow (by simp;omega) (fun k hk=>by have:=HOWN.out k hk;omega);obtain ⟨hc4,hf4⟩:=X4 hgrow HOWN.out (by simp;omega);have hz4:=hgrow.size;(try simp at hz4))
   refine hK.out _ _ ?_ (fun hHeld=>?_)
   ·((try dsimp only);(refine ⟨gs,fun k=>gs,fun k=>gs⟩))
   clear hK K
   refine tzh 9 ?_
   try simp only [Act.put,sl,s0,ss]
   refine wpAnyH_ready (rs:=[10]) kr sm ?_
   refine rch (fun K hK=>?_) ?_
   ·go_simp
    refine hK.out _ _ ?_ (fun hHeld=>?_)
    ·((try dsimp only);(refine ⟨gs,fun k=>gs,fun k=>gs⟩))
    clear hK K
    refine wpAnyH_done kr ?_ _
    (go_wp2_with fail;go_roundg (gk - 1);(case measure=>omega);exact Uj hj hlt hb HM.out HPL.out HP.out HST.out HQ.out ZtZ (Zud (fun c hc _=>.inl ⟨hc,by have:=hc.2;omega⟩) _ _ (Zt2 ar _ _ gx)) hown hgrow HOWN.out hat sm hlt1)
   exact AllReadyH.nil
  exact AllReadyH.nil
 exact AllReadyH.nil):p:=h
set_option maxRecDepth 100000
theorem Zhc (N:Nat) (ih:ZhD N) (t s:GT) (w:World) (A:Nat→Prop) (m q:TA) (hN:Zb t≤N+1) (ox:okT t) (hl:RT w A t m) (hs:RT w A s q) (hk0:t.k=10):
  Calls prog 184 #[TV t m,TV s q] w (ZhE w A (UB s t)):=by
 obtain ⟨ma,mb,mc,md,me,mf,mg,mh,mi,mj,mk,ml⟩:=m
 obtain ⟨na,nb,nc,nd,ne,nf,ng,nh,ni,nj,nk,nl⟩:=q
 have IH:=hid ih
 have HT:=hid (Zud (A':=fun b=>A b∧b < w.heap.size) (fun b h hb=>⟨h,hb⟩) _ _ hl)
 have HS:=hid (Zud (A':=fun b=>A b∧b < w.heap.size) (fun b h hb=>⟨h,hb⟩) _ _ hs)
 have HL:=hid (Zo.1 HT.out).2.2.2.2
 obtain ⟨-, -, -, -, -, -, -,oal,oa⟩:=Ze.1 ox
 have O:=hid oa
 have hse:=Zq t
 clear ih hl hs ox oa
 have hk10:(t.k==10)=true:=by simp [hk0]
 have hk:¬t.k=11:=om
 rw [Jo,if_neg hk]
 clear hk0
 have hk':(t.k==11)=false:=by simp [hk]
 obtain ⟨i0,hi0,y0,y1,y2⟩:=info_parts Uy
 clear hk
 go_enter func184,ntmps184
 go_wp2_with fail
 go_loopg [6] (t.a.length) (fun gk t6 wr=>∃(j:Nat) (ps:List (GT×TA)) (v:Value),gk+j=t.a.length∧t6=.int .i64 j∧Below w.heap.size w wr∧Hid (PutM w.heap.size t s ⟨ma,mb,mc,md,me,mf,mg,mh,mi,mj,mk,ml⟩ ⟨na,nb,nc,nd,ne,nf,ng,nh,ni,nj,nk,nl⟩ v wr)∧Hid (ps.length=j)∧Hid (ps.map Prod.fst=(YH s t.k 0 t.a).take j)∧Hid (wr.ownsRow (w.heap.size+4) 31 15 v j (Vc ps))∧Hid (∀q∈ps,RT wr (Own (w.heap.size+4) (fun b=>A b∧b < w.heap.size) v) q.1 q.2))
 case atStart=>exact ⟨0,[],.slice none 0 0,om,rfl,ZtZ,hid ⟨sm,ZO.2 ⟨gs,gs,gs,gs,gs,gs,gs,gs,gs,gs,gs,gs,gs,gs,gs⟩,ZO.2 ⟨gs,gs,gs,gs,gs,gs,gs,gs,gs,gs,gs,gs,gs,gs,gs⟩,ZO.2 ⟨gs,gs,gs,gs,gs,gs,gs,gs,gs,gs,gs,gs,gs,gs,gs⟩,fun k=>gs,ZO.2 ⟨gs,gs,gs,gs,gs,gs,gs,gs,gs,gs,gs,gs,gs,gs,gs⟩,fun k=>gs⟩,hid rfl,hid rfl,hid (World.ownsRow_nil _ _ _ _),hid (fun q hq=>by simp at hq)⟩
 case round=>
  obtain ⟨j,ps,v,hj,rfl,hb,HM,HPL,HP,HO,HQ⟩:=hrel
  have hz:=HM.out.sz
  by_cases hlt:j < t.a.length
  ·obtain ⟨b,o,mj',rfl,hA,hbs,g0,gx⟩:=HL.out.get j hlt
   have hbw:=hA.2
   obtain ⟨k0,k1,k2,k3,k4,k5,k6,k7,k8,k9,ka,kb,kc,kd,ke⟩:=Yp.1 (g0.ext (ZtY hb) (A:=fun _=>True) trivial)
   obtain ⟨a0, -, -, -, -, -, -, -, -, -, -, -, -, -,ae⟩:=ZO.1 HM.out.a
   obtain ⟨b0,b1,b2,b3,b4,b5,b6,b7,b8,b9,ba,bb,bc,bd,be⟩:=ZO.1 HM.out.b
   obtain ⟨-, -, -, -, -, -, -, -, -, -, -, -, -, -,de⟩:=ZO.1 HM.out.d
   have df:=HM.out.df
   have u0:w.heap.size < wr.heap.size:=om
   have u1:w.heap.size+1 < wr.heap.size:=om
   have u3:w.heap.size+1+1+1 < wr.heap.size:=om
   have hs1:b < wr.heap.size:=om
   have hb4:b < w.heap.size+4:=om
   have hb5:¬b=w.heap.size+1+1+1:=om
   have HOK:=hid (show ∀k,v.ownBlock=some k→k < wr.heap.size from fun k hk=>(HO.out.lt _ hk).2)
   have HOWN:=hid (show ∀k,v.ownBlock=some k→w.heap.size+4≤k from fun k hk=>(HO.out.lt _ hk).1)
   have hst:=ZbH s t.k t.a j hlt
   have hsj:=ZD t.a j hlt
   have HC:=hid (fun (W:World) (m1 m2:TA) (h1:RT W (fun b=>A b∧b < w.heap.size) (t.a[j]'hlt) m1) (h2:RT W (fun b=>A b∧b < w.heap.size) s m2)=>IH.out (t.a[j]'hlt) s W (fun b=>A b∧b < w.heap.size) m1 m2 om (O.out.get j hlt) h1 h2)
   clear g0
   by_cases hj1:j=1
   ·have hj1':((j:Int)==1)=true:=by rw [hj1];rfl
    have hsb:ZU t.k j=true:=by simp [ZU,hk10,hj1]
    rw [hsb,if_pos rfl] at hst
    have HST:=hid hst
    have HJ1:=hid hj1
    clear hst hsb hj1 HC
    go_wp2_with fail
    refine wp_region_held_drew (S:=(fun W=>W.cell? ⟨w.heap.size,14,none⟩=some (.slice (some ⟨b,o,none⟩) t.a.length ml)∧(∀k,W.cell? ⟨b,k,none⟩=wr.cell? ⟨b,k,none⟩)∧∀k,W.cell? ⟨w.heap.size+1,k,none⟩=wr.cell? ⟨w.heap.size+1,k,none⟩)) kr ?_ (fun hHeld=>?_)
    ·((try dsimp only);(refine ⟨gs,fun k=>gs,fun k=>gs⟩))
    refine tzh 0 ?_
    try simp only [Act.put,sl,s0,ss]
    refine tzh 2 ?_
    try simp only [Act.put,sl,s0,ss]
    refine tzh 3 ?_
    try simp only [Act.put,sl,s0,ss]
    refine tzh 4 ?_
    try simp only [Act.put,sl,s0,ss]
    refine tzh 5 ?_
    try simp only [Act.put,sl,s0,ss]
    refine tzh 6 ?_
    try simp only [Act.put,sl,s0,ss]
    refine wpAnyH_ready (rs:=[1,7]) kr sm ?_
    refine rch (fun K hK=>?_) ?_
    ·go_simp
     refine hK.out _ _ ?_ (fun hHeld=>?_)
     ·((try dsimp only);(refine ⟨gs,fun k=>gs,fun k=>gs⟩))
     clear hK K
     refine wpAnyH_ready (rs:=[7]) kr sm ?_
     exact qf2
    refine rch (fun K hK=>?_) ?_
    ·go_simp
     refine hK.out _ _ ?_ (fun hHeld=>?_)
     ·((try dsimp only);(refine ⟨gs,fun k=>gs,fun k=>gs⟩))
     clear hK K
     refine wpAnyH_ready (rs:=[1]) kr sm ?_
     exact qf2
    exact AllReadyH.nil
   have hj1':((j:Int)==1)=false:=beq_eq_false_iff_ne.2 om
   have hsb:ZU t.k j=false:=by simp [ZU,hk10,hj1]
   rw [hsb,if_neg sm] at hst
   generalize UB s t.a[j]=X at HC hst
   have HST:=hid hst
   have HJ1:=hid hj1
   clear hst hsb hj1
   exact qf1
  exact qf3
theorem Zhd (t s:GT) (w:World) (A:Nat→Prop) (m q:TA) (hl:RT w A t m) (hs:RT w A s q) (hk:t.k=11):
  Calls prog 184 #[TV t m,TV s q] w (ZhE w A (UB s t)):=by
 obtain ⟨ma,mb,mc,md,me,mf,mg,mh,mi,mj,mk,ml⟩:=m
 obtain ⟨na,nb,nc,nd,ne,nf,ng,nh,ni,nj,nk,nl⟩:=q
 have HS:=hid (Zud (A':=fun b=>A b∧b < w.heap.size) (fun b h hb=>⟨h,hb⟩) _ _ hs)
 rw [Jo,if_pos hk]
 clear hl hs
 have hk':(t.k==11)=true:=by simp [hk]
 clear hk
 go_enter func184,ntmps184
 go_wp2_with fail
 refine bodyPost_ret (v:=TV s ⟨na,nb,nc,nd,ne,nf,ng,nh,ni,nj,nk,nl⟩) (by simp [results,Tryz.f184,go_sem]) rfl ?_
 exact ⟨ZtZ,_,rfl,Zud (fun b h _=>.inl h.1) _ _ (Zt2 ar _ _ HS.out)⟩
set_option maxRecDepth 512
theorem ZfN (N:Nat):ZhD N:=by
 induction N with
 | zero=>intro t;have:=X8 t;intros;omega
 | succ N ih=>
  intro t s w A m q hN ox hl hs
  by_cases h11:t.k=11
  ·exact Zhd t s w A m q hl hs h11
  by_cases h10:t.k=10
  ·exact Zhc N ih t s w A m q hN ox hl hs h10
  exact Ziy N ih t s w A m q hN ox hl hs h11 h10
def ZhB (M:Int) (w:World) (e:Ending) (w':World):Prop:=(∃r:Int,e=.returned (.int .i64 r)∧1≤r∧r≤M+1)∧Below w.heap.size w w'
theorem UR {t:GT} (hn:ZG t=0):Wg t=0∧ZB t=0∧Ya t=0∧Zn t=0∧Vo t=0∧1≤t.k∧t.k≤11:=by
 unfold ZG at hn
 by_cases hk:t.k < 1∨11 < t.k
 ·rw [if_pos hk] at hn;omega
 rw [if_neg hk] at hn
 by_cases h1:Z6 t=0
 case neg=>rw [if_pos h1] at hn;exact absurd hn h1
 rw [if_neg (by simp [h1])] at hn
 by_cases h2:ZB t=0
 case neg=>rw [if_pos h2] at hn;exact absurd hn h2
 rw [if_neg (by simp [h2])] at hn
 by_cases h3:Ya t=0
 case neg=>rw [if_pos h3] at hn;exact absurd hn h3
 rw [if_neg (by simp [h3])] at hn
 have hv:=Qc t
 rw [h1] at hv
 by_cases h4:Wg t=0
 case neg=>rw [if_pos h4] at hv;omega
 rw [if_neg (by simp [h4])] at hv
 exact ⟨h4,h2,h3,hn,hv.symm,om,om⟩
theorem Zgp {n a b:Int} (h:Xl n a b=0):a≤n∧n≤b:=by
 unfold Xl at h
 split at h
 ·omega
 split at h
 ·omega
 omega
theorem Zh6 {l:List Int} (h:Yc l=0):l.length≤64:=by
 unfold Yc at h
 split at h
 ·omega
 split at h
 ·omega
 omega
theorem Zaf:∀(l:List GV),YA l=0→∀j (hj:j < l.length),ZQ l[j]=0
 | [],_,j,hj=>absurd hj sm
 | x::l,h,j,hj=>by
  unfold YA at h
  by_cases hx:ZQ x=0
  ·rw [if_neg (by simp [hx])] at h
   cases j with
   | zero=>exact hx
   | succ j=>exact Zaf l h j (by simpa using hj)
  rw [if_pos hx] at h;exact absurd h hx
theorem Zdy {t:GT} (hk:t.k=4) (hn:ZG t=0):t.vs.length≤64∧∀j (hj:j < t.vs.length),ZQ t.vs[j]=0:=by
 obtain ⟨_,h2,_,h4,h5,_,_⟩:=UR hn
 unfold Vo at h5
 rw [if_neg om] at h5
 unfold ZB at h2
 rw [if_neg om] at h2
 have h6:Vp t=0:=by
  split at h2
  ·exact h2
  omega
 unfold Vp at h6
 rw [if_neg om] at h6
 have h7:=Zh6 h6
 unfold Zn at h4
 rw [if_neg om,if_neg om,if_neg om,if_neg om,if_pos hk] at h4
 have h8:Xl (t.vs.length:Int) (t.w.length:Int) (t.w.length:Int)=0:=by
  split at h4
  ·omega
  omega
 have:=Zgp h8
 exact ⟨om,Zaf _ h5⟩
theorem Zip {t:GT} (hk:t.k=6) (hn:ZG t=0):t.a.length=1∧0≤t.lo∧t.hi≤16∧0≤t.hi:=by
 obtain ⟨_,_,h3,h4,_,_,_⟩:=UR hn
 unfold Ya at h3
 rw [if_neg om,if_pos hk] at h3
 unfold Zn at h4
 rw [if_neg om,if_neg om,if_pos om] at h4
 have:=Zgp h4
 have h9:(Yi t.lo 0 t.hi&&Yi t.hi t.lo 16)=true:=by
  split at h3
  ·assumption
  omega
 simp [Yi] at h9
 omega
theorem JF {t:GT} (hk:t.k=1) (hn:ZG t=0):ZQ t.v=0:=by
 have:=(UR hn).1
 unfold Wg at this
 rw [if_pos hk] at this
 exact this
end Go.Proofs.YtkdffbdnjfgpeaaGreat
