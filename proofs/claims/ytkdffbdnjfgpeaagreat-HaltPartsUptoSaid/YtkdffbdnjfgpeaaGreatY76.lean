/- Part 77. -/
import Derived.Test.YtkdffbdnjfgpeaaGreatY23
import Derived.Test.YtkdffbdnjfgpeaaGreatY78
set_option linter.all false
namespace Go.Proofs.YtkdffbdnjfgpeaaGreat
open Go.Lib (hid)
open Go Go.RowKit Go.Proofs.Tryz
def WL (c:Nat) (s:ByteArray) (r:Res GV) (w:World):Ending→World→Prop:=fun e w'=>But c w.heap.size w w' ∧
 match r with
 | .ok v j=>(∃m,e=.returned (.tuple #[VV v m,.int .u8 1])∧RV w' (fun b=>w.heap.size≤b) v m.a)∧Cur w' c s j false
 | .no k=>e=.returned (.tuple #[VV ⟨0,0,[]⟩ ⟨none,0⟩,.int .u8 k])∧k≠1∧k < 256
def ZhJ (c:Nat) (s:ByteArray) (r:Res (List GV)) (w:World):Ending→World→Prop:=fun e w'=>But c w.heap.size w w' ∧
 match r with
 | .ok l j=>(∃a cp,e=.returned (.tuple #[.slice a l.length cp,.int .u8 1])∧RVs w' (fun b=>w.heap.size≤b) l a)∧Cur w' c s j false
 | .no k=>e=.returned (.tuple #[.slice none 0 0,.int .u8 k])∧k≠1∧k < 256
def WT (c:Nat) (s:ByteArray) (f:Nat):Prop:=∀(t:GT) (i:Nat) (w:World) (m:TA),Zp false t→okT t→i≤s.size→(∃k n,wkT f t [] k n≠none)→Cur w c s i false→RT w (fun b=>b≠c) t m →
 Calls prog 117 #[.pointer (some ⟨c,0,none⟩),TV t m] w (WL c s (Zd s f t [] i) w)
theorem ZgG {W:World} {n:Nat} (hn:W.heap.size=n) (a b c:Value) (t:TypeId):∀j u,[a,b,c][j]? =some u→(W.alloc (.cells #[a,b,c] t)).cell? ((⟨n,0,none⟩:Addr).add j)=some u:=by
 subst hn
 exact fun j u hu=>World.news_of_block (heap_alloc_new W _) j u (by simpa using hu)
set_option maxRecDepth 100000
set_option maxHeartbeats 4000000
theorem XU (c:Nat) (s:ByteArray) (f:Nat) (ih:WT c s f) (l:List GT) (i:Nat) (w:World) (al:Option Addr) (cp:Nat) (hl64:l.length≤64)
  (hl:∀x∈l,Zp false x∧okT x∧∃k n,wkT f x [] k n≠none) (hi:i≤s.size) (hc:Cur w c s i false) (hr:RTs w (fun b=>b≠c) l al):
  Calls prog 190 #[.pointer (some ⟨c,0,none⟩),.slice al l.length cp] w (ZhJ c s (Xt (fun x=>Zd s f x []) l i) w):=by
 have IH:=hid ih
 have HL:=hid hr
 have HG:=hid hl
 have HC:=hid hc
 have hcs:c < w.heap.size:=World.block_lt_of_cell? _ _ hc.1.1
 obtain ⟨i0,hi0,y0,y1,y2⟩:=info_parts US
 have hR0:WB s f [] [] (l.drop 0) i=Xt (fun x=>Zd s f x []) l i:=by
  unfold WB
  rw [List.drop_zero]
  cases Xt (fun x=>Zd s f x []) l i<;>simp [Res.map]
 generalize Xt (fun x=>Zd s f x []) l i=R at *
 have HR0:=hid hR0
 have HIN:=hid (fun x (hx:x∈l) q hq=>WJ s (Zb x) f x [] q (hl x hx).1 (hl x hx).2.1 (Nat.le_refl _) trivial hq)
 clear ih hr hl hc hR0
 go_enter func190,ntmps190
 go_wp2_with fail
 go_loopg [6,7] (l.length) (fun gk t6 i' wr=>∃(j p:Nat) (ps:List (GV×VA)) (v:Value),v=t6∧gk+j=l.length∧i'=.int .i64 j∧p≤s.size∧But c w.heap.size w wr∧Hid (ps.length=j)∧Hid (WB s f [] (ps.map Prod.fst) (l.drop j) p=R)∧Hid (Cur wr c s p false) ∧
  Hid (wr.ownsRow w.heap.size 24 3 v j (Xd ps))∧Hid (∀q∈ps,RV wr (Own w.heap.size (fun _=>False) v) q.1 q.2.a))
 case atStart=>exact ⟨0,i,[],_,rfl,om,rfl,hi,ZxG,hid rfl,HR0,hid (Zt3 (B:=w.heap.size) ZtZ hcs HC.out),hid (World.ownsRow_nil _ _ _ _),hid (fun q hq=>by simp at hq)⟩
 case round=>
  obtain ⟨j,p,ps,v,rfl,hj,rfl,hp,hbt,HPL,HP,HCU,HO,HQ⟩:=hrel
  have hz:=hbt.size
  by_cases hlt:j < l.length
  ·obtain ⟨b,o,mj,rfl,hA,hbs,g0,gx⟩:=HL.out.get j hlt
   obtain ⟨z0,z1,z2,z3,z4,z5,z6,z7,z8,z9,za,zb,zc,zd,ze⟩:=Yp.1 (g0.ext (Zt0 hbt) hA)
   have hs1:b < wr.heap.size:=om
   have hcr:c < wr.heap.size:=om
   have HX:=hid (HG.out l[j] (List.getElem_mem hlt))
   have hst:=HP.out
   rw [K4 _ _ _ _ _ _ hlt] at hst
   have hinj:=HIN.out l[j] (List.getElem_mem hlt) p hp
   clear g0
   rcases hW:Zd s f l[j] [] p with ⟨v',q⟩|⟨k⟩
   ·rw [hW] at hst hinj
    have hq:=hinj.2.1
    have HW:=hid hW
    have HST:=hid hst
    clear hW hst hinj
    go_wp2_with (first
     | (go_at_call 117;refine (IH.out l[j] p _ mj HX.out.1 HX.out.2.1 hp HX.out.2.2 (by exact Zt3 (B:=wr.heap.size) ZtZ hcr HCU.out) (by exact Zt2 (Zt0 ZxG) _ _ gx)).mono ?_;rw [HW.out];rintro e1 w2 ⟨hb2,⟨m,rfl,hrv⟩,hc2⟩;have HRV:=hid hrv;have HC2:=hid hc2;clear hrv hc2;have hz2:=hb2.size;(try simp at hz2);have hbb:But c wr.heap.size wr w2:=ZxG;have HO2:=hid (Vf HO.out hbb (fun k hk=>(by have:=HO.out.lt _ hk;omega)));have hagb:Agree (Own w.heap.size (fun _=>False) v) wr w2:=(fun q u hq hcq=>hbb.ag (World.block_lt_of_cell? _ _ hcq) (by rcases hq with ⟨h,_⟩|⟨h,_⟩;exact absurd h id;omega) hcq);have hownk:∀k,v.ownBlock=some k→w.heap.size≤k:=(fun k e=>(HO.out.lt _ e).1);have hv2:RV w2 (Own w.heap.size (fun _=>False) v) v' m.a:=Zt9 (fun b h _=>.inr ⟨(by (try simp at h);omega),fun e=>(by have:=(HO.out.lt _ e).2;(try simp at h);omega)⟩) _ _ HRV.out)
     | (at_builtin;refine wpList_append_lies _ rfl _ _ 22 rfl w.heap.size 24 i0 _ 3 40 underlying22 hi0 y0 y1 y2 rfl (by decide) _ j _ (by rfl) ((ZR HO2.out (B:=w2.heap.size) (by exact ZtZ) (fun k hk=>(HO2.out.lt _ hk).2)).alloc _) ⟨w2.heap.size+1,0,none⟩ 1 1 [.int .u8 v'.k,.int .i64 v'.n,.slice m.a v'.l.length m.c] (by rfl) rfl (ZgG sm _ _ _ _) (by simp [Value.oneCell']) (by decide) (by unfold maxLen;omega) om (by simp;omega) (w2.heap.size+1+1) sm ?_;intro g cap w4 hown hgrow hat hlt1;have hbw1:Below w.heap.size w2 w4:=Below.grown (by exact ZtZ) hgrow (by simp;omega) (fun k e=>(HO2.out.lt _ e).1);have hq4:∀q∈ps,RV w4 (Own w.heap.size (fun _=>False) (.slice (some ⟨g,0,none⟩) (j+1) cap)) q.1 q.2.a:=(fun q hq=>RV.own hgrow hownk hat sm (Zt5 (ZtY (show Below w2.heap.size w2 _ from ZtZ)) _ _ (Zt5 hagb _ _ (HQ.out q hq))));have hv4:RV w4 (Own w.heap.size (fun _=>False) (.slice (some ⟨g,0,none⟩) (j+1) cap)) v' m.a:=RV.own hgrow hownk hat sm (Zt5 (ZtY (show Below w2.heap.size w2 _ from ZtZ)) _ _ hv2)))
    go_roundg (gk - 1)
    case measure=>omega
    case rel=>
     refine ⟨j+1,q,ps++[(v',m)],_,rfl,om,by go_num,hq,(hbt.trans (hbb.mono om)).trans (Zue hbw1),hid (by have:=HPL.out;simp;omega),hid (by rw [List.map_append];exact HST.out),hid (Zt3 hbw1 hcs HC2.out),hid ?_,hid ?_⟩
     ·rw [X3];exact hown
     intro q hq
     rcases List.mem_append.1 hq with hq|hq
     ·exact hq4 q hq
     simp at hq
     subst hq
     exact hv4
   rw [hW] at hst hinj
   have HW:=hid hW
   subst hst
   clear hW
   go_wp2_with (go_at_call 117;refine (IH.out l[j] p _ mj HX.out.1 HX.out.2.1 hp HX.out.2.2 (by exact Zt3 (B:=wr.heap.size) ZtZ hcr HCU.out) (by exact Zt2 (Zt0 ZxG) _ _ gx)).mono ?_;rw [HW.out];rintro e1 w2 ⟨hb2,rfl,hk1,hk2⟩;have hz2:=hb2.size;(try simp at hz2);have hbb:But c wr.heap.size wr w2:=ZxG;have hkb:(((k:Int)) != 1)=true:=(by simp;omega))
   go_ret2
   exact ⟨(hbt.trans (hbb.mono om)).trans (Zue (Below.mono (B:=w2.heap.size) ZtZ om)),rfl,hk1,hk2⟩
  have hjl:j=l.length:=om
  subst hjl
  have hst:=HP.out
  rw [List.drop_length] at hst
  have hE:=VK (A:=fun b=>w.heap.size≤b) HO.out (fun b h=>h) (fun q hq=>Zt9 (fun b hb _=>by rcases hb with ⟨h,_⟩|⟨h,_⟩;exact absurd h id;exact h) _ _ (HQ.out q hq))
  obtain ⟨av,cv,hav,hrd⟩:=hE
  have hst2:R=.ok (ps.map Prod.fst) p:=by rw [←hst];simp [WB,Xt,Res.map]
  have HRD:=hid hrd
  subst hst2
  subst hav
  clear hst hrd HR0
  go_wp2_with fail
  refine bodyPost_ret (v:=(.tuple #[.slice av (ps.map Prod.fst).length cv,.int .u8 1])) (by first|(simp [results,Tryz.f190,go_sem];done)|(simp [results,Tryz.f190,go_sem, *];done)) rfl ?_
  exact ⟨hbt,⟨av,cv,rfl,HRD.out⟩,HCU.out⟩
theorem Kj (N:Nat):∀(x:GV) (w:World) (A:Nat→Prop) (m:VA),Zg x≤N→okV x→RV w A x m.a→Calls prog 185 #[VV x m] w (ZhC x w):=by
 induction N with
 | zero=>intro x;have:=Zr x;intros;omega
 | succ N ih=>
  rintro x w A ⟨ma,mc⟩ hN ox hl
  have IH:=hid ih
  have HL:=hid (Zl.1 hl)
  obtain ⟨⟨x1,x2⟩,⟨x3,x4⟩,hln,ovs⟩:=ZA.1 ox
  have O:=hid ovs
  have hse:=XZ x
  obtain ⟨i0,hi0,y0,y1,y2⟩:=info_parts US
  clear ih hl ox ovs
  go_enter func185,ntmps185
  go_wp2_with fail
  go_loopg [3,4] (x.l.length) (fun gk t3 i' wr=>∃(j:Nat) (ps:List (GV×VA)) (v:Value),v=t3∧gk+j=x.l.length∧i'=.int .i64 j∧Below w.heap.size w wr∧w.heap.size+1 < wr.heap.size ∧
   wr.cell? ⟨w.heap.size,0,none⟩=some (.int .u8 x.k)∧wr.cell? ⟨w.heap.size,1,none⟩=some (.int .i64 x.n)∧wr.cell? ⟨w.heap.size,2,none⟩=some (.slice ma x.l.length mc) ∧
   wr.cell? ⟨w.heap.size+1,0,none⟩=some (.int .u8 0)∧wr.cell? ⟨w.heap.size+1,1,none⟩=some (.int .i64 0)∧wr.cell? ⟨w.heap.size+1,2,none⟩=some (.slice none 0 0) ∧
   (∀o,wr.frozen? ⟨w.heap.size,o,none⟩=false)∧(∀o,wr.frozen? ⟨w.heap.size+1,o,none⟩=false)∧Hid (ps.length=j)∧Hid (ps.map Prod.fst=x.l.take j) ∧
   Hid (wr.ownsRow (w.heap.size+2) 24 3 v j (Xd ps))∧Hid (∀q∈ps,RV wr (Own (w.heap.size+2) (fun _=>False) v) q.1 q.2.a))
  case atStart=>exact ⟨0,[],_,rfl,om,rfl,ZtZ,sm,gs,gs,gs,gs,gs,gs,by intro o;go_simp,by intro o;go_simp,hid rfl,hid rfl,hid (World.ownsRow_nil _ _ _ _),hid (fun q hq=>by simp at hq)⟩
  case round=>
   obtain ⟨j,ps,v,rfl,hj,rfl,hb,hz,c0,c1,c2,d0,d1,d2,f0,f1,HPL,HP,HO,HQ⟩:=hrel
   by_cases hlt:j < x.l.length
   ·obtain ⟨b,o,mj,rfl,hA,hbs,g0,gx⟩:=HL.out.get j hlt
    obtain ⟨k0,k1,k2⟩:=At3.1 (g0.ext (ZtY hb) (A:=fun _=>True) trivial)
    have hs1:b < wr.heap.size:=om
    have hq1:=ZX x.l j hlt
    clear g0
    go_wp2_with (first
     | (go_at_call 185;refine (IH.out x.l[j] _ A mj om (O.out.get j hlt) (by exact Zt5 ar _ _ gx)).mono ?_;rintro e1 w2 ⟨hb2,m,rfl,hrv⟩;have HRV:=hid hrv;clear hrv;have hz2:=hb2.size;(try simp at hz2);have HO2:=hid (ZR HO.out hb2 (fun k hk=>(HO.out.lt _ hk).2)))
     | (at_builtin;refine wpList_append_lies _ rfl _ _ 22 rfl (w.heap.size+2) 24 i0 _ 3 40 underlying22 hi0 y0 y1 y2 rfl (by decide) _ j _ (by rfl) (HO2.out.alloc _) ⟨w2.heap.size,0,none⟩ 1 1 [.int .u8 x.l[j].k,.int .i64 x.l[j].n,.slice m.a x.l[j].l.length m.c] (by rfl) rfl (UK _ _ _ _ _) (by simp [Value.oneCell']) (by decide) (by unfold maxLen;omega) om (by simp;omega) (w2.heap.size+1) sm ?_;intro g cap w4 hown hgrow hat hlt1))
    have hownk:∀k,v.ownBlock=some k→w.heap.size+2≤k:=fun k e=>(HO.out.lt _ e).1
    have hbw1:Below (w.heap.size+2) w2 w4:=Below.grown ((Below.refl _ _).alloc om _) hgrow (by simp;omega) (fun k e=>(HO2.out.lt _ e).1)
    have hbr:Below (w.heap.size+2) wr w4:=(hb2.mono om).trans hbw1
    have hag2:Agree (Own (w.heap.size+2) (fun _=>False) v) w2 (w2.alloc (.cells #[.int .u8 x.l[j].k,.int .i64 x.l[j].n,.slice m.a x.l[j].l.length m.c] 24)):=ZtY ((Below.refl _ _).alloc (Nat.le_refl _) _)
    have hagb:Agree (Own (w.heap.size+2) (fun _=>False) v) wr w2:=ZtY hb2
    go_roundg (gk - 1)
    case measure=>omega
    case rel=>
     refine ⟨j+1,ps++[(x.l[j],m)],_,rfl,om,by go_num,hb.trans (hbr.mono om),by have:=hbr.size;omega,(hbr.cell sm).trans c0,(hbr.cell sm).trans c1,(hbr.cell sm).trans c2,(hbr.cell sm).trans d0,(hbr.cell sm).trans d1,(hbr.cell sm).trans d2,fun o=>(hbr.frozen sm).trans (f0 o),fun o=>(hbr.frozen sm).trans (f1 o),hid (by have:=HPL.out;simp;omega),hid (by rw [List.map_append,HP.out,List.take_succ_eq_append_getElem hlt];rfl),hid ?_,hid ?_⟩
     ·rw [X3];exact hown
     intro q hq
     rcases List.mem_append.1 hq with hq|hq
     ·exact RV.own hgrow hownk hat sm (Zt5 hag2 _ _ (Zt5 hagb _ _ (HQ.out q hq)))
     simp at hq
     subst hq
     refine RV.own hgrow hownk hat sm (Zt5 hag2 _ _ (Zt9 (fun b h _=>?_) _ _ HRV.out))
     exact .inr ⟨om,fun e=>by have:=(HO.out.lt _ e).2;omega⟩
   have hjl:j=x.l.length:=om
   subst hjl
   obtain ⟨av,cv,hav,hrd⟩:=VK (A:=fun b=>w.heap.size+2≤b) HO.out (fun b h=>h) (fun q hq=>Zt9 (fun b hb _=>by rcases hb with ⟨h,_⟩|⟨h,_⟩;exact absurd h id;exact h) _ _ (HQ.out q hq))
   rw [HP.out,List.take_length] at hav hrd
   subst hav
   have HRD:=hid hrd
   clear hrd HO HQ HP HPL
   go_wp2_with fail
   refine bodyPost_ret (v:=VV x ⟨av,cv⟩) (by first|(simp [results,Tryz.f185,go_sem];done)|(simp [results,Tryz.f185,go_sem, *];done)) rfl ?_
   exact ⟨ZtZ,⟨av,cv⟩,rfl,Zl.2 (Zug (fun b hb _=>om) _ _ (Zt8 ((Zt4 so).trans (((Zt4 so).trans (Zt4 so)).trans (Zt4 so))) _ _ HRD.out))⟩
theorem ZkW (c:Nat) (s:ByteArray) (f:Nat) (t:GT) (i:Nat) (w:World) (m:TA) (hk:t.k=1) (ox:okT t) (hc:Cur w c s i false) (hl:RT w (fun b=>b≠c) t m):
  Calls prog 117 #[.pointer (some ⟨c,0,none⟩),TV t m] w (WL c s (Zd s (f+1) t [] i) w):=by
 rw [ZaN s f t [] i hk]
 obtain ⟨ma,mb,mc,md,me,mf,mg,mh,mi,mj,mk,ml⟩:=m
 have HV:=hid (Zo.1 hl).1
 have OV:=hid (Ze.1 ox).2.1
 have HC:=hid hc
 have hcs:c < w.heap.size:=World.block_lt_of_cell? _ _ hc.1.1
 have hk1:(t.k==1)=true:=by simp [hk]
 clear hl ox hc hk
 go_enter func117,ntmps117
 go_wp2_with (go_at_call 185;refine (Kj _ t.v _ (fun b=>b≠c) ⟨ma,mb⟩ (Nat.le_refl _) OV.out (by exact Zt5 ar _ _ HV.out)).mono ?_;rintro e w2 ⟨hb2,m2,rfl,hrv⟩;have HRV:=hid hrv;clear hrv;obtain ⟨hc2,hf2⟩:=Za hb2;have hz2:=hb2.size;(try simp at hz2);have y1:w.heap.size+1 < w2.heap.size:=om)
 refine bodyPost_ret (v:=(.tuple #[VV t.v m2,.int .u8 1])) (by first|(simp [results,Tryz.f117,go_sem];done)|(simp [results,Tryz.f117,go_sem, *];done)) rfl ?_
 exact ⟨ZxG,⟨m2,rfl,Zt9 (fun b hb _=>by (try simp at hb);omega) _ _ (Zt5 (((Zt4 so).trans (Zt4 so)).trans (Zt4 so)) _ _ HRV.out)⟩,Zt3 (B:=w.heap.size) ZtZ hcs HC.out⟩
set_option maxRecDepth 512
theorem Zxm {p:Prop} (h:p:=by
 refine bodyPost_ret (v:=(.tuple #[VV ⟨0,0,[]⟩ ⟨none,0⟩,.int .u8 2])) (by first|(simp [results,Tryz.f117,go_sem];done)|(simp [results,Tryz.f117,go_sem, *];done)) rfl ?_
 exact ⟨ZxG,rfl,om,om⟩):p:=h
set_option maxRecDepth 100000
theorem ZkX (c:Nat) (s:ByteArray) (f:Nat) (t:GT) (i:Nat) (w:World) (m:TA) (hb:Zc s=true) (hk:t.k=2) (hn:ZG t=0) (hi:i≤s.size) (hc:Cur w c s i false):
  Calls prog 117 #[.pointer (some ⟨c,0,none⟩),TV t m] w (WL c s (Zd s (f+1) t [] i) w):=by
 rw [ZaO s f t [] i hk]
 obtain ⟨ma,mb,mc,md,me,mf,mg,mh,mi,mj,mk,ml⟩:=m
 obtain ⟨r1,r2,r3⟩:=Kw hn hk
 have HC:=hid hc
 have HB:=hid hb
 have hcs:c < w.heap.size:=World.block_lt_of_cell? _ _ hc.1.1
 have hk1:(t.k==1)=false:=by simp [hk]
 have hk2:(t.k==2)=true:=by simp [hk]
 clear hc hk hb hn
 rcases hN:WK s t.lo t.hi i with ⟨n,j⟩|⟨k⟩
 ·have HN:=hid hN
  clear hN
  go_enter func117,ntmps117
  go_wp2_with (go_at_call 186;refine (V2 c s i t.lo t.hi _ HB.out hi r1 r2 r3 (by exact Zt3 (B:=w.heap.size) ZtZ hcs HC.out)).mono ?_;rw [HN.out];rintro e w2 ⟨hb2,rfl,hc2⟩;have HC2:=hid hc2;clear hc2;have hz2:=hb2.size;(try simp at hz2);obtain ⟨hc2,hf2⟩:=ZE hb2;have y1:w.heap.size+1 < w2.heap.size:=om;have y2:¬w.heap.size+1=c:=om;have y3:¬w.heap.size=c:=om)
  refine bodyPost_ret (v:=(.tuple #[VV ⟨1,n,[]⟩ ⟨none,0⟩,.int .u8 1])) (by first|(simp [results,Tryz.f117,go_sem];done)|(simp [results,Tryz.f117,go_sem, *];done)) rfl ?_
  exact ⟨ZxG,⟨⟨none,0⟩,rfl,by simp [RV,RVs]⟩,Zt3 (B:=w.heap.size+1) ZtZ om HC2.out⟩
 have HN:=hid hN
 have hk:k=2:=by
  unfold WK K8 at hN
  revert hN
  rcases ZN s (t.hi - t.lo+1).toNat i with ⟨_|v,j⟩<;>simp [Y2,Res.map]<;>omega
 subst hk
 clear hN
 go_enter func117,ntmps117
 go_wp2_with (go_at_call 186;refine (V2 c s i t.lo t.hi _ HB.out hi r1 r2 r3 (by exact Zt3 (B:=w.heap.size) ZtZ hcs HC.out)).mono ?_;rw [HN.out];rintro e w2 ⟨hb2,rfl⟩;have hz2:=hb2.size;(try simp at hz2);obtain ⟨hc2,hf2⟩:=ZE hb2;have y1:w.heap.size+1 < w2.heap.size:=om;have y2:¬w.heap.size+1=c:=om;have y3:¬w.heap.size=c:=om)
 exact Zxm
set_option maxRecDepth 512
theorem Zxz {p:Prop} (h:p:=by
 refine bodyPost_ret (v:=(.tuple #[VV ⟨0,0,[]⟩ ⟨none,0⟩,.int .u8 k])) (by first|(simp [results,Tryz.f117,go_sem];done)|(simp [results,Tryz.f117,go_sem, *];done)) rfl ?_
 exact ⟨ZxG,rfl,hk8,hk9⟩):p:=h
set_option maxRecDepth 100000
theorem Zk0 (c:Nat) (s:ByteArray) (f:Nat) (ih:WT c s f) (t:GT) (i:Nat) (w:World) (m:TA) (hk:t.k=5) (hn:ZG t=0) (hx:∀x∈t.a,Zp false x∧okT x∧∃k n,wkT f x [] k n≠none) (hi:i≤s.size) (hc:Cur w c s i false) (hl:RT w (fun b=>b≠c) t m):
  Calls prog 117 #[.pointer (some ⟨c,0,none⟩),TV t m] w (WL c s (Zd s (f+1) t [] i) w):=by
 rw [ZaR s f t [] i hk]
 obtain ⟨ma,mb,mc,md,me,mf,mg,mh,mi,mj,mk,ml⟩:=m
 have h64:=Wt hn (.inl hk)
 have HL:=hid (Zo.1 hl).2.2.2.2
 have HC:=hid hc
 have HX:=hid hx
 have IH:=hid ih
 have hcs:c < w.heap.size:=World.block_lt_of_cell? _ _ hc.1.1
 have hk1:(t.k==1)=false:=by simp [hk]
 have hk2:(t.k==2)=false:=by simp [hk]
 have hk3:(t.k==3)=false:=by simp [hk]
 have hk4:(t.k==4)=false:=by simp [hk]
 have hk5:(t.k==5)=true:=by simp [hk]
 clear hc hk hl hx ih hn
 rcases hN:Xt (fun x=>Zd s f x []) t.a i with ⟨l,j⟩|⟨k⟩
 ·have HN:=hid hN
  clear hN
  go_enter func117,ntmps117
  go_wp2_with (first
   | (go_at_call 190;refine (XU c s f IH.out t.a i _ mk ml h64 HX.out hi (by exact Zt3 (B:=w.heap.size) ZtZ hcs HC.out) (by exact RTs.ext ar _ _ HL.out)).mono ?_;rw [HN.out];rintro e w2 ⟨hb2,⟨a,cp,rfl,hrv⟩,hc2⟩;have HC2:=hid hc2;have HRV:=hid hrv;clear hc2 hrv;have hz2:=hb2.size;(try simp at hz2);obtain ⟨hc2,hf2⟩:=ZE hb2;have y1:w.heap.size+1 < w2.heap.size:=om;have y2:¬w.heap.size+1=c:=om;have y3:¬w.heap.size=c:=om)
   | (go_at_call 191;refine (U2 3 a l.length cp _).mono ?_;rintro e w3 ⟨rfl,hb3⟩;have hz3:=hb3.size;(try simp at hz3);obtain ⟨hc3,hf3⟩:=Za hb3;have y4:w.heap.size+1 < w3.heap.size:=om))
  refine bodyPost_ret (v:=(.tuple #[VV ⟨3,0,l⟩ ⟨a,cp⟩,.int .u8 1])) (by first|(simp [results,Tryz.f117,go_sem];done)|(simp [results,Tryz.f117,go_sem, *];done)) rfl ?_
  exact ⟨ZxG,⟨⟨a,cp⟩,rfl,Zl.2 (Zug (fun b hb _=>by (try simp at hb);omega) _ _ (Zt8 ((ZtY (show Below w2.heap.size w2 w3 from ZtZ)).trans (((Zt4 so).trans (Zt4 so)).trans (Zt4 so))) _ _ HRV.out))⟩,Zt3 (B:=w.heap.size+1) ZtZ om HC2.out⟩
 have HN:=hid hN
 clear hN
 go_enter func117,ntmps117
 go_wp2_with (first
  | (go_at_call 190;refine (XU c s f IH.out t.a i _ mk ml h64 HX.out hi (by exact Zt3 (B:=w.heap.size) ZtZ hcs HC.out) (by exact RTs.ext ar _ _ HL.out)).mono ?_;rw [HN.out];rintro e w2 ⟨hb2,rfl,hk8,hk9⟩;have hz2:=hb2.size;(try simp at hz2);obtain ⟨hc2,hf2⟩:=ZE hb2;have y1:w.heap.size+1 < w2.heap.size:=om;have y2:¬w.heap.size+1=c:=om;have y3:¬w.heap.size=c:=om)
  | (go_at_call 191;refine (KE 3 k none 0 0 _ (by simp;omega)).mono ?_;rintro e w3 ⟨rfl,hb3⟩;have hz3:=hb3.size;(try simp at hz3);obtain ⟨hc3,hf3⟩:=Za hb3;have y4:w.heap.size+1 < w3.heap.size:=om))
 exact Zxz
set_option maxRecDepth 512
theorem Zxy {p:Prop} (h:p:=by
 refine bodyPost_ret (v:=(.tuple #[VV ⟨0,0,[]⟩ ⟨none,0⟩,.int .u8 k'])) (by first|(simp [results,Tryz.f117,go_sem];done)|(simp [results,Tryz.f117,go_sem, *];done)) rfl ?_
 exact ⟨ZxG,rfl,hk8,hk9⟩):p:=h
set_option maxRecDepth 100000
theorem ZkY (c:Nat) (s:ByteArray) (f:Nat) (ih:WT c s f) (t:GT) (i:Nat) (w:World) (m:TA) (hb:Zc s=true) (hk:t.k=3) (hn:ZG t=0) (hx:∀x∈t.a,Zp false x∧okT x∧∃k n,wkT f x [] k n≠none) (hi:i≤s.size) (hc:Cur w c s i false) (hl:RT w (fun b=>b≠c) t m):
  Calls prog 117 #[.pointer (some ⟨c,0,none⟩),TV t m] w (WL c s (Zd s (f+1) t [] i) w):=by
 rw [ZaP s f t [] i hk]
 obtain ⟨ma,mb,mc,md,me,mf,mg,mh,mi,mj,mk,ml⟩:=m
 obtain ⟨hlen,hfe⟩:=JU hn hk
 have HL:=hid (Zo.1 hl).2.2.2.2
 have HW:=hid (Zo.1 hl).2.2.1
 have HC:=hid hc
 have HB:=hid hb
 have HX:=hid hx
 have IH:=hid ih
 have HFE:=hid hfe
 have hcs:c < w.heap.size:=World.block_lt_of_cell? _ _ hc.1.1
 have hfi:=Zbi s t.w i hi hfe
 have hk1:(t.k==1)=false:=by simp [hk]
 have hk2:(t.k==2)=false:=by simp [hk]
 have hk3:(t.k==3)=true:=by simp [hk]
 clear hc hk hl hx ih hn hb hfe
 rcases hN:VS s t.w i with ⟨_|k,j⟩
 ·have HN:=hid hN
  clear hN hfi
  show Calls _ _ _ _ (WL c s (.no 2) w)
  go_enter func117,ntmps117
  go_wp2_with (go_at_call 187;refine (Qy t.w s i c mf me _ HB.out hi HFE.out (by exact Zuc ar _ _ HW.out) (by exact Zt3 (B:=w.heap.size) ZtZ hcs HC.out)).mono ?_;rw [HN.out];rintro e w2 ⟨hb2,rfl,hc2⟩;clear hc2;have hz2:=hb2.size;(try simp at hz2);obtain ⟨hc2,hf2⟩:=ZE hb2;have y1:w.heap.size+1 < w2.heap.size:=om;have y2:¬w.heap.size+1=c:=om;have y3:¬w.heap.size=c:=om)
  exact Zxm
 have HN:=hid hN
 rw [hN] at hfi
 have hkl:k < t.a.length:=by have:=hfi.2.2 k rfl;omega
 have hj:j≤s.size:=hfi.2.1
 obtain ⟨b,o,mq,rfl,hA,hbs,g0,gx⟩:=HL.out.get k hkl
 obtain ⟨z0,z1,z2,z3,z4,z5,z6,z7,z8,z9,za,zb,zc,zd,ze⟩:=Yp.1 g0
 have hkI:(k:Int) < (t.a.length:Int):=om
 have hbc:¬b=c:=hA
 have HG:=hid (HX.out t.a[k] (List.getElem_mem hkl))
 have e0:((Y2 (some k,j)).bind fun k j=>atD (fun x=>Zd s f x []) t.a k j)=Zd s f t.a[k] [] j:=by
  simp only [Y2,Res.bind,atD,List.getElem?_eq_getElem hkl]
 rw [e0]
 clear hN hfi e0 g0 hA
 rcases hW:Zd s f t.a[k] [] j with ⟨v',q⟩|⟨k'⟩
 all_goals have HW2:=hid hW
 all_goals clear hW
 ·go_enter func117,ntmps117
  go_wp2_with (first
   | (go_at_call 187;refine (Qy t.w s i c mf me _ HB.out hi HFE.out (by exact Zuc ar _ _ HW.out) (by exact Zt3 (B:=w.heap.size) ZtZ hcs HC.out)).mono ?_;rw [HN.out];rintro e w2 ⟨hb2,rfl,hc2⟩;have HC2:=hid hc2;clear hc2;have hz2:=hb2.size;(try simp at hz2);obtain ⟨hc2,hf2⟩:=ZE hb2;have y1:w.heap.size+1 < w2.heap.size:=om;have y2:¬w.heap.size+1=c:=om;have y3:¬w.heap.size=c:=om;have y5:b < w.heap.size+1+1:=om)
   | (go_at_call 117;refine (IH.out t.a[k] j _ mq HG.out.1 HG.out.2.1 hj HG.out.2.2 (by exact HC2.out) (by exact Zt2 (Zt0 ZxG) _ _ gx)).mono ?_;rw [HW2.out];rintro e1 w3 ⟨hb3,⟨m3,rfl,hrv⟩,hc3⟩;have HRV:=hid hrv;have HC3:=hid hc3;clear hrv hc3;have hz3:=hb3.size;(try simp at hz3);obtain ⟨hc3,hf3⟩:=ZE hb3;have y4:w.heap.size+1 < w3.heap.size:=om))
  refine bodyPost_ret (v:=(.tuple #[VV v' m3,.int .u8 1])) (by first|(simp [results,Tryz.f117,go_sem];done)|(simp [results,Tryz.f117,go_sem, *];done)) rfl ?_
  exact ⟨ZxG,⟨m3,rfl,Zt9 (fun b hb _=>by (try simp at hb);omega) _ _ (Zt5 (((Zt4 so).trans (Zt4 so)).trans (Zt4 so)) _ _ HRV.out)⟩,Zt3 (B:=w.heap.size+1) ZtZ om HC3.out⟩
 go_enter func117,ntmps117
 go_wp2_with (first
  | (go_at_call 187;refine (Qy t.w s i c mf me _ HB.out hi HFE.out (by exact Zuc ar _ _ HW.out) (by exact Zt3 (B:=w.heap.size) ZtZ hcs HC.out)).mono ?_;rw [HN.out];rintro e w2 ⟨hb2,rfl,hc2⟩;have HC2:=hid hc2;clear hc2;have hz2:=hb2.size;(try simp at hz2);obtain ⟨hc2,hf2⟩:=ZE hb2;have y1:w.heap.size+1 < w2.heap.size:=om;have y2:¬w.heap.size+1=c:=om;have y3:¬w.heap.size=c:=om;have y5:b < w.heap.size+1+1:=om)
  | (go_at_call 117;refine (IH.out t.a[k] j _ mq HG.out.1 HG.out.2.1 hj HG.out.2.2 (by exact HC2.out) (by exact Zt2 (Zt0 ZxG) _ _ gx)).mono ?_;rw [HW2.out];rintro e1 w3 ⟨hb3,rfl,hk8,hk9⟩;have hz3:=hb3.size;(try simp at hz3);obtain ⟨hc3,hf3⟩:=ZE hb3;have y4:w.heap.size+1 < w3.heap.size:=om))
 exact Zxy
theorem Zdt (t:GT) (n:Nat) (w:World) (A:Nat→Prop) (m:TA) (hn:n≤16) (hl:RT w A t m):
  Calls prog 192 #[TV t m,.int .i64 n] w fun e w'=>Below w.heap.size w w'∧∃a cp,e=.returned (.slice a (List.replicate n t).length cp)∧RTs w' (fun b=>A b∨w.heap.size≤b) (List.replicate n t) a:=by
 obtain ⟨ma,mb,mc,md,me,mf,mg,mh,mi,mj,mk,ml⟩:=m
 have HT:=hid (Zud (A':=fun b=>A b∧b < w.heap.size) (fun b h hb=>⟨h,hb⟩) _ _ hl)
 obtain ⟨i0,hi0,y0,y1,y2⟩:=info_parts Uy
 clear hl
 go_enter func192,ntmps192
 go_wp2_with fail
 go_loopg [5,6] (n) (fun gk t5 i' wr=>∃(j:Nat) (ps:List (GT×TA)) (v:Value),v=t5∧gk+j=n∧i'=.int .i64 j∧Below w.heap.size w wr∧w.heap.size < wr.heap.size ∧
  Hid (At wr w.heap.size 0 [.int .u8 t.k,.int .u8 t.v.k,.int .i64 t.v.n,.slice ma t.v.l.length mb,.slice mc t.vs.length md,.int .i64 t.lo,.int .i64 t.hi,.slice me t.w.length mf,.int .u8 t.p.k,.int .u8 t.p.v.k,.int .i64 t.p.v.n,.slice mg t.p.v.l.length mh,.int .i64 t.p.n,.slice mi t.p.a.length mj,.slice mk t.a.length ml]) ∧
  Hid (ps.length=j)∧Hid (ps.map Prod.fst=List.replicate j t) ∧
  Hid (wr.ownsRow (w.heap.size+1) 31 15 v j (Vc ps))∧Hid (∀q∈ps,RT wr (Own (w.heap.size+1) A v) q.1 q.2))
 case atStart=>exact ⟨0,[],_,rfl,om,rfl,ZtZ,sm,hid (ZO.2 ⟨gs,gs,gs,gs,gs,gs,gs,gs,gs,gs,gs,gs,gs,gs,gs⟩),hid rfl,hid rfl,hid (World.ownsRow_nil _ _ _ _),hid (fun q hq=>by simp at hq)⟩
 case round=>
  obtain ⟨j,ps,v,rfl,hj,rfl,hb,hz,HAT,HPL,HP,HO,HQ⟩:=hrel
  by_cases hlt:j < n
  ·obtain ⟨z0,z1,z2,z3,z4,z5,z6,z7,z8,z9,za,zb,zc,zd,ze⟩:=ZO.1 HAT.out
   go_wp2_with (at_builtin;refine wpList_append_lies _ rfl _ _ 29 rfl (w.heap.size+1) 31 i0 _ 15 216 underlying29 hi0 y0 y1 y2 rfl (by decide) _ j _ (by rfl) (HO.out.alloc _) ⟨wr.heap.size,0,none⟩ 1 1 [.int .u8 t.k,.int .u8 t.v.k,.int .i64 t.v.n,.slice ma t.v.l.length mb,.slice mc t.vs.length md,.int .i64 t.lo,.int .i64 t.hi,.slice me t.w.length mf,.int .u8 t.p.k,.int .u8 t.p.v.k,.int .i64 t.p.v.n,.slice mg t.p.v.l.length mh,.int .i64 t.p.n,.slice mi t.p.a.length mj,.slice mk t.a.length ml] (by rfl) rfl (fun j u hu=>World.news_of_block (heap_alloc_new wr _) j u (by simpa using hu)) (by simp [Value.oneCell']) (by decide) (by unfold maxLen;omega) om (by simp;omega) (wr.heap.size+1) sm ?_;intro g cap w4 hown hgrow hat hlt1)
   have hownk:∀q,v.ownBlock=some q→w.heap.size+1≤q:=fun q e=>(HO.out.lt _ e).1
   have hbw1:Below (w.heap.size+1) wr w4:=Below.grown ((Below.refl _ _).alloc om _) hgrow (by simp;omega) hownk
   have hag2:Agree (Own (w.heap.size+1) A v) wr (wr.alloc (.cells #[.int .u8 t.k,.int .u8 t.v.k,.int .i64 t.v.n,.slice ma t.v.l.length mb,.slice mc t.vs.length md,.int .i64 t.lo,.int .i64 t.hi,.slice me t.w.length mf,.int .u8 t.p.k,.int .u8 t.p.v.k,.int .i64 t.p.v.n,.slice mg t.p.v.l.length mh,.int .i64 t.p.n,.slice mi t.p.a.length mj,.slice mk t.a.length ml] 31)):=ZtY ((Below.refl _ _).alloc (Nat.le_refl _) _)
   go_roundg (gk - 1)
   case measure=>omega
   case rel=>
    refine ⟨j+1,ps++[(t,⟨ma,mb,mc,md,me,mf,mg,mh,mi,mj,mk,ml⟩)],_,rfl,om,by go_num,hb.trans (hbw1.mono om),by have:=hbw1.size;omega,hid (Zuf (A:=fun b=>b=w.heap.size) (fun q u hq hc=>⟨(hbw1.cell (p:=q) (by simp at hq;omega)).trans hc,hbw1.frozen (p:=q) (by simp at hq;omega)⟩) rfl _ _ HAT.out),hid (by have:=HPL.out;simp;omega),hid (by rw [List.map_append,HP.out,List.replicate_succ'];rfl),hid ?_,hid ?_⟩
    ·rw [WF];exact hown
    intro q hq
    rcases List.mem_append.1 hq with hq|hq
    ·exact RT.own hgrow hownk hat sm (Zt2 hag2 _ _ (HQ.out q hq))
    simp at hq
    subst hq
    exact RT.own hgrow hownk hat sm (Zt2 hag2 _ _ (Zud (fun b h _=>.inl ⟨h.1,om⟩) _ _ (Zt2 (ZtY hb) _ _ HT.out)))
  have hjl:j=n:=om
  subst hjl
  have hst:=HP.out
  have hE:=VJ (A:=fun b=>A b∨w.heap.size≤b) HO.out (fun b h=>.inr om) (fun q hq=>Zud (fun b hb _=>by rcases hb with ⟨h,_⟩|⟨h,_⟩;exact .inl h;exact .inr om) _ _ (HQ.out q hq))
  obtain ⟨av,cv,hav,hrd⟩:=hE
  rw [hst] at hav hrd
  have HRD:=hid hrd
  have HAV:=hid hav
  clear hst hrd hav
  go_wp2_with fail
  go_ret
  exact ⟨hb,av,cv,by rw [←HAV.out];rfl,HRD.out⟩
set_option maxRecDepth 512
theorem Zev {g:GT→Nat→Res GV} (x:GT):∀(n i:Nat),QF (g x) n i=Xt g (List.replicate n x) i
 | 0,i=>by simp [QF,Xt]
 | n+1,i=>by
  rw [List.replicate_succ]
  simp only [QF,Xt]
  congr 1
  funext v j
  rw [Zev x n j]
theorem Zio {s:ByteArray} {lo hi:Int} {i:Nat} {n:Int} {j:Nat} (h:WK s lo hi i=.ok n j) (hl:lo≤hi) (hi0:i≤s.size):lo≤n∧n≤hi∧j≤s.size:=by
 have hd:=Yk s (hi - lo+1).toNat i hi0
 unfold WK K8 at h
 rcases hP:ZN s (hi - lo+1).toNat i with ⟨_|v,j'⟩
 ·rw [hP] at h;simp [Y2,Res.map] at h
 rw [hP] at h hd
 simp only [Y2,Res.map,Res.ok.injEq] at h
 obtain ⟨rfl,rfl⟩:=h
 have:=hd.2.2 v rfl
 have:=hd.2.1
 omega
theorem Zjp {s:ByteArray} {lo hi:Int} {i k:Nat} (h:WK s lo hi i=.no k):k=2:=by
 unfold WK K8 at h
 revert h
 rcases ZN s (hi - lo+1).toNat i with ⟨_|v,j⟩<;>simp [Y2,Res.map]<;>omega
theorem ZaA (t:GT) (n:Nat) (w:World) (A:Nat→Prop) (m:TA) (hn:n≤16) (hl:RT w A t m):
  Calls prog 192 #[TV t m,.int .i64 n] w fun e w'=>Below w.heap.size w w'∧∃a cp,e=.returned (.slice a n cp)∧RTs w' (fun b=>A b∨w.heap.size≤b) (List.replicate n t) a:=
 (Zdt t n w A m hn hl).mono fun e w' ⟨h1,a,cp,h2,h3⟩=>⟨h1,a,cp,by rw [h2,List.length_replicate],h3⟩
theorem ZcI (c:Nat) (s:ByteArray) (f:Nat) (ih:WT c s f) (l:List GT) (n:Nat) (hn:l.length=n) (i:Nat) (w:World) (al:Option Addr) (cp:Nat) (hl64:l.length≤64)
  (hl:∀x∈l,Zp false x∧okT x∧∃k n,wkT f x [] k n≠none) (hi:i≤s.size) (hc:Cur w c s i false) (hr:RTs w (fun b=>b≠c) l al):
  Calls prog 190 #[.pointer (some ⟨c,0,none⟩),.slice al n cp] w (ZhJ c s (Xt (fun x=>Zd s f x []) l i) w):=by
 subst hn
 exact XU c s f ih l i w al cp hl64 hl hi hc hr
set_option maxRecDepth 100000
theorem Zk1 (c:Nat) (s:ByteArray) (f:Nat) (ih:WT c s f) (t:GT) (i:Nat) (w:World) (m:TA) (hb:Zc s=true) (hk:t.k=6) (hn:ZG t=0) (hx:∀x∈t.a,Zp false x∧okT x∧∃k n,wkT f x [] k n≠none) (hi:i≤s.size) (hc:Cur w c s i false) (hl:RT w (fun b=>b≠c) t m):
  Calls prog 117 #[.pointer (some ⟨c,0,none⟩),TV t m] w (WL c s (Zd s (f+1) t [] i) w):=by
 rw [ZaS s f t [] i hk]
 obtain ⟨ma,mb,mc,md,me,mf,mg,mh,mi,mj,mk,ml⟩:=m
 obtain ⟨hal,h0,h1,h2⟩:=WO hn hk
 have HL:=hid (Zo.1 hl).2.2.2.2
 have HC:=hid hc
 have HB:=hid hb
 have HX:=hid hx
 have IH:=hid ih
 have hcs:c < w.heap.size:=World.block_lt_of_cell? _ _ hc.1.1
 have hk1:(t.k==1)=false:=by simp [hk]
 have hk2:(t.k==2)=false:=by simp [hk]
 have hk3:(t.k==3)=false:=by simp [hk]
 have hk4:(t.k==4)=false:=by simp [hk]
 have hk5:(t.k==5)=false:=by simp [hk]
 have hk6:(t.k==6)=true:=by simp [hk]
 clear hc hk hl hx ih hn hb
 rcases hN:WK s t.lo t.hi i with ⟨n,j⟩|⟨k⟩
 ·obtain ⟨n1,n2,hj⟩:=Zio hN h1 hi
  obtain ⟨N,rfl⟩:∃N:Nat,n=N:=⟨n.toNat,om⟩
  have HN:=hid hN
  have h0l:0 < t.a.length:=om
  obtain ⟨b,o,mq,rfl,hA,hbs,g0,gx⟩:=HL.out.get 0 h0l
  obtain ⟨z0,z1,z2,z3,z4,z5,z6,z7,z8,z9,za,zb,zc,zd,ze⟩:=Yp.1 (show At w b o _ by simpa using g0)
  have hI0:(0:Int) < (t.a.length:Int):=om
  have hbc:¬b=c:=hA
  have HG:=hid (fun x (hx:x∈List.replicate N (t.a[0]'h0l))=>(by rw [(List.mem_replicate.1 hx).2];exact HX.out _ (List.getElem_mem h0l):Zp false x∧okT x∧∃k n,wkT f x [] k n≠none))
  have e0:(fun j=>atD (fun x=>Zd s f x []) t.a 0 j)=(fun x=>Zd s f x []) (t.a[0]'h0l):=by
   funext j;simp only [atD,List.getElem?_eq_getElem h0l]
  simp only [Res.bind,e0,Int.toNat_natCast]
  rw [Zev (g:=fun x=>Zd s f x []) (t.a[0]'h0l) N j]
  have hN64:(List.replicate N (t.a[0]'h0l)).length≤64:=by rw [List.length_replicate];omega
  clear hN g0 hA e0
  rcases hW:Xt (fun x=>Zd s f x []) (List.replicate N (t.a[0]'h0l)) j with ⟨l,q⟩|⟨k'⟩
  ·have HW:=hid hW
   clear hW
   go_enter func117,ntmps117
   go_wp2_with (first
    | (go_at_call 186;refine (V2 c s i t.lo t.hi _ HB.out hi om h1 om (by exact Zt3 (B:=w.heap.size) ZtZ hcs HC.out)).mono ?_;rw [HN.out];rintro e w2 ⟨hb2,rfl,hc2⟩;have HC2:=hid hc2;clear hc2;have hz2:=hb2.size;(try simp at hz2);obtain ⟨hc2,hf2⟩:=ZE hb2;have y1:w.heap.size+1 < w2.heap.size:=om;have y2:¬w.heap.size+1=c:=om;have y3:¬w.heap.size=c:=om;have y5:b < w.heap.size+1+1:=om)
    | (go_at_call 192;refine (ZaA (t.a[0]'h0l) N _ (fun b=>b≠c) mq om (by exact Zt2 (Zt0 ZxG) _ _ gx)).mono ?_;rintro e w3 ⟨hb3,a3,p3,rfl,hr3⟩;have HR3:=hid (RTs.mono (A':=fun b=>b≠c) (fun b hb _=>(by rcases hb with h|h;exact h;(try simp at h);omega)) _ _ hr3);clear hr3;have hz3:=hb3.size;(try simp at hz3);obtain ⟨hc3,hf3⟩:=Za hb3;have y4:w.heap.size+1 < w3.heap.size:=om)
    | (go_at_call 190;refine (ZcI c s f IH.out (List.replicate N (t.a[0]'h0l)) N (by rw [List.length_replicate]) j _ a3 p3 hN64 HG.out hj (by exact Zt3 (B:=w2.heap.size) ZtZ om HC2.out) (by exact HR3.out)).mono ?_;rw [HW.out];rintro e w4 ⟨hb4,⟨a,cp,rfl,hrv⟩,hc4⟩;have HC4:=hid hc4;have HRV:=hid hrv;clear hc4 hrv;have hz4:=hb4.size;(try simp at hz4);obtain ⟨hc4,hf4⟩:=ZE hb4;have y6:w.heap.size+1 < w4.heap.size:=om)
    | (go_at_call 191;refine (U2 4 a l.length cp _).mono ?_;rintro e w5 ⟨rfl,hb5⟩;have hz5:=hb5.size;(try simp at hz5);obtain ⟨hc5,hf5⟩:=Za hb5;have y7:w.heap.size+1 < w5.heap.size:=om))
   refine bodyPost_ret (v:=(.tuple #[VV ⟨4,0,l⟩ ⟨a,cp⟩,.int .u8 1])) (by first|(simp [results,Tryz.f117,go_sem];done)|(simp [results,Tryz.f117,go_sem, *];done)) rfl ?_
   exact ⟨ZxG,⟨⟨a,cp⟩,rfl,Zl.2 (Zug (fun b hb _=>by (try simp at hb);omega) _ _ (Zt8 ((ZtY (show Below w4.heap.size w4 w5 from ZtZ)).trans (((Zt4 so).trans (Zt4 so)).trans (Zt4 so))) _ _ HRV.out))⟩,Zt3 (B:=w.heap.size+1) ZtZ om HC4.out⟩
  have HW:=hid hW
  clear hW
  go_enter func117,ntmps117
  go_wp2_with (first
   | (go_at_call 186;refine (V2 c s i t.lo t.hi _ HB.out hi om h1 om (by exact Zt3 (B:=w.heap.size) ZtZ hcs HC.out)).mono ?_;rw [HN.out];rintro e w2 ⟨hb2,rfl,hc2⟩;have HC2:=hid hc2;clear hc2;have hz2:=hb2.size;(try simp at hz2);obtain ⟨hc2,hf2⟩:=ZE hb2;have y1:w.heap.size+1 < w2.heap.size:=om;have y2:¬w.heap.size+1=c:=om;have y3:¬w.heap.size=c:=om;have y5:b < w.heap.size+1+1:=om)
   | (go_at_call 192;refine (ZaA (t.a[0]'h0l) N _ (fun b=>b≠c) mq om (by exact Zt2 (Zt0 ZxG) _ _ gx)).mono ?_;rintro e w3 ⟨hb3,a3,p3,rfl,hr3⟩;have HR3:=hid (RTs.mono (A':=fun b=>b≠c) (fun b hb _=>(by rcases hb with h|h;exact h;(try simp at h);omega)) _ _ hr3);clear hr3;have hz3:=hb3.size;(try simp at hz3);obtain ⟨hc3,hf3⟩:=Za hb3;have y4:w.heap.size+1 < w3.heap.size:=om)
   | (go_at_call 190;refine (ZcI c s f IH.out (List.replicate N (t.a[0]'h0l)) N (by rw [List.length_replicate]) j _ a3 p3 hN64 HG.out hj (by exact Zt3 (B:=w2.heap.size) ZtZ om HC2.out) (by exact HR3.out)).mono ?_;rw [HW.out];rintro e w4 ⟨hb4,rfl,hk8,hk9⟩;have hz4:=hb4.size;(try simp at hz4);obtain ⟨hc4,hf4⟩:=ZE hb4;have y6:w.heap.size+1 < w4.heap.size:=om)
   | (go_at_call 191;refine (KE 4 k' none 0 0 _ (by simp;omega)).mono ?_;rintro e w5 ⟨rfl,hb5⟩;have hz5:=hb5.size;(try simp at hz5);obtain ⟨hc5,hf5⟩:=Za hb5;have y7:w.heap.size+1 < w5.heap.size:=om))
  exact Zxy
 obtain rfl:=Zjp hN
 have HN:=hid hN
 clear hN
 show Calls _ _ _ _ (WL c s (.no 2) w)
 go_enter func117,ntmps117
 go_wp2_with (go_at_call 186;refine (V2 c s i t.lo t.hi _ HB.out hi om h1 om (by exact Zt3 (B:=w.heap.size) ZtZ hcs HC.out)).mono ?_;rw [HN.out];rintro e w2 ⟨hb2,rfl⟩;have hz2:=hb2.size;(try simp at hz2);obtain ⟨hc2,hf2⟩:=ZE hb2;have y1:w.heap.size+1 < w2.heap.size:=om;have y2:¬w.heap.size+1=c:=om;have y3:¬w.heap.size=c:=om)
 exact Zxm
set_option maxRecDepth 512
theorem Zks {a:Option Addr} {n c c':Nat} {v:Value} (h:c=c'):Ending.returned (.tuple #[.slice a n c,v])=.returned (.tuple #[.slice a n c',v]):=by rw [h]
set_option maxRecDepth 100000
theorem Zft (l:List Int) (w:World) (A:Nat→Prop) (a:Option Addr) (cp:Nat) (hn:l.length≤63) (hd:JP l) (hr:RIs w A l a):
  Calls prog 246 #[.slice a l.length cp] w fun e w'=>Below w.heap.size w w'∧∃g,e=.returned (.tuple #[.slice (some ⟨g,0,none⟩) (Y7 l (Zt (l.length+1))).length (l.length+1),.int .i64 0])∧IRow 3 w' w.heap.size g (l.length+1) (Y7 l (Zt (l.length+1))):=by
 have HL:=hid hr
 have HD:=hid hd
 obtain ⟨i0,hi,hz0,hz1,hz2⟩:=info_parts XB
 have hpl:=(QX (C:=fun _=>True) l (Zt (l.length+1)) (fun _ _=>trivial) (by rw [Zs];exact Nat.le_refl _) hd).1
 rw [Zs] at hpl
 generalize hR:Y7 l (Zt (l.length+1))=R at *
 have HR:=hid hR
 obtain ⟨N,hN⟩:∃N,N=l.length+1:=⟨_,rfl⟩
 have hw0:IntKind.i64.wrap ((l.length:Int)+1)=(N:Int):=by rw [IntWalk.i64_in _ om];omega
 have hw1:decide ((64:Int) < (N:Int))=false:=by simp;omega
 have HN:=hid hN
 have hNl:N≤64:=om
 have hl1:l.length≤63:=hn
 have hlN:l.length < N:=om
 clear hr hd hR
 rw [←hN] at hpl
 clear hN
 go_enter func246,ntmps246
 go_wp2_with fail
 go_loopg [5] (l.length) (fun gk i wr=>∃k:Nat,gk+k=l.length∧i=.int .i64 k∧w=wr)
 case atStart=>exact ⟨0,om,rfl,rfl⟩
 case round=>
  obtain ⟨k,hk,rfl,rfl⟩:=hrel
  by_cases hlt:k < l.length
  ·obtain ⟨b,o,rfl,hA,hbs,g0⟩:=HL.out.get k hlt
   obtain ⟨d0,d1⟩:=UN l k hlt HD.out
   have e1:decide (l[k] < 0)=false:=by simp;omega
   have e2:decide ((N:Int) - (k:Int)≤l[k])=false:=by have:=HN.out;simp;omega
   have e3:IntKind.i64.wrap ((N:Int) - (k:Int))=(N:Int) - (k:Int):=IntWalk.i64_in _ om
   clear d0 d1
   go_wp2_with fail
   go_roundg (gk - 1)
   case measure=>omega
   case rel=>exact ⟨k+1,om,by go_num,rfl⟩
  have hjl:k=l.length:=om
  subst hjl
  go_wp2_with (at_make;refine wpList_make_full _ rfl _ _ 215 rfl w.heap.size 3 i0 _ 1 rfl hi hz0 hz1 .i64 .i64 _ _ N rfl rfl rfl rfl (by rw [hz2];omega) (by unfold maxLen;omega) (Nat.le_refl _) ?_;intro w1 hown hgrow)
  have hz1:w.heap.size < w1.heap.size:=(hown.lt _ rfl).2
  have hb1:Below w.heap.size w w1:=Below.grown (Below.refl _ _) hgrow (Nat.le_refl _) (fun k e=>by cases e)
  have HO:=hid (IRow.zero hown)
  clear hown hgrow
  go_loopg [7] N (fun gk i wr=>∃j:Nat,gk+j=N∧i=.int .i64 j∧Below w.heap.size w wr∧w.heap.size < wr.heap.size∧Hid (IRow 3 wr w.heap.size w.heap.size N (Zt j++List.replicate (N - j) 0)))
  case atStart=>exact ⟨0,om,rfl,hb1,hz1,by simpa [Zt] using HO⟩
  case round=>
   obtain ⟨j,hj,rfl,hb,hz,HW⟩:=hrel
   by_cases hlt:j < N
   ·have hlen:(Zt j++List.replicate (N - j) (0:Int)).length=N:=by simp [Zs];omega
    obtain ⟨u,hcl⟩:∃u,wr.cell? ⟨w.heap.size,j,none⟩=some (.int .i64 u):=⟨_,HW.out.cell j om⟩
    have hfz:=HW.out.frz
    obtain ⟨s1,s2⟩:=HW.out.set j j
    rw [Qa N j hlt] at s1
    have HS:=hid s1
    clear s1 s2 hlen
    go_wp2_with fail
    go_roundg (gk - 1)
    case measure=>omega
    case rel=>exact ⟨j+1,om,by go_num,ZtZ,by simp;omega,HS⟩
   have hjl:j=N:=om
   have HW0:Hid (IRow 3 wr w.heap.size w.heap.size N (Zt N)):=hid (by rw [hjl] at HW;simpa using HW.out)
   have hg2:=hz
   clear HW
   go_wp2_with fail
   go_loopg [8] (l.length) (fun gk i wr=>∃k:Nat,gk+k=l.length∧i=.int .i64 k∧Below w.heap.size w wr∧w.heap.size < wr.heap.size∧∃zs:List Int,Hid (zs.length=N)∧Hid (Y7 (l.drop k) zs=R)∧Hid (IRow 3 wr w.heap.size w.heap.size N zs))
   case atStart=>exact ⟨0,om,rfl,hb,hg2,Zt N,hid (by rw [Zs]),hid (by rw [List.drop_zero,←HR.out,HN.out]),HW0⟩
   case round=>
    obtain ⟨k,hk,rfl,hb,hz,zs,HZ,HP,HW⟩:=hrel
    have hzl:=HZ.out
    by_cases hlt:k < l.length
    ·obtain ⟨b,o,rfl,hA,hbs,g0⟩:=HL.out.get k hlt
     have k0:wr.cell? ⟨b,o+k,none⟩=some (.int .i64 l[k]):=(hb.cell hbs).trans g0
     obtain ⟨d0,d1⟩:=UN l k hlt HD.out
     have hst:=Zar l zs k hlt
     rw [HP.out,ZcY zs _ _ om om] at hst
     have hfz:=HW.out.frz
     obtain ⟨q,hq⟩:∃q:Nat,l[k]=(q:Int):=⟨l[k].toNat,om⟩
     rw [hq] at k0 d1
     obtain ⟨i,hik⟩:∃i:Nat,i+k=l.length:=⟨l.length - k,om⟩
     have hi1:l.length - k=i:=om
     have hi2:IntKind.i64.wrap ((N:Int) - 1)=(l.length:Int):=by have:=HN.out;rw [IntWalk.i64_in _ om];omega
     have hi3:IntKind.i64.wrap ((l.length:Int) - (k:Int))=(i:Int):=by rw [IntWalk.i64_in _ om];omega
     simp only [hq,hi1,Int.toNat_natCast] at hst d1
     have hiz:i < zs.length:=om
     have hqz:q < zs.length:=om
     have cq:=HW.out.cell q hqz
     have ci:=HW.out.cell i hiz
     generalize zs[q]=vq at *
     generalize zs[i]=vi at *
     obtain ⟨s1,s2⟩:=HW.out.set i vq
     obtain ⟨s3,s4⟩:=s1.set q vi
     obtain ⟨u2,hu2⟩:∃u,(wr.setCell ⟨w.heap.size,i,none⟩ (.int .i64 vq)).cell? ⟨w.heap.size,q,none⟩=some u:=⟨_,s1.cell q (by rw [List.length_set];exact hqz)⟩
     have hfz2:=s1.frz
     have HS:=hid s3
     have HST:=hid hst
     have hs1:b < wr.heap.size:=om
     have hqj:q < N:=om
     have hij:i < N:=om
     clear s1 s2 s3 s4 hst g0 hq d0 hi1 hzl hiz hqz
     go_wp2_with fail
     go_region
     go_wp2_with fail
     go_roundg (gk - 1)
     case measure=>omega
     case rel=>exact ⟨k+1,om,by go_num,ZtZ,by simp;omega,_,hid (by have:=HZ.out;simp;omega),hid HST.out.symm,HS⟩
    have hjl:k=l.length:=om
    subst hjl
    go_wp2_with fail
    go_ret2
    rw [List.drop_length,Y7] at HP
    have hz9:zs=R:=HP.out
    subst hz9
    exact ⟨hb,w.heap.size,by rw [hpl];exact Zks HN.out,by rw [←HN.out];exact HW.out⟩
set_option maxRecDepth 512
theorem Zdm (s:ByteArray) (i c:Nat) (w:World) (hc:Cur w c s i false):
  Calls prog 193 #[.pointer (some ⟨c,0,none⟩),.int .i64 0] w (Zb7 c s (Xi s 0 i) w):=by
 have HC:=hid hc
 clear hc
 go_enter func193,ntmps193
 go_wp2_with fail
 go_ret2
 exact ⟨ZxG,⟨none,0,rfl,by simp [RIs]⟩,HC.out⟩
set_option maxRecDepth 100000
theorem Zek (s:ByteArray) (n i c:Nat) (w:World) (hb:Zc s=true) (hi:i≤s.size) (hn:1≤n∧n≤64) (hc:Cur w c s i false):
  Calls prog 193 #[.pointer (some ⟨c,0,none⟩),.int .i64 n] w (Zb7 c s (Xi s n i) w):=by
 obtain ⟨hn1,hn2⟩:=hn
 have hcs:c < w.heap.size:=World.block_lt_of_cell? _ _ hc.1.1
 have HB:=hid hb
 have HC:=hid hc
 have hdr:=Vt s (n - 1) i hi
 obtain ⟨j0,hj0,hj1',hj2,hj3⟩:=info_parts XB
 have hn0:((n:Int)==0)=false:=beq_eq_false_iff_ne.2 om
 have hn3:¬(n:Int) < 0:=om
 have hn4:¬(64:Int) < (n:Int):=om
 have hR0:XN s [] (n - 1) i=ZI s (n - 1) i:=by
  unfold XN
  rcases ZI s (n - 1) i with ⟨_|r,q⟩<;>simp
 have hP1:∀j,ZI s (n - 1) i=(none,j)→Xi s n i=(none,j):=fun j h=>by unfold Xi;rw [h]
 have hP2:∀l j,ZI s (n - 1) i=(some l,j)→Xi s n i=(some (Y7 l (Zt (l.length+1))),j):=fun l j h=>by unfold Xi;rw [h];simp only [];rw [if_neg om]
 generalize hP:Xi s n i=P at *
 generalize hR:ZI s (n - 1) i=R at *
 have HP1:=hid hP1
 have HP2:=hid hP2
 have HR0:=hid hR0
 have HDR:=hid hdr
 have hw0:IntKind.i64.wrap ((n:Int) - 1)=((n - 1:Nat):Int):=by rw [IntWalk.i64_in _ om];omega
 clear hc hb hR0 hdr hR hP1 hP2 hP
 go_enter func193,ntmps193
 go_wp2_with fail
 go_loopg [6,7] (n - 1) (fun gk v i' wr=>∃(k p:Nat) (D:List Int),gk+k=n - 1∧i'=.int .i64 ((n - 1 - k:Nat):Int)∧p≤s.size∧But c w.heap.size w wr∧w.heap.size≤wr.heap.size∧Hid (D.length=k)∧Hid (XN s D (n - 1 - k) p=R)∧Hid (Cur wr c s p false) ∧
  Hid (wr.ownsRow w.heap.size 3 1 v k (D.map (Value.int .i64))))
 case atStart=>exact ⟨0,i,[],om,rfl,hi,ZxG,om,rfl,by simpa using HR0,HC,World.ownsRow_nil _ _ _ _⟩
 case round=>
  obtain ⟨k,p,D,hk,rfl,hp,hb,hz,HL,HP,HCU,HO⟩:=hrel
  by_cases hlt:k < n - 1
  ·obtain ⟨r,hr⟩:∃r,n - 1 - k=r+1:=⟨n - 1 - k - 1,om⟩
   have hst:=HP.out
   rw [hr,Kg] at hst
   obtain ⟨m,hm2⟩:∃m,m=r+2:=⟨_,rfl⟩
   rw [←hm2] at hst
   obtain ⟨x,hx⟩:∃x,x=n - 1 - k:=⟨_,rfl⟩
   rw [←hx]
   have hm0:0 < m∧m < 18446744073709551616:=om
   have hg1:0 < x:=om
   have hg2:IntKind.i64.wrap ((x:Int)+1)=(m:Int):=by rw [IntWalk.i64_in _ om];omega
   have hg3:IntKind.u64.wrap (m:Int)=(m:Int):=by rw [IntKind.wrap_u64];omega
   have hg4:IntKind.i64.wrap ((x:Int) - 1)=(r:Int):=by rw [IntWalk.i64_in _ om];omega
   have hdd:=Yk s m p hp
   rcases hD:ZN s m p with ⟨_|v',j⟩
   ·rw [hD] at hst
    have HD:=hid hD
    have HST:=hid hst
    clear hst hD hdd hr hm2 hx
    go_wp2_with (go_at_call 242;refine (Yw c s p m _ _ HB.out hp hm0 rfl (by exact HCU.out)).mono ?_;rw [HD.out];rintro e w3 ⟨hb3,rfl,hc3⟩;have HC3:=hid hc3;clear hc3)
    go_ret2
    rw [HP1.out _ HST.out.symm]
    exact ⟨ZxG,rfl,HC3.out⟩
   rw [hD] at hst hdd
   have hv:=hdd.2.2 v' rfl
   have hj1:=hdd.2.1
   simp only [] at hj1 hv
   have HD:=hid hD
   have HST:=hid hst
   have hg5:IntKind.i64.wrap (v':Int)=(v':Int):=IntWalk.i64_in _ om
   have HR:=hid (show n - 1 - (k+1)=r by omega)
   clear hst hD hdd hr hm2 hx
   go_wp2_with (first
    | (go_at_call 242;refine (Yw c s p m _ _ HB.out hp hm0 rfl (by exact HCU.out)).mono ?_;rw [HD.out];rintro e w3 ⟨hb3,rfl,hc3⟩;have HC3:=hid hc3;clear hc3;have hz3:=hb3.size;have HO3:=hid (Vf HO.out hb3 (fun q hq=>(by have:=HO.out.lt _ hq;omega))))
    | (at_builtin;refine wpList_append_lies _ rfl _ _ 215 rfl w.heap.size 3 j0 (.int .i64 0) 1 8 underlying215 hj0 hj1' hj2 hj3 rfl (by decide) _ k _ (by rfl) (HO3.out.alloc _) ⟨w3.heap.size,0,none⟩ 1 1 [.int .i64 v'] (by rfl) rfl (cell_one_new _ _ _) (by simp [Value.oneCell']) (by decide) (by unfold maxLen;omega) om (by simp;omega) (w3.heap.size+1) sm ?_;intro g cap w4 hown hgrow hat hlt1))
   have hbw:Below w.heap.size w3 w4:=Below.grown ((Below.refl _ _).alloc om _) hgrow (by simp;omega) (fun q e=>(HO3.out.lt _ e).1)
   go_roundg (gk - 1)
   case measure=>omega
   case rel=>
    refine ⟨k+1,j,D++[(v':Int)],om,by rw [HR.out],hj1,(hb.trans (hb3.mono hz)).trans (Zue hbw),by have:=hbw.size;omega,by have:=HL.out;simp [Hid];exact this,?_,Zt3 hbw hcs HC3.out,hid ?_⟩
    ·rw [HR.out];exact HST
    rw [List.map_append];exact hown
  have hjl:k=n - 1:=om
  have hst:=HP.out
  rw [hjl,Nat.sub_self] at hst
  have hst2:R=(some D,p):=by rw [←hst];simp [XN,ZI]
  have hdr:=HDR.out.2.2 D (by rw [hst2])
  obtain ⟨av,cv,rfl,hrd⟩:=QW HO.out
  have HRD:=hid hrd
  have HF:=hid (HP2.out D p hst2)
  have hdl:D.length≤63:=om
  have HDN:=hid hdr.2
  have hg1:¬0 < n - 1 - k:=om
  clear hst hst2 hdr hrd
  go_wp2_with (go_at_call 246;refine (Zft D _ _ av cv hdl HDN.out (by exact HRD.out)).mono ?_;rintro e w3 ⟨hb3,g,rfl,hrow⟩;have HRW:=hid hrow;clear hrow)
  go_ret2
  rw [HF.out]
  exact ⟨ZxG,⟨_,_,rfl,HRW.out.ris (by have:=HRW.out.lt;omega)⟩,Zt3 hb3 om HCU.out⟩
set_option maxRecDepth 512
theorem ZbL (s:ByteArray) (n i c:Nat) (w:World) (hb:Zc s=true) (hi:i≤s.size) (hn:n≤64) (hc:Cur w c s i false):
  Calls prog 193 #[.pointer (some ⟨c,0,none⟩),.int .i64 n] w (Zb7 c s (Xi s n i) w):=by
 rcases Nat.eq_zero_or_pos n with h|h
 ·subst h;exact Zdm s i c w hc
 exact Zek s n i c w hb hi ⟨h,hn⟩ hc
set_option maxRecDepth 100000
theorem Zk2 (c:Nat) (s:ByteArray) (f:Nat) (ih:WT c s f) (t:GT) (i:Nat) (w:World) (m:TA) (hb:Zc s=true) (hk:t.k=7) (hn:ZG t=0) (hx:∀x∈t.a,Zp false x∧okT x∧∃k n,wkT f x [] k n≠none) (hi:i≤s.size) (hc:Cur w c s i false) (hl:RT w (fun b=>b≠c) t m):
  Calls prog 117 #[.pointer (some ⟨c,0,none⟩),TV t m] w (WL c s (Zd s (f+1) t [] i) w):=by
 rw [ZaT s f t [] i hk]
 obtain ⟨ma,mb,mc,md,me,mf,mg,mh,mi,mj,mk,ml⟩:=m
 have h64:=Wt hn (.inr (.inl hk))
 have hin:=QM (D:=okV) (m:=s.size) t.a i hi (fun y hy q hq=>WJ s (Zb y) f y [] q (hx y hy).1 (hx y hy).2.1 (Nat.le_refl _) trivial hq)
 have HL:=hid (Zo.1 hl).2.2.2.2
 have HC:=hid hc
 have HB:=hid hb
 have HX:=hid hx
 have IH:=hid ih
 have hcs:c < w.heap.size:=World.block_lt_of_cell? _ _ hc.1.1
 have hk1:(t.k==1)=false:=by simp [hk]
 have hk2:(t.k==2)=false:=by simp [hk]
 have hk3:(t.k==3)=false:=by simp [hk]
 have hk4:(t.k==4)=false:=by simp [hk]
 have hk5:(t.k==5)=false:=by simp [hk]
 have hk6:(t.k==6)=false:=by simp [hk]
 have hk7:(t.k==7)=true:=by simp [hk]
 obtain ⟨i0,hi0,g0,g1,g2⟩:=info_parts US
 clear hc hk hl hx ih hn hb
 rcases hN:Xt (fun x=>Zd s f x []) t.a i with ⟨l,j⟩|⟨k⟩
 ·rw [hN] at hin
  obtain ⟨hi1,hi2,hi3,hi4⟩:=hin
  have HN:=hid hN
  have hll:l.length≤64:=om
  obtain ⟨c1,c2',c3⟩:=ZbD s l.length j hi2
  simp only [Res.bind]
  clear hN hi3 hi4 c1
  rcases hP:Xi s l.length j with ⟨_|row,q⟩
  ·have HP:=hid hP
   clear hP c2' c3
   show Calls _ _ _ _ (WL c s (.no 2) w)
   go_enter func117,ntmps117
   go_wp2_with (first
    | (go_at_call 190;refine (XU c s f IH.out t.a i _ mk ml h64 HX.out hi (by exact Zt3 (B:=w.heap.size) ZtZ hcs HC.out) (by exact RTs.ext ar _ _ HL.out)).mono ?_;rw [HN.out];rintro e w2 ⟨hb2,⟨a2,cp2,rfl,hrv⟩,hc2⟩;have HC2:=hid hc2;clear hc2 hrv;have hz2:=hb2.size;(try simp at hz2);obtain ⟨hc2,hf2⟩:=ZE hb2;have y1:w.heap.size+1 < w2.heap.size:=om;have y2:¬w.heap.size+1=c:=om;have y3:¬w.heap.size=c:=om)
    | (go_at_call 193;refine (ZbL s l.length j c _ HB.out hi2 hll (by exact HC2.out)).mono ?_;rw [HP.out];rintro e1 w3 ⟨hb3,rfl,hc3⟩;clear hc3;have hz3:=hb3.size;(try simp at hz3);obtain ⟨hc3,hf3⟩:=ZE hb3;have y4:w.heap.size+1 < w3.heap.size:=om))
   exact Zxm
  rw [hP] at c2' c3
  obtain ⟨hr1,hr2⟩:=c3 row rfl
  have HM:=hid hr2
  have hr64:row.length≤64:=om
  have hpl:(YC l row).length=row.length:=X6 _ _ hr2
  have HPL0:=hid hpl
  have HP:=hid hP
  clear hP c3 hr2 hpl hr1
  show Calls _ _ _ _ (WL c s (.ok ⟨4,0,YC l row⟩ q) w)
  go_enter func117,ntmps117
  go_wp2_with (first
   | (go_at_call 190;refine (XU c s f IH.out t.a i _ mk ml h64 HX.out hi (by exact Zt3 (B:=w.heap.size) ZtZ hcs HC.out) (by exact RTs.ext ar _ _ HL.out)).mono ?_;rw [HN.out];rintro e w2 ⟨hb2,⟨a2,cp2,rfl,hrv⟩,hc2⟩;have HC2:=hid hc2;have HRV:=hid (Zug (A':=fun b=>w.heap.size+2≤b) (fun b hb _=>(by (try simp at hb);omega)) _ _ hrv);clear hc2 hrv;have hz2:=hb2.size;(try simp at hz2);have y1:w.heap.size+1 < w2.heap.size:=om;have y2:¬w.heap.size+1=c:=om;have y3:¬w.heap.size=c:=om;have hbb2:But c w.heap.size w w2:=ZxG;have HZ2:=hid (show ZRes w2 (w.heap.size+1) from (by obtain ⟨hc2,hf2⟩:=ZE hb2;exact ⟨⟨gs,gs,gs⟩,gs,gs,gs⟩));clear hb2)
   | (go_at_call 193;refine (ZbL s l.length j c _ HB.out hi2 hll (by exact HC2.out)).mono ?_;rw [HP.out];rintro e1 w3 ⟨hb3,⟨a3,cp3,rfl,hri⟩,hc3⟩;have HC3:=hid hc3;have HI:=hid hri;have HR3:=hid (Zug (A':=fun b=>w.heap.size+2≤b∧b < w3.heap.size) (fun b h hb=>⟨h,hb⟩) _ _ (Zt8 (Agree.butFrom hb3 om) _ _ HRV.out));clear hc3 hri;have hz3:=hb3.size;(try simp at hz3);have y4:w.heap.size+1 < w3.heap.size:=om;have HZ3:=hid (HZ2.out.but hb3 y1 y2);have hbb3:But c w.heap.size w w3:=hbb2.trans (hb3.mono om);clear hb3))
  clear HRV HZ2 HC2 hbb2
  go_loopg [23,24] (row.length) (fun gk t23 i' wr=>∃(k:Nat) (ps:List (GV×VA)) (v:Value),v=t23∧gk+k=row.length∧i'=.int .i64 k∧Below w3.heap.size w3 wr∧Hid (ps.length=k)∧Hid (ps.map Prod.fst=YC l (row.take k)) ∧
   Hid (wr.ownsRow w3.heap.size 24 3 v k (Xd ps))∧Hid (∀q∈ps,RV wr (Own w3.heap.size (fun b=>w.heap.size+2≤b) v) q.1 q.2.a))
  case atStart=>exact ⟨0,[],_,rfl,om,rfl,Below.refl _ _,hid rfl,hid rfl,hid (World.ownsRow_nil _ _ _ _),hid (fun q hq=>by simp at hq)⟩
  case round=>
   obtain ⟨k,ps,v,rfl,hk,rfl,hbr,HPL,HPS,HO,HQ⟩:=hrel
   have hzr:=hbr.size
   by_cases hlt:k < row.length
   ·obtain ⟨b1,o1,rfl,hA1,hbs1,h1⟩:=HI.out.get k hlt
    obtain ⟨x0,x1⟩:=HM.out row[k] (List.getElem_mem hlt)
    obtain ⟨n,hn⟩:∃n:Nat,row[k]=(n:Int):=⟨row[k].toNat,om⟩
    have hnl:n < l.length:=om
    have hnI:(n:Int) < (l.length:Int):=om
    have hst:=UZ l row k hlt n hn hnl
    rw [hn] at h1
    have r0:wr.cell? ⟨b1,o1+k,none⟩=some (.int .i64 n):=(hbr.cell hbs1).trans h1
    obtain ⟨b,o,mj',rfl,hA,hbs,h0,gx⟩:=HR3.out.get n hnl
    obtain ⟨k0,k1,k2⟩:=At3.1 (h0.ext (ZtY hbr) (A:=fun _=>True) trivial)
    have hs1:b < wr.heap.size:=om
    have hs2:b1 < wr.heap.size:=om
    have HST:=hid hst
    clear h0 h1 hn x0 x1 hst
    go_wp2_with (at_builtin;refine wpList_append_lies _ rfl _ _ 22 rfl w3.heap.size 24 i0 _ 3 40 underlying22 hi0 g0 g1 g2 rfl (by decide) _ k _ (by rfl) (HO.out.alloc _) ⟨wr.heap.size,0,none⟩ 1 1 [.int .u8 l[n].k,.int .i64 l[n].n,.slice mj'.a l[n].l.length mj'.c] (by rfl) rfl (UK _ _ _ _ _) (by simp [Value.oneCell']) (by decide) (by unfold maxLen;omega) om (by simp;omega) (wr.heap.size+1) sm ?_;intro g cap w4 hown hgrow hat hlt1)
    have hownk:∀q,v.ownBlock=some q→w3.heap.size≤q:=fun q e=>(HO.out.lt _ e).1
    have hbw1:Below w3.heap.size wr w4:=Below.grown ((Below.refl _ _).alloc om _) hgrow (by simp;omega) hownk
    have hag2:Agree (Own w3.heap.size (fun b=>w.heap.size+2≤b) v) wr (wr.alloc (.cells #[.int .u8 l[n].k,.int .i64 l[n].n,.slice mj'.a l[n].l.length mj'.c] 24)):=ZtY ((Below.refl _ _).alloc (Nat.le_refl _) _)
    go_roundg (gk - 1)
    case measure=>omega
    case rel=>
     refine ⟨k+1,ps++[(l[n],mj')],_,rfl,om,by go_num,hbr.trans hbw1,hid (by have:=HPL.out;simp;omega),hid (by rw [List.map_append,HPS.out,HST.out];rfl),hid ?_,hid ?_⟩
     ·rw [X3];exact hown
     intro q hq
     rcases List.mem_append.1 hq with hq|hq
     ·exact RV.own hgrow hownk hat sm (Zt5 hag2 _ _ (HQ.out q hq))
     simp at hq
     subst hq
     exact RV.own hgrow hownk hat sm (Zt5 hag2 _ _ (Zt9 (fun b h _=>.inl h) _ _ (Zt5 (ZtY hbr) _ _ gx)))
   have hjl:k=row.length:=om
   subst hjl
   have hst:=HPS.out
   rw [List.take_length] at hst
   obtain ⟨av,cv,hav,hrd⟩:=VK (A:=fun b=>w.heap.size+2≤b) HO.out (fun b h=>om) (fun q hq=>Zt9 (fun b hb _=>by rcases hb with ⟨h,_⟩|⟨h,_⟩;exact h;omega) _ _ (HQ.out q hq))
   rw [hst] at hav hrd
   subst hav
   have HRD:=hid hrd
   obtain ⟨⟨q0,q1,q2⟩,f0,f1,f2⟩:=HZ3.out.but (c:=c) (Zue hbr) y4 y2
   have y5:w.heap.size+1 < wr.heap.size:=om
   clear hst hrd HO HQ HPS HPL HR3
   go_wp2_with (go_at_call 191;refine (U2 4 av (YC l row).length cv _).mono ?_;rintro e w5 ⟨rfl,hb5⟩;have hz5:=hb5.size;(try simp at hz5);obtain ⟨hc5,hf5⟩:=Za hb5;have y7:w.heap.size+1 < w5.heap.size:=om)
   refine bodyPost_ret (v:=(.tuple #[VV ⟨4,0,YC l row⟩ ⟨av,cv⟩,.int .u8 1])) (by first|(simp [results,Tryz.f117,go_sem];done)|(simp [results,Tryz.f117,go_sem, *];done)) rfl ?_
   exact ⟨ZxG,⟨⟨av,cv⟩,rfl,Zl.2 (Zug (fun b hb _=>by (try simp at hb);omega) _ _ (Zt8 ((ZtY (show Below wr.heap.size wr w5 from ZtZ)).trans (((Zt4 so).trans (Zt4 so)).trans (Zt4 so))) _ _ HRD.out))⟩,Zt3 (B:=w.heap.size+1) ZtZ om HC3.out⟩
 have HN:=hid hN
 clear hN
 show Calls _ _ _ _ (WL c s (.no k) w)
 go_enter func117,ntmps117
 go_wp2_with (go_at_call 190;refine (XU c s f IH.out t.a i _ mk ml h64 HX.out hi (by exact Zt3 (B:=w.heap.size) ZtZ hcs HC.out) (by exact RTs.ext ar _ _ HL.out)).mono ?_;rw [HN.out];rintro e w2 ⟨hb2,rfl,hk8,hk9⟩;have hz2:=hb2.size;(try simp at hz2);obtain ⟨hc2,hf2⟩:=ZE hb2;have y1:w.heap.size+1 < w2.heap.size:=om;have y2:¬w.heap.size+1=c:=om;have y3:¬w.heap.size=c:=om;have hkb:(((k:Int)) != 1)=true:=(by simp;omega))
 exact Zxz
section
set_option maxRecDepth 512
def NRow (e:TypeId) (w:World) (base:Nat) (v:Value) (zs:List Int):Prop:=w.ownsRow base e 1 v zs.length (zs.map (Value.int .i64))
def Apart (a b:Value):Prop:=∀k,a.ownBlock=some k→b.ownBlock=some k→False
theorem Apart.symm {a b:Value} (h:Apart a b):Apart b a:=fun k x y=>h k y x
theorem Apart.new {v v':Value} {g n cap H:Nat} (h:Apart v v') (hat:v.ownBlock=some g∨g=H) (hl:∀k,v'.ownBlock=some k→k < H):Apart (.slice (some ⟨g,0,none⟩) n cap) v':=fun k x y=>by
 have hk:g=k:=by simpa [Value.ownBlock] using x
 subst hk
 rcases hat with e|e
 ·exact h g e y
 have:=hl g y;omega
theorem NRow.lt {e base w v zs} (h:NRow e w base v zs):∀k,v.ownBlock=some k→base≤k∧k < w.heap.size:=World.ownsRow.lt h
theorem NRow.grown {e base w w' v zs r} (h:NRow e w base v zs) (hg:World.grownBy w w' r) (hne:∀k,v.ownBlock=some k→some k≠r):NRow e w' base v zs:=
 World.ownsRow.kept h hg (by cases hv:v.ownBlock with
  | none=>exact .inl rfl
  | some k=>exact .inr (hne k hv))
theorem NRow.block {e base w w' v zs} (h:NRow e w base v zs) (hb:∀k,v.ownBlock=some k→w'.heap[k]? =w.heap[k]?):NRow e w' base v zs:=by
 obtain ⟨h1,h2⟩:=h
 refine ⟨h1,?_⟩
 rcases h2 with h|⟨g,cap,cur,rfl,hbs,hg,h3⟩
 ·exact .inl h
 exact .inr ⟨g,cap,cur,rfl,hbs,(hb g rfl).trans hg,h3⟩
structure R5 (w:World) (base:Nat) (eI eJ:TypeId) (vc vo vh vl vi:Value) (T:AT):Prop where
 c:NRow eI w base vc T.c
 o:NRow eJ w base vo T.o
 h:NRow eI w base vh T.h
 l:NRow eJ w base vl T.lo
 i:NRow eJ w base vi T.hi
 co:Apart vc vo
 ch:Apart vc vh
 cl:Apart vc vl
 ci:Apart vc vi
 oh:Apart vo vh
 ol:Apart vo vl
 oi:Apart vo vi
 hl:Apart vh vl
 hi:Apart vh vi
 li:Apart vl vi
theorem Apart.nil (v:Value):Apart (.slice none 0 0) v:=fun k h=>by cases h
theorem R5.nil (w:World) (base:Nat) (eI eJ:TypeId):R5 w base eI eJ (.slice none 0 0) (.slice none 0 0) (.slice none 0 0) (.slice none 0 0) (.slice none 0 0) ⟨[],[],[],[],[]⟩:=
 ⟨World.ownsRow_nil _ _ _ _,World.ownsRow_nil _ _ _ _,World.ownsRow_nil _ _ _ _,World.ownsRow_nil _ _ _ _,World.ownsRow_nil _ _ _ _,Apart.nil _,Apart.nil _,Apart.nil _,Apart.nil _,Apart.nil _,Apart.nil _,Apart.nil _,Apart.nil _,Apart.nil _,Apart.nil _⟩
section
variable {w w':World} {base:Nat} {eI eJ:TypeId} {vc vo vh vl vi:Value} {T:AT}
theorem R5.block (h:R5 w base eI eJ vc vo vh vl vi T) (hb:∀k,base≤k→k < w.heap.size→w'.heap[k]? =w.heap[k]?):R5 w' base eI eJ vc vo vh vl vi T:=
 ⟨h.c.block fun k e=>hb k (h.c.lt k e).1 (h.c.lt k e).2,h.o.block fun k e=>hb k (h.o.lt k e).1 (h.o.lt k e).2,h.h.block fun k e=>hb k (h.h.lt k e).1 (h.h.lt k e).2,h.l.block fun k e=>hb k (h.l.lt k e).1 (h.l.lt k e).2,h.i.block fun k e=>hb k (h.i.lt k e).1 (h.i.lt k e).2,
  h.co,h.ch,h.cl,h.ci,h.oh,h.ol,h.oi,h.hl,h.hi,h.li⟩
theorem R5.alloc (h:R5 w base eI eJ vc vo vh vl vi T) (q:Obj):R5 (w.alloc q) base eI eJ vc vo vh vl vi T:=
 h.block fun k _ hk=>(World.grownBy_alloc w q none).block k hk sm
theorem R5.drew (h:R5 w base eI eJ vc vo vh vl vi T):R5 w.drew base eI eJ vc vo vh vl vi T:=h.block fun _ _ _=>rfl
theorem R5.setLow (h:R5 w base eI eJ vc vo vh vl vi T) (p:Addr) (u:Value) (hp:p.block < base):R5 (w.setCell p u) base eI eJ vc vo vh vl vi T:=
 h.block fun k hk _=>Below.heap_setCell _ _ _ _ om
variable {g n cap:Nat} {x:Int}
theorem NRow.put {e:TypeId} {v:Value} {zs:List Int} (hown:w'.ownsRow base e 1 (.slice (some ⟨g,0,none⟩) (n+1) cap) (n+1) (zs.map (Value.int .i64)++[.int .i64 x])) (hn:zs.length=n):NRow e w' base (.slice (some ⟨g,0,none⟩) (n+1) cap) (zs++[x]):=by
 unfold NRow
 rw [List.map_append,List.length_append,hn]
 exact hown
theorem R5.pushC (h:R5 w base eI eJ vc vo vh vl vi T) (hn:T.c.length=n) (hown:w'.ownsRow base eI 1 (.slice (some ⟨g,0,none⟩) (n+1) cap) (n+1) (T.c.map (Value.int .i64)++[.int .i64 x])) (hg:w.grownBy w' vc.ownBlock) (hat:vc.ownBlock=some g∨g=w.heap.size):
  R5 w' base eI eJ (.slice (some ⟨g,0,none⟩) (n+1) cap) vo vh vl vi ⟨T.c++[x],T.o,T.h,T.lo,T.hi⟩:=
 ⟨NRow.put (v:=vc) hown hn,h.o.grown hg fun k e e2=>h.co k e2.symm e,h.h.grown hg fun k e e2=>h.ch k e2.symm e,h.l.grown hg fun k e e2=>h.cl k e2.symm e,h.i.grown hg fun k e e2=>h.ci k e2.symm e,
  h.co.new hat fun k e=>(h.o.lt k e).2,h.ch.new hat fun k e=>(h.h.lt k e).2,h.cl.new hat fun k e=>(h.l.lt k e).2,h.ci.new hat fun k e=>(h.i.lt k e).2,h.oh,h.ol,h.oi,h.hl,h.hi,h.li⟩
theorem R5.pushO (h:R5 w base eI eJ vc vo vh vl vi T) (hn:T.o.length=n) (hown:w'.ownsRow base eJ 1 (.slice (some ⟨g,0,none⟩) (n+1) cap) (n+1) (T.o.map (Value.int .i64)++[.int .i64 x])) (hg:w.grownBy w' vo.ownBlock) (hat:vo.ownBlock=some g∨g=w.heap.size):
  R5 w' base eI eJ vc (.slice (some ⟨g,0,none⟩) (n+1) cap) vh vl vi ⟨T.c,T.o++[x],T.h,T.lo,T.hi⟩:=
 ⟨h.c.grown hg fun k e e2=>h.co k e e2.symm,NRow.put (v:=vo) hown hn,h.h.grown hg fun k e e2=>h.oh k e2.symm e,h.l.grown hg fun k e e2=>h.ol k e2.symm e,h.i.grown hg fun k e e2=>h.oi k e2.symm e,
  (h.co.symm.new hat fun k e=>(h.c.lt k e).2).symm,h.ch,h.cl,h.ci,h.oh.new hat fun k e=>(h.h.lt k e).2,h.ol.new hat fun k e=>(h.l.lt k e).2,h.oi.new hat fun k e=>(h.i.lt k e).2,h.hl,h.hi,h.li⟩
theorem R5.pushH (h:R5 w base eI eJ vc vo vh vl vi T) (hn:T.h.length=n) (hown:w'.ownsRow base eI 1 (.slice (some ⟨g,0,none⟩) (n+1) cap) (n+1) (T.h.map (Value.int .i64)++[.int .i64 x])) (hg:w.grownBy w' vh.ownBlock) (hat:vh.ownBlock=some g∨g=w.heap.size):
  R5 w' base eI eJ vc vo (.slice (some ⟨g,0,none⟩) (n+1) cap) vl vi ⟨T.c,T.o,T.h++[x],T.lo,T.hi⟩:=
 ⟨h.c.grown hg fun k e e2=>h.ch k e e2.symm,h.o.grown hg fun k e e2=>h.oh k e e2.symm,NRow.put (v:=vh) hown hn,h.l.grown hg fun k e e2=>h.hl k e2.symm e,h.i.grown hg fun k e e2=>h.hi k e2.symm e,
  h.co,(h.ch.symm.new hat fun k e=>(h.c.lt k e).2).symm,h.cl,h.ci,(h.oh.symm.new hat fun k e=>(h.o.lt k e).2).symm,h.ol,h.oi,h.hl.new hat fun k e=>(h.l.lt k e).2,h.hi.new hat fun k e=>(h.i.lt k e).2,h.li⟩
theorem R5.pushL (h:R5 w base eI eJ vc vo vh vl vi T) (hn:T.lo.length=n) (hown:w'.ownsRow base eJ 1 (.slice (some ⟨g,0,none⟩) (n+1) cap) (n+1) (T.lo.map (Value.int .i64)++[.int .i64 x])) (hg:w.grownBy w' vl.ownBlock) (hat:vl.ownBlock=some g∨g=w.heap.size):
  R5 w' base eI eJ vc vo vh (.slice (some ⟨g,0,none⟩) (n+1) cap) vi ⟨T.c,T.o,T.h,T.lo++[x],T.hi⟩:=
 ⟨h.c.grown hg fun k e e2=>h.cl k e e2.symm,h.o.grown hg fun k e e2=>h.ol k e e2.symm,h.h.grown hg fun k e e2=>h.hl k e e2.symm,NRow.put (v:=vl) hown hn,h.i.grown hg fun k e e2=>h.li k e2.symm e,
  h.co,h.ch,(h.cl.symm.new hat fun k e=>(h.c.lt k e).2).symm,h.ci,h.oh,(h.ol.symm.new hat fun k e=>(h.o.lt k e).2).symm,h.oi,(h.hl.symm.new hat fun k e=>(h.h.lt k e).2).symm,h.hi,h.li.new hat fun k e=>(h.i.lt k e).2⟩
theorem R5.pushI (h:R5 w base eI eJ vc vo vh vl vi T) (hn:T.hi.length=n) (hown:w'.ownsRow base eJ 1 (.slice (some ⟨g,0,none⟩) (n+1) cap) (n+1) (T.hi.map (Value.int .i64)++[.int .i64 x])) (hg:w.grownBy w' vi.ownBlock) (hat:vi.ownBlock=some g∨g=w.heap.size):
  R5 w' base eI eJ vc vo vh vl (.slice (some ⟨g,0,none⟩) (n+1) cap) ⟨T.c,T.o,T.h,T.lo,T.hi++[x]⟩:=
 ⟨h.c.grown hg fun k e e2=>h.ci k e e2.symm,h.o.grown hg fun k e e2=>h.oi k e e2.symm,h.h.grown hg fun k e e2=>h.hi k e e2.symm,h.l.grown hg fun k e e2=>h.li k e e2.symm,NRow.put (v:=vi) hown hn,
  h.co,h.ch,h.cl,(h.ci.symm.new hat fun k e=>(h.c.lt k e).2).symm,h.oh,h.ol,(h.oi.symm.new hat fun k e=>(h.o.lt k e).2).symm,h.hl,(h.hi.symm.new hat fun k e=>(h.h.lt k e).2).symm,(h.li.symm.new hat fun k e=>(h.l.lt k e).2).symm⟩
theorem NRow.cellv {e:TypeId} {v:Value} {zs:List Int} (h:NRow e w base v zs) (hz:0 < zs.length):∃g cap,v=.slice (some ⟨g,0,none⟩) zs.length cap∧base≤g∧g < w.heap.size∧IRow e w base g cap zs:=by
 obtain ⟨g,cap,e1,hb,hl⟩:=World.ownsRow.form h hz
 refine ⟨g,cap,e1,hb,hl,?_⟩
 unfold IRow
 rw [←e1]
 exact h
theorem NRow.form {e:TypeId} {v:Value} {zs:List Int} (h:NRow e w base v zs):∃a cap,v=.slice a zs.length cap:=by
 rcases h.2 with ⟨h1,h2⟩|⟨g,cap,cur,h1,_⟩
 ·exact ⟨none,0,by rw [h1,h2]⟩
 exact ⟨_,cap,h1⟩
theorem NRow.room {e:TypeId} {g cap n:Nat} {zs:List Int} (h:NRow e w base (.slice (some ⟨g,0,none⟩) n cap) zs):n≤cap:=by
 rcases h.2 with ⟨h1,_⟩|⟨g',cap',cur,h1,_,_,h3,_⟩
 ·cases h1
 cases h1;exact h3
theorem NRow.at {e:TypeId} {v:Value} {zs:List Int} (h:NRow e w base v zs) {n:Nat} (hn:zs.length=n):w.ownsRow base e 1 v n (zs.map (Value.int .i64)):=by subst hn;exact h
theorem NRow.popv {e:TypeId} {g n cap:Nat} {zs:List Int} {x:Int} (h:NRow e w base (.slice (some ⟨g,0,none⟩) (n+1) cap) (zs++[x])) (hn:zs.length=n):NRow e w base (.slice (some ⟨g,0,none⟩) n cap) zs:=by
 subst hn
 unfold NRow at h ⊢
 rw [List.map_append,List.length_append] at h
 exact ownsRow_pop sm h
theorem Apart.same {v v' u:Value} (h:Apart v u) (e:v'.ownBlock=v.ownBlock):Apart v' u:=fun k x y=>h k (e ▸ x) y
theorem R5.popL {lo:List Int} {g n cap:Nat} (h:R5 w base eI eJ vc vo vh (.slice (some ⟨g,0,none⟩) (n+1) cap) vi ⟨T.c,T.o,T.h,lo++[x],T.hi⟩) (hn:lo.length=n):R5 w base eI eJ vc vo vh (.slice (some ⟨g,0,none⟩) n cap) vi ⟨T.c,T.o,T.h,lo,T.hi⟩:=
 ⟨h.c,h.o,h.h,h.l.popv hn,h.i,h.co,h.ch,(h.cl.symm.same rfl).symm,h.ci,h.oh,(h.ol.symm.same rfl).symm,h.oi,(h.hl.symm.same rfl).symm,h.hi,h.li.same rfl⟩
theorem R5.popI {hi:List Int} {g n cap:Nat} (h:R5 w base eI eJ vc vo vh vl (.slice (some ⟨g,0,none⟩) (n+1) cap) ⟨T.c,T.o,T.h,T.lo,hi++[x]⟩) (hn:hi.length=n):R5 w base eI eJ vc vo vh vl (.slice (some ⟨g,0,none⟩) n cap) ⟨T.c,T.o,T.h,T.lo,hi⟩:=
 ⟨h.c,h.o,h.h,h.l,h.i.popv hn,h.co,h.ch,h.cl,(h.ci.symm.same rfl).symm,h.oh,h.ol,(h.oi.symm.same rfl).symm,h.hl,(h.hi.symm.same rfl).symm,(h.li.symm.same rfl).symm⟩
theorem NRow.setv {e:TypeId} {g n cap:Nat} {zs:List Int} (h:NRow e w base (.slice (some ⟨g,0,none⟩) n cap) zs) (hn:zs.length=n) (j:Nat) (x:Int):NRow e (w.setCell ⟨g,j,none⟩ (.int .i64 x)) base (.slice (some ⟨g,0,none⟩) n cap) (zs.set j x):=by
 subst hn
 have:=World.ownsRow.stored h j (.int .i64 x)
 unfold NRow
 rw [List.map_set,List.length_set]
 exact this.1
theorem KK (w:World) (g j:Nat) (u:Value):w.grownBy (w.setCell ⟨g,j,none⟩ u) (some g):=
 ⟨rfl,rfl,rfl,sm,fun k _ hk=>heap_setCell_other w ⟨g,j,none⟩ k u (fun e=>hk (by simp [e]))⟩
theorem R5.setC {g n cap:Nat} (h:R5 w base eI eJ (.slice (some ⟨g,0,none⟩) n cap) vo vh vl vi T) (hn:T.c.length=n) (j:Nat) (x:Int):
  R5 (w.setCell ⟨g,j,none⟩ (.int .i64 x)) base eI eJ (.slice (some ⟨g,0,none⟩) n cap) vo vh vl vi ⟨T.c.set j x,T.o,T.h,T.lo,T.hi⟩:=
 have hg:=KK w g j (.int .i64 x)
 ⟨h.c.setv hn j x,h.o.grown hg fun k e e2=>h.co k (by simpa [Value.ownBlock] using e2.symm) e,h.h.grown hg fun k e e2=>h.ch k (by simpa [Value.ownBlock] using e2.symm) e,h.l.grown hg fun k e e2=>h.cl k (by simpa [Value.ownBlock] using e2.symm) e,h.i.grown hg fun k e e2=>h.ci k (by simpa [Value.ownBlock] using e2.symm) e,
  h.co,h.ch,h.cl,h.ci,h.oh,h.ol,h.oi,h.hl,h.hi,h.li⟩
theorem R5.setO {g n cap:Nat} (h:R5 w base eI eJ vc (.slice (some ⟨g,0,none⟩) n cap) vh vl vi T) (hn:T.o.length=n) (j:Nat) (x:Int):
  R5 (w.setCell ⟨g,j,none⟩ (.int .i64 x)) base eI eJ vc (.slice (some ⟨g,0,none⟩) n cap) vh vl vi ⟨T.c,T.o.set j x,T.h,T.lo,T.hi⟩:=
 have hg:=KK w g j (.int .i64 x)
 ⟨h.c.grown hg fun k e e2=>h.co k e (by simpa [Value.ownBlock] using e2.symm),h.o.setv hn j x,h.h.grown hg fun k e e2=>h.oh k (by simpa [Value.ownBlock] using e2.symm) e,h.l.grown hg fun k e e2=>h.ol k (by simpa [Value.ownBlock] using e2.symm) e,h.i.grown hg fun k e e2=>h.oi k (by simpa [Value.ownBlock] using e2.symm) e,
  h.co,h.ch,h.cl,h.ci,h.oh,h.ol,h.oi,h.hl,h.hi,h.li⟩
theorem R5.setH {g n cap:Nat} (h:R5 w base eI eJ vc vo (.slice (some ⟨g,0,none⟩) n cap) vl vi T) (hn:T.h.length=n) (j:Nat) (x:Int):
  R5 (w.setCell ⟨g,j,none⟩ (.int .i64 x)) base eI eJ vc vo (.slice (some ⟨g,0,none⟩) n cap) vl vi ⟨T.c,T.o,T.h.set j x,T.lo,T.hi⟩:=
 have hg:=KK w g j (.int .i64 x)
 ⟨h.c.grown hg fun k e e2=>h.ch k e (by simpa [Value.ownBlock] using e2.symm),h.o.grown hg fun k e e2=>h.oh k e (by simpa [Value.ownBlock] using e2.symm),h.h.setv hn j x,h.l.grown hg fun k e e2=>h.hl k (by simpa [Value.ownBlock] using e2.symm) e,h.i.grown hg fun k e e2=>h.hi k (by simpa [Value.ownBlock] using e2.symm) e,
  h.co,h.ch,h.cl,h.ci,h.oh,h.ol,h.oi,h.hl,h.hi,h.li⟩
end
end
set_option maxRecDepth 512
structure T11 (w:World) (b gc go n cc co:Nat) (S:Int):Prop where
 s:w.cell? ⟨b,0,none⟩=some (.int .i64 S)
 c:w.cell? ⟨b,1,none⟩=some (.slice (some ⟨gc,0,none⟩) n cc)
 o:w.cell? ⟨b,2,none⟩=some (.slice (some ⟨go,0,none⟩) n co)
theorem T11.but {w w':World} {c B b gc go n cc co:Nat} {S:Int} (h:T11 w b gc go n cc co S) (hb:But c B w w') (hB:b < B) (hc:b≠c):T11 w' b gc go n cc co S:=
 ⟨(hb.cell (p:=⟨b,0,none⟩) hB hc).trans h.s,(hb.cell (p:=⟨b,1,none⟩) hB hc).trans h.c,(hb.cell (p:=⟨b,2,none⟩) hB hc).trans h.o⟩
set_option maxRecDepth 100000
theorem Zej (l:List Int) (b gc go i r cc co:Nat) (A:Nat→Prop) (w:World) (hl:T11 w b gc go l.length cc co (Zj l)) (hi:i < l.length)
  (h1:RIs w A (Zy l).c (some ⟨gc,0,none⟩)) (h2:RIs w A (Zy l).o (some ⟨go,0,none⟩)):
  Calls prog 245 #[.pointer (some ⟨b,0,none⟩),.int .i64 i,.int .i64 r] w fun e w'=>e=.returned (.int .i64 (Xc l i r))∧Below w.heap.size w w':=by
 have ok:=JK l
 obtain ⟨t0,t1,t2⟩:=hl
 have hbs:b < w.heap.size:=World.block_lt_of_cell? _ _ t0
 obtain ⟨g,o,e,hA,hgs,g0⟩:=h1.get i (by rw [ok.c];exact hi)
 cases e
 obtain ⟨g',o',e,hA',hgs',g0'⟩:=h2.get i (by rw [ok.o];exact hi)
 cases e
 have hm:=ok.m ((Zy l).o[i]'(by rw [ok.o];exact hi)) (List.getElem_mem _)
 have hc1:(Zy l).c.getD i 0=(Zy l).c[i]'(by rw [ok.c];exact hi):=by simp [List.getD_eq_getElem?_getD,List.getElem?_eq_getElem (show i < (Zy l).c.length by rw [ok.c];exact hi)]
 have ho1:(Zy l).o.getD i 0=(Zy l).o[i]'(by rw [ok.o];exact hi):=by simp [List.getD_eq_getElem?_getD,List.getElem?_eq_getElem (show i < (Zy l).o.length by rw [ok.o];exact hi)]
 rw [←hc1] at g0
 rw [←ho1] at hm g0'
 have hP:(Xc l i r:Int)=if (r:Int) < (Zy l).c.getD i 0 then (i:Int) else (Zy l).o.getD i 0:=by
  unfold Xc
  split
  ·rfl
  omega
 rw [hP]
 rw [Nat.zero_add] at g0 g0'
 generalize (Zy l).c.getD i 0=cv at *
 generalize (Zy l).o.getD i 0=ov at *
 clear hc1 ho1 hP h1 h2 ok hm
 by_cases hcv:(r:Int) < cv
 ·rw [if_pos hcv]
  go_enter func245,ntmps245
  go_wp2_with fail
  go_ret
  exact ⟨rfl,ZtZ⟩
 rw [if_neg hcv]
 go_enter func245,ntmps245
 go_wp2_with fail
 go_ret
 exact ⟨rfl,ZtZ⟩
theorem Zau (l:List Int) (s:ByteArray) (i b c gc go cc co:Nat) (w:World) (hb:Zc s=true) (hi:i≤s.size) (he:Yc l=0) (hcb:b≠c) (hl:T11 w b gc go l.length cc co (Zj l))
  (h1:RIs w (fun k=>k≠c) (Zy l).c (some ⟨gc,0,none⟩)) (h2:RIs w (fun k=>k≠c) (Zy l).o (some ⟨go,0,none⟩)) (hc:Cur w c s i false):
  Calls prog 189 #[.pointer (some ⟨b,0,none⟩),.pointer (some ⟨c,0,none⟩)] w (Zdi c s (Ys s l i) w):=by
 obtain ⟨f1,f64,fw,f2,f3⟩:=Y0 he
 have HT:=hid hl
 obtain ⟨t0,t1,t2⟩:=hl
 have hbs:b < w.heap.size:=World.block_lt_of_cell? _ _ t0
 have hcs:c < w.heap.size:=World.block_lt_of_cell? _ _ hc.1.1
 have HC:=hid hc
 have HB:=hid hb
 have H1:=hid h1
 have H2:=hid h2
 have hd1:=Yk s l.length i hi
 have hn0:0 < l.length∧l.length < 18446744073709551616:=om
 have hsu:((Zj l).toNat:Int)=Zj l:=om
 have hS0:0 < (Zj l).toNat∧(Zj l).toNat < 18446744073709551616:=om
 have hP1:∀j,ZN s l.length i=(none,j)→Ys s l i=(none,j):=fun j h=>by unfold Ys;rw [h]
 have hP2:∀v j q,ZN s l.length i=(some v,j)→ZN s (Zj l).toNat j=(none,q)→Ys s l i=(none,q):=fun v j q h h'=>by unfold Ys;simp only [h,h']
 have hP3:∀v j r q,ZN s l.length i=(some v,j)→ZN s (Zj l).toNat j=(some r,q)→Ys s l i=(some (Xc l v r),q):=fun v j r q h h'=>by unfold Ys;simp only [h,h']
 generalize hP:Ys s l i=P at *
 have HP1:=hid hP1
 have HP2:=hid hP2
 have HP3:=hid hP3
 have HSU:=hid hsu
 have cv1:IntKind.u64.wrap (l.length:Int)=(l.length:Int):=by rw [IntKind.wrap_u64];omega
 have cv2:IntKind.u64.wrap (Zj l)=Zj l:=by rw [IntKind.wrap_u64];omega
 clear hc hb fw h1 h2 hP hP1 hP2 hP3 he hsu
 rcases hD:ZN s l.length i with ⟨_|v,j⟩
 ·have HD:=hid hD
  clear hD hd1
  rw [HP1.out _ HD.out]
  go_enter func189,ntmps189
  go_wp2_with (go_at_call 242;(with_reducible refine (Yw c s i l.length _ _ HB.out hi hn0 rfl (by exact HC.out)).mono ?_);rw [HD.out];rintro e w3 ⟨hb3,rfl,hc3⟩;have HC3:=hid hc3;clear hc3)
  go_ret2
  exact ⟨ZxG,rfl,HC3.out⟩
 have HD:=hid hD
 rw [hD] at hd1
 have hv:=hd1.2.2 v rfl
 have hj:=hd1.2.1
 simp only [] at hj hv
 clear hD hd1
 have hd2:=Yk s (Zj l).toNat j hj
 rcases hD2:ZN s (Zj l).toNat j with ⟨_|r,q⟩
 ·have HD2:=hid hD2
  clear hD2 hd2
  rw [HP2.out _ _ _ HD.out HD2.out]
  go_enter func189,ntmps189
  go_wp2_with (first
   | (go_at_call 242;(with_reducible refine (Yw c s i l.length _ _ HB.out hi hn0 rfl (by exact HC.out)).mono ?_);rw [HD.out];rintro e w3 ⟨hb3,rfl,hc3⟩;have HC3:=hid hc3;clear hc3;have t03:=(hb3.cell (p:=⟨b,0,none⟩) hbs hcb).trans t0;have hz3:=hb3.size;have hb3s:b < w3.heap.size:=om)
   | (go_at_call 242;(with_reducible refine (Yw c s j (Zj l).toNat _ _ HB.out hj hS0 HSU.out.symm (by exact HC3.out)).mono ?_);rw [HD2.out];rintro e w4 ⟨hb4,rfl,hc4⟩;have HC4:=hid hc4;clear hc4))
  go_ret2
  exact ⟨ZxG,rfl,HC4.out⟩
 have HD2:=hid hD2
 rw [hD2] at hd2
 have hr:=hd2.2.2 r rfl
 clear hD2 hd2
 rw [HP3.out _ _ _ _ HD.out HD2.out]
 have hr3:r < 67108865:=om
 have hv3:v < 65:=om
 have cv3:IntKind.i64.wrap (v:Int)=(v:Int):=IntWalk.i64_in _ om
 have cv4:IntKind.i64.wrap (r:Int)=(r:Int):=IntWalk.i64_in _ om
 go_enter func189,ntmps189
 go_wp2_with (first
  | (go_at_call 242;(with_reducible refine (Yw c s i l.length _ _ HB.out hi hn0 rfl (by exact HC.out)).mono ?_);rw [HD.out];rintro e w3 ⟨hb3,rfl,hc3⟩;have HC3:=hid hc3;clear hc3;have t03:=(hb3.cell (p:=⟨b,0,none⟩) hbs hcb).trans t0;have hz3:=hb3.size;have hb3s:b < w3.heap.size:=om)
  | (go_at_call 242;(with_reducible refine (Yw c s j (Zj l).toNat _ _ HB.out hj hS0 HSU.out.symm (by exact HC3.out)).mono ?_);rw [HD2.out];rintro e w4 ⟨hb4,rfl,hc4⟩;have HC4:=hid hc4;clear hc4;have hb44:But c w.heap.size w w4:=hb3.trans (hb4.mono hz3);have hz4:=hb4.size)
  | (go_at_call 245;(with_reducible refine (Zej l b gc go v r cc co (fun k=>k≠c) _ (HT.out.but hb44 hbs hcb) hv (by exact Zuc (Zt0 hb44) _ _ H1.out) (by exact Zuc (Zt0 hb44) _ _ H2.out)).mono ?_);rintro e w5 ⟨rfl,hb5⟩))
 go_ret2
 have hb55:But c w.heap.size w _:=hb44.trans (Zue (hb5.mono om))
 exact ⟨hb55,rfl,Zt3 hb5 om HC4.out⟩
end Go.Proofs.YtkdffbdnjfgpeaaGreat
