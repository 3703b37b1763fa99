/- What the proofs of the Trial statements need: part 17. -/
import Derived.Deep.RegionHeld3
import Derived.Maps.AppendAt
import Derived.Test.YtclphfojkggcpaaGreatZ2
import Derived.Test.YtclphfojkggcpaaGreatZ9
import Derived.Test.YtclphfojkggcpaaGreatZ10
import Derived.Test.YtclphfojkggcpaaGreatZ11
import Derived.Test.YtclphfojkggcpaaGreatZ12
import Derived.Test.YtclphfojkggcpaaGreatZ13
import Derived.Test.YtclphfojkggcpaaGreatZ14
import Derived.Test.YtclphfojkggcpaaGreatZ15
set_option linter.unusedVariables false
set_option linter.unusedSimpArgs false
namespace Go.Proofs.YtclphfojkggcpaaGreat
open Go.Lib (hid)
open Go Go.RowKit
def SamR (c:Nat) (s:ByteArray) (r:Res GV) (w:World):Ending→World→Prop:=fun e w'=>But c w.heap.size w w' ∧
 match r with
 | .ok v j=>(∃m,e=.returned (VV v m)∧RV w' (fun b=>w.heap.size≤b) v m.a)∧Cur w' c s j false
 | .no k=>e=endP k
def SamsR (c:Nat) (s:ByteArray) (r:Res (List GV)) (w:World):Ending→World→Prop:=fun e w'=>But c w.heap.size w w' ∧
 match r with
 | .ok l j=>(∃a cp,e=.returned (.slice a l.length cp)∧RVs w' (fun b=>w.heap.size≤b) l a)∧Cur w' c s j false
 | .no k=>e=endP k
def SamIH (c:Nat) (s:ByteArray) (S f:Nat):Prop:=∀(t:GT) (e:Env) (i:Nat) (w:World) (m:TA) (a:Option Addr),goodT (!e.isEmpty) t→okT t→sizeT t≤S→envOk S e→i≤s.size→(∃k n,wkT f t e k n≠none)→Cur w c s i false→RT w (fun b=>b≠c) t m→REnv w (fun b=>b≠c) e a →
 Calls Tryz.prog 64 #[.agg #[.pointer (some ⟨c,0,none⟩)],TV t m,.pointer a] w (SamR c s (sampT s f t e i) w)
def allRest (s:ByteArray) (f:Nat) (e:Env) (D:List GV) (l:List GT) (i:Nat):Res (List GV):=(allD (fun x=>sampT s f x e) l i).map (fun r=>D++r)
theorem allRest_step (s:ByteArray) (f:Nat) (e:Env) (D:List GV) (l:List GT) (j:Nat) (h:j < l.length) (i:Nat):allRest s f e D (l.drop j) i=match sampT s f l[j] e i with
  | .no k=>.no k
  | .ok v q=>allRest s f e (D++[v]) (l.drop (j+1)) q:=by
 unfold allRest
 rw [List.drop_eq_getElem_cons h,allD]
 cases sampT s f l[j] e i with
 | no k=>rfl
 | ok v q=>
  simp only [Res.bind]
  cases allD (fun x=>sampT s f x e) (l.drop (j+1)) q with
  | no k=>rfl
  | ok r p=>simp [Res.map]
theorem RVs_of_row {w:World} {base e n:Nat} {v:Value} {ps:List (GV×VA)} {A:Nat→Prop} (h:w.ownsRow base e 3 v n (flatV ps)) (hA:∀b,base≤b→A b) (hr:∀p∈ps,RV w A p.1 p.2.a):∃a c,v=.slice a (ps.map Prod.fst).length c∧RVs w A (ps.map Prod.fst) a:=by
 have hn:ps.length=n:=by have:=h.1;rw [flatV_length] at this;omega
 rcases h.2 with ⟨rfl,h0⟩|⟨g,cap,cur,rfl,hb,h3⟩
 ·have hz:ps=[]:=List.eq_nil_of_length_eq_zero (by omega)
  subst hz
  exact ⟨none,0,rfl,by simp only [List.map_nil,RVs]⟩
 ·refine ⟨_,cap,by rw [List.length_map,hn],RVs_of_owns (hA _ hb) h hr⟩
theorem cells_new3 (w:World) (a b c:Value) (t:TypeId):∀j u,[a,b,c][j]? =some u→(w.alloc (.cells #[a,b,c] t)).cell? ((⟨w.heap.size,0,none⟩:Addr).add j)=some u:=fun j u hu=>
 World.news_of_block (heap_alloc_new w _) j u (by simpa using hu)
set_option maxRecDepth 100000 in
set_option maxHeartbeats 2000000 in
theorem samAll_any (c:Nat) (s:ByteArray) (S f:Nat) (hS:S≤1099511627776) (ih:SamIH c s S f) (hb:isBits s=true) (l:List GT) (e:Env) (i:Nat) (w:World) (a al:Option Addr) (cp:Nat) (hl64:l.length≤64)
  (hl:∀x∈l,goodT (!e.isEmpty) x∧okT x∧sizeT x≤S∧∃k n,wkT f x e k n≠none) (he:envOk S e) (hi:i≤s.size) (hc:Cur w c s i false) (hr:RTs w (fun b=>b≠c) l al) (hv:REnv w (fun b=>b≠c) e a):
  Calls Tryz.prog 97 #[.agg #[.pointer (some ⟨c,0,none⟩)],.slice al l.length cp,.pointer a] w (SamsR c s (allD (fun x=>sampT s f x e) l i) w):=by
 have IH:=hid ih
 have HL:=hid hr
 have HV:=hid hv
 have HE:=hid he
 have HG:=hid hl
 have HC:=hid hc
 have hcs:c < w.heap.size:=World.block_lt_of_cell? _ _ hc.1.1
 obtain ⟨i0,hi0,y0,y1,y2⟩:=info_parts infoVal
 have hR0:allRest s f e [] (l.drop 0) i=allD (fun x=>sampT s f x e) l i:=by
  unfold allRest
  rw [List.drop_zero]
  cases allD (fun x=>sampT s f x e) l i<;>simp [Res.map]
 generalize allD (fun x=>sampT s f x e) l i=R at *
 have HR0:=hid hR0
 have hin:=fun x hx q hq=>sampT_in s S f x e q (hl x hx).1 (hl x hx).2.1 (hl x hx).2.2.1 he hq
 have HIN:=hid hin
 clear ih hr hv he hl hc hR0 hin hb
 go_enter Tryz.func97,Tryz.ntmps97
 go_wp2_with fail
 go_loopg [7,12] (l.length) (fun gk t7 i' wr=>∃(j p:Nat) (ps:List (GV×VA)) (v:Value),v=t7∧gk+j=l.length∧i'=.int .i64 j∧p≤s.size∧But c w.heap.size w wr∧w.heap.size < wr.heap.size∧wr.cell? ⟨w.heap.size,0,none⟩=some (.pointer (some ⟨c,0,none⟩))∧Hid (ps.length=j)∧Hid (allRest s f e (ps.map Prod.fst) (l.drop j) p=R)∧Hid (Cur wr c s p false) ∧
  Hid (wr.ownsRow (w.heap.size+1) 24 3 v j (flatV ps))∧Hid (∀q∈ps,RV wr (Own w.heap.size (fun _=>False) v) q.1 q.2.a))
 case atStart=>exact ⟨0,i,[],_,rfl,by omega,rfl,hi,But.z,by simp,by go_simp,hid rfl,HR0,hid (Cur.below (B:=w.heap.size) Below.z hcs HC.out),hid (World.ownsRow_nil _ _ _ _),fun q hq=>by simp at hq⟩
 case round=>
  obtain ⟨j,p,ps,v,rfl,hj,rfl,hp,hbt,hz,hcell,HPL,HP,HCU,HO,HQ⟩:=hrel
  by_cases hlt:j < l.length
  ·obtain ⟨b,o,mj,rfl,hA,hbs,g0,gx⟩:=HL.out.get j hlt
   obtain ⟨z0,z1,z2,z3,z4,z5,z6,z7,z8,z9,za,zb,zc,zd,ze⟩:=At15.1 (g0.ext (Agree.but hbt) hA)
   have hs1:b < wr.heap.size:=by have:=hbt.size;omega
   have hcr:c < wr.heap.size:=by have:=hbt.size;omega
   obtain ⟨x1,x2,x3,x4⟩:=HG.out l[j] (List.getElem_mem hlt)
   have HX:=hid (And.intro x1 (And.intro x2 (And.intro x3 x4)))
   have hst:=HP.out
   rw [allRest_step _ _ _ _ _ _ hlt] at hst
   have hinj:=HIN.out l[j] (List.getElem_mem hlt) p hp
   clear g0 x1 x2 x3 x4
   rcases hW:sampT s f l[j] e p with ⟨v',q⟩|⟨k⟩
   ·rw [hW] at hst hinj
    have hq:=hinj.2.1
    have HW:=hid hW
    have HST:=hid hst
    clear hW hst hinj
    go_wp2_with (first
     | (go_at_call 64;refine (IH.out l[j] e p _ mj a HX.out.1 HX.out.2.1 HX.out.2.2.1 HE.out hp HX.out.2.2.2 (by exact Cur.below (B:=wr.heap.size) Below.z hcr HCU.out) (by exact RT.ext (Agree.but But.z) _ _ gx) (by exact REnv.ext (Agree.but But.z) _ _ HV.out)).mono ?_;rw [HW.out];rintro e1 w2 ⟨hb2,⟨m,rfl,hrv⟩,hc2⟩;have HRV:=hid hrv;have HC2:=hid hc2;clear hrv hc2;have hz2:=hb2.size;simp at hz2;have hbb:But c wr.heap.size wr w2:=But.z;have HO2:=hid (owns_but HO.out hbb (fun k hk=>(by have:=HO.out.lt _ hk;omega))))
     | (at_builtin;refine wpList_append_lies _ rfl _ _ 22 rfl (w.heap.size+1) 24 i0 _ 3 40 Tryz.underlying22 hi0 y0 y1 y2 rfl (by decide) _ j _ (by rfl) (HO2.out.alloc _) ⟨w2.heap.size,0,none⟩ 1 1 [.int .u8 v'.k,.int .i64 v'.n,.slice m.a v'.l.length m.c] (by rfl) rfl (cells_new3 _ _ _ _ _) (by simp [Value.oneCell']) (by decide) (by unfold maxLen;omega) (by omega) (by simp;omega) (w2.heap.size+1) (by simp) ?_;intro g cap w4 hown hgrow hat hlt1))
    have hownk:∀k,v.ownBlock=some k→w.heap.size≤k:=fun k e=>by have:=(HO.out.lt _ e).1;omega
    have hownl:∀k,v.ownBlock=some k→k < wr.heap.size:=fun k e=>(HO.out.lt _ e).2
    have hbw1:Below (w.heap.size+1) w2 w4:=Below.grown ((Below.refl _ _).alloc (by omega) _) hgrow (by simp;omega) (fun k e=>(HO2.out.lt _ e).1)
    have hag2:Agree (Own w.heap.size (fun _=>False) v) w2 (w2.alloc (.cells #[.int .u8 v'.k,.int .i64 v'.n,.slice m.a v'.l.length m.c] 24)):=Agree.below ((Below.refl _ _).alloc (Nat.le_refl _) _)
    have hagb:Agree (Own w.heap.size (fun _=>False) v) wr w2:=fun q u hq hcq=>hbb.ag (World.block_lt_of_cell? _ _ hcq) (by rcases hq with ⟨h,_⟩|⟨h,_⟩;exact absurd h id;omega) hcq
    go_roundg (gk - 1)
    case measure=>omega
    case rel=>
     refine ⟨j+1,q,ps++[(v',m)],_,rfl,by omega,by go_num,hq,(hbt.trans (hbb.mono (by omega))).trans (But.of (hbw1.mono (by omega))),by have:=hbw1.size;omega,?_,hid (by have:=HPL.out;simp;omega),hid (by rw [List.map_append];exact HST.out),hid (Cur.below hbw1 (by omega) HC2.out),hid ?_,?_⟩
     ·exact (hbw1.cell (p:=⟨w.heap.size,0,none⟩) (by simp)).trans ((hbb.cell (p:=⟨w.heap.size,0,none⟩) (by simp;omega) (by simp;omega)).trans hcell)
     ·rw [flatV_append];exact hown
     ·intro q hq
      rcases List.mem_append.1 hq with hq|hq
      ·exact RV.own hgrow hownk hat (by simp) (RV.ext hag2 _ _ (RV.ext hagb _ _ (HQ.out q hq)))
      ·simp at hq
       subst hq
       refine RV.own hgrow hownk hat (by simp) (RV.ext hag2 _ _ (RV.mono (fun b h _=>?_) _ _ HRV.out))
       simp at h
       exact .inr ⟨by omega,fun e=>by have:=hownl b e;omega⟩
   ·rw [hW] at hst
    have HW:=hid hW
    have HST:=hid hst
    clear hW hst hinj
    go_wp2_with (go_at_call 64;refine (IH.out l[j] e p _ mj a HX.out.1 HX.out.2.1 HX.out.2.2.1 HE.out hp HX.out.2.2.2 (by exact Cur.below (B:=wr.heap.size) Below.z hcr HCU.out) (by exact RT.ext (Agree.but But.z) _ _ gx) (by exact REnv.ext (Agree.but But.z) _ _ HV.out)).mono ?_;rw [HW.out];rintro e1 w2 ⟨hb2,rfl⟩)
    rw [←HST.out]
    exact ⟨rfl,But.z,rfl⟩
  ·have hjl:j=l.length:=by omega
   have hst:=HP.out
   rw [hjl,List.drop_length] at hst
   have hst2:R=.ok (ps.map Prod.fst) p:=by rw [←hst];simp [allRest,allD,Res.map]
   have hE:=RVs_of_row (A:=fun b=>w.heap.size≤b) HO.out (fun b h=>by omega) (fun q hq=>RV.mono (fun b hb _=>by rcases hb with ⟨h,_⟩|⟨h,_⟩;exact absurd h id;exact h) _ _ (HQ.out q hq))
   obtain ⟨av,cv,hav,hrd⟩:=hE
   have HRD:=hid hrd
   have HAV:=hid hav
   clear hst hrd hav
   subst hst2
   go_wp2_with fail
   go_ret
   exact ⟨hbt,⟨av,cv,by rw [←HAV.out];rfl,HRD.out⟩,HCU.out⟩
def Sam22 (c:Nat) (s:ByteArray) (r:Res GV) (w:World):Ending→World→Prop:=fun e w'=>But c w.heap.size w w' ∧
 match r with
 | .ok v j=>(∃m,e=.returned (.tuple #[VV v m,.int .u8 1])∧RV w' (fun b=>w.heap.size≤b) v m.a)∧Cur w' c s j false
 | .no k=>e=.returned (.tuple #[VV ⟨0,0,[]⟩ ⟨none,0⟩,.int .u8 k])∧k≠1∧k < 256
def Sams22 (c:Nat) (s:ByteArray) (r:Res (List GV)) (w:World):Ending→World→Prop:=fun e w'=>But c w.heap.size w w' ∧
 match r with
 | .ok l j=>(∃a cp,e=.returned (.tuple #[.slice a l.length cp,.int .u8 1])∧RVs w' (fun b=>w.heap.size≤b) l a)∧Cur w' c s j false
 | .no k=>e=.returned (.tuple #[.slice none 0 0,.int .u8 k])∧k≠1∧k < 256
def SamIH22 (c:Nat) (s:ByteArray) (f:Nat):Prop:=∀(t:GT) (i:Nat) (w:World) (m:TA),goodT false t→okT t→i≤s.size→(∃k n,wkT f t [] k n≠none)→Cur w c s i false→RT w (fun b=>b≠c) t m →
 Calls Tryz.prog 53 #[.pointer (some ⟨c,0,none⟩),TV t m] w (Sam22 c s (sampT s f t [] i) w)
theorem cells_at3 {W:World} {n:Nat} (hn:W.heap.size=n) (a b c:Value) (t:TypeId):∀j u,[a,b,c][j]? =some u→(W.alloc (.cells #[a,b,c] t)).cell? ((⟨n,0,none⟩:Addr).add j)=some u:=by
 subst hn
 exact fun j u hu=>World.news_of_block (heap_alloc_new W _) j u (by simpa using hu)
set_option maxRecDepth 100000 in
set_option maxHeartbeats 4000000 in
theorem r22all_any (c:Nat) (s:ByteArray) (f:Nat) (ih:SamIH22 c s f) (l:List GT) (i:Nat) (w:World) (al:Option Addr) (cp:Nat) (hl64:l.length≤64)
  (hl:∀x∈l,goodT false x∧okT x∧∃k n,wkT f x [] k n≠none) (hi:i≤s.size) (hc:Cur w c s i false) (hr:RTs w (fun b=>b≠c) l al):
  Calls Tryz.prog 77 #[.pointer (some ⟨c,0,none⟩),.slice al l.length cp] w (Sams22 c s (allD (fun x=>sampT s f x []) l i) w):=by
 have IH:=hid ih
 have HL:=hid hr
 have HG:=hid hl
 have HC:=hid hc
 have hcs:c < w.heap.size:=World.block_lt_of_cell? _ _ hc.1.1
 obtain ⟨i0,hi0,y0,y1,y2⟩:=info_parts infoVal
 have hR0:allRest s f [] [] (l.drop 0) i=allD (fun x=>sampT s f x []) l i:=by
  unfold allRest
  rw [List.drop_zero]
  cases allD (fun x=>sampT s f x []) l i<;>simp [Res.map]
 generalize allD (fun x=>sampT s f x []) l i=R at *
 have HR0:=hid hR0
 have HIN:=hid (fun x (hx:x∈l) q hq=>sampT_in s (sizeT x) f x [] q (hl x hx).1 (hl x hx).2.1 (Nat.le_refl _) trivial hq)
 clear ih hr hl hc hR0
 go_enter Tryz.func77,Tryz.ntmps77
 go_wp2_with fail
 go_loopg [6,7] (l.length) (fun gk t6 i' wr=>∃(j p:Nat) (ps:List (GV×VA)) (v:Value),v=t6∧gk+j=l.length∧i'=.int .i64 j∧p≤s.size∧But c w.heap.size w wr∧Hid (ps.length=j)∧Hid (allRest s f [] (ps.map Prod.fst) (l.drop j) p=R)∧Hid (Cur wr c s p false) ∧
  Hid (wr.ownsRow w.heap.size 24 3 v j (flatV ps))∧Hid (∀q∈ps,RV wr (Own w.heap.size (fun _=>False) v) q.1 q.2.a))
 case atStart=>exact ⟨0,i,[],_,rfl,by omega,rfl,hi,But.r,hid rfl,HR0,hid (Cur.below (B:=w.heap.size) Below.r hcs HC.out),hid (World.ownsRow_nil _ _ _ _),hid (fun q hq=>by simp at hq)⟩
 case round=>
  obtain ⟨j,p,ps,v,rfl,hj,rfl,hp,hbt,HPL,HP,HCU,HO,HQ⟩:=hrel
  have hz:=hbt.size
  by_cases hlt:j < l.length
  ·obtain ⟨b,o,mj,rfl,hA,hbs,g0,gx⟩:=HL.out.get j hlt
   obtain ⟨z0,z1,z2,z3,z4,z5,z6,z7,z8,z9,za,zb,zc,zd,ze⟩:=At15.1 (g0.ext (Agree.but hbt) hA)
   have hs1:b < wr.heap.size:=by omega
   have hcr:c < wr.heap.size:=by omega
   have HX:=hid (HG.out l[j] (List.getElem_mem hlt))
   have hst:=HP.out
   rw [allRest_step _ _ _ _ _ _ hlt] at hst
   have hinj:=HIN.out l[j] (List.getElem_mem hlt) p hp
   clear g0
   rcases hW:sampT s f l[j] [] p with ⟨v',q⟩|⟨k⟩
   ·rw [hW] at hst hinj
    have hq:=hinj.2.1
    have HW:=hid hW
    have HST:=hid hst
    clear hW hst hinj
    go_wp2_with (first
     | (go_at_call 53;refine (IH.out l[j] p _ mj HX.out.1 HX.out.2.1 hp HX.out.2.2 (by exact Cur.below (B:=wr.heap.size) Below.r hcr HCU.out) (by exact RT.ext (Agree.but But.r) _ _ gx)).mono ?_;rw [HW.out];rintro e1 w2 ⟨hb2,⟨m,rfl,hrv⟩,hc2⟩;have HRV:=hid hrv;have HC2:=hid hc2;clear hrv hc2;have hz2:=hb2.size;(try simp at hz2);have hbb:But c wr.heap.size wr w2:=But.r;have HO2:=hid (owns_but HO.out hbb (fun k hk=>(by have:=HO.out.lt _ hk;omega)));have hagb:Agree (Own w.heap.size (fun _=>False) v) wr w2:=(fun q u hq hcq=>hbb.ag (World.block_lt_of_cell? _ _ hcq) (by rcases hq with ⟨h,_⟩|⟨h,_⟩;exact absurd h id;omega) hcq);have hownk:∀k,v.ownBlock=some k→w.heap.size≤k:=(fun k e=>(HO.out.lt _ e).1);have hv2:RV w2 (Own w.heap.size (fun _=>False) v) v' m.a:=RV.mono (fun b h _=>.inr ⟨(by (try simp at h);omega),fun e=>(by have:=(HO.out.lt _ e).2;(try simp at h);omega)⟩) _ _ HRV.out)
     | (at_builtin;refine wpList_append_lies _ rfl _ _ 22 rfl w.heap.size 24 i0 _ 3 40 Tryz.underlying22 hi0 y0 y1 y2 rfl (by decide) _ j _ (by rfl) ((owns_below HO2.out (B:=w2.heap.size) (by exact Below.r) (fun k hk=>(HO2.out.lt _ hk).2)).alloc _) ⟨w2.heap.size+1,0,none⟩ 1 1 [.int .u8 v'.k,.int .i64 v'.n,.slice m.a v'.l.length m.c] (by rfl) rfl (cells_at3 (by simp) _ _ _ _) (by simp [Value.oneCell']) (by decide) (by unfold maxLen;omega) (by omega) (by simp;omega) (w2.heap.size+1+1) (by simp) ?_;intro g cap w4 hown hgrow hat hlt1;have hbw1:Below w.heap.size w2 w4:=Below.grown (by exact Below.r) hgrow (by simp;omega) (fun k e=>(HO2.out.lt _ e).1);have hq4:∀q∈ps,RV w4 (Own w.heap.size (fun _=>False) (.slice (some ⟨g,0,none⟩) (j+1) cap)) q.1 q.2.a:=(fun q hq=>RV.own hgrow hownk hat (by simp) (RV.ext (Agree.below (show Below w2.heap.size w2 _ from Below.r)) _ _ (RV.ext hagb _ _ (HQ.out q hq))));have hv4:RV w4 (Own w.heap.size (fun _=>False) (.slice (some ⟨g,0,none⟩) (j+1) cap)) v' m.a:=RV.own hgrow hownk hat (by simp) (RV.ext (Agree.below (show Below w2.heap.size w2 _ from Below.r)) _ _ hv2)))
    go_roundg (gk - 1)
    case measure=>omega
    case rel=>
     refine ⟨j+1,q,ps++[(v',m)],_,rfl,by omega,by go_num,hq,(hbt.trans (hbb.mono (by omega))).trans (But.of hbw1),hid (by have:=HPL.out;simp;omega),hid (by rw [List.map_append];exact HST.out),hid (Cur.below hbw1 hcs HC2.out),hid ?_,hid ?_⟩
     ·rw [flatV_append];exact hown
     ·intro q hq
      rcases List.mem_append.1 hq with hq|hq
      ·exact hq4 q hq
      ·simp at hq
       subst hq
       exact hv4
   ·rw [hW] at hst hinj
    have HW:=hid hW
    subst hst
    clear hW
    go_wp2_with (go_at_call 53;refine (IH.out l[j] p _ mj HX.out.1 HX.out.2.1 hp HX.out.2.2 (by exact Cur.below (B:=wr.heap.size) Below.r hcr HCU.out) (by exact RT.ext (Agree.but But.r) _ _ gx)).mono ?_;rw [HW.out];rintro e1 w2 ⟨hb2,rfl,hk1,hk2⟩;have hz2:=hb2.size;(try simp at hz2);have hbb:But c wr.heap.size wr w2:=But.r;have hkb:(((k:Int)) != 1)=true:=(by simp;omega))
    go_ret2
    exact ⟨(hbt.trans (hbb.mono (by omega))).trans (But.of (Below.mono (B:=w2.heap.size) Below.r (by omega))),rfl,hk1,hk2⟩
  ·have hjl:j=l.length:=by omega
   subst hjl
   have hst:=HP.out
   rw [List.drop_length] at hst
   have hE:=RVs_of_row (A:=fun b=>w.heap.size≤b) HO.out (fun b h=>h) (fun q hq=>RV.mono (fun b hb _=>by rcases hb with ⟨h,_⟩|⟨h,_⟩;exact absurd h id;exact h) _ _ (HQ.out q hq))
   obtain ⟨av,cv,hav,hrd⟩:=hE
   have hst2:R=.ok (ps.map Prod.fst) p:=by rw [←hst];simp [allRest,allD,Res.map]
   have HRD:=hid hrd
   subst hst2
   subst hav
   clear hst hrd HR0
   go_wp2_with fail
   refine bodyPost_ret (v:=(.tuple #[.slice av (ps.map Prod.fst).length cv,.int .u8 1])) (by first|(simp [results,Tryz.f77,go_sem];done)|(simp [results,Tryz.f77,go_sem, *];done)) rfl ?_
   exact ⟨hbt,⟨av,cv,rfl,HRD.out⟩,HCU.out⟩
set_option maxRecDepth 100000 in
set_option maxHeartbeats 4000000 in
theorem r22Copied_any (N:Nat):∀(x:GV) (w:World) (A:Nat→Prop) (m:VA),sizeV x≤N→okV x→RV w A x m.a→Calls Tryz.prog 72 #[VV x m] w (CopyR x w):=by
 induction N with
 | zero=>intro x;have:=sizeV_pos x;intros;omega
 | succ N ih=>
  rintro x w A ⟨ma,mc⟩ hN ox hl
  have IH:=hid ih
  have HL:=hid (RV_iff.1 hl)
  obtain ⟨⟨x1,x2⟩,⟨x3,x4⟩,hln,ovs⟩:=okV_iff.1 ox
  have O:=hid ovs
  have hse:=sizeV_eq x
  obtain ⟨i0,hi0,y0,y1,y2⟩:=info_parts infoVal
  clear ih hl ox ovs
  go_enter Tryz.func72,Tryz.ntmps72
  go_wp2_with fail
  go_loopg [3,4] (x.l.length) (fun gk t3 i' wr=>∃(j:Nat) (ps:List (GV×VA)) (v:Value),v=t3∧gk+j=x.l.length∧i'=.int .i64 j∧Below w.heap.size w wr∧w.heap.size+1 < wr.heap.size ∧
   wr.cell? ⟨w.heap.size,0,none⟩=some (.int .u8 x.k)∧wr.cell? ⟨w.heap.size,1,none⟩=some (.int .i64 x.n)∧wr.cell? ⟨w.heap.size,2,none⟩=some (.slice ma x.l.length mc) ∧
   wr.cell? ⟨w.heap.size+1,0,none⟩=some (.int .u8 0)∧wr.cell? ⟨w.heap.size+1,1,none⟩=some (.int .i64 0)∧wr.cell? ⟨w.heap.size+1,2,none⟩=some (.slice none 0 0) ∧
   (∀o,wr.frozen? ⟨w.heap.size,o,none⟩=false)∧(∀o,wr.frozen? ⟨w.heap.size+1,o,none⟩=false)∧Hid (ps.length=j)∧Hid (ps.map Prod.fst=x.l.take j) ∧
   Hid (wr.ownsRow (w.heap.size+2) 24 3 v j (flatV ps))∧Hid (∀q∈ps,RV wr (Own (w.heap.size+2) (fun _=>False) v) q.1 q.2.a))
  case atStart=>exact ⟨0,[],_,rfl,by omega,rfl,Below.r,by simp,by go_simp,by go_simp,by go_simp,by go_simp,by go_simp,by go_simp,by intro o;go_simp,by intro o;go_simp,hid rfl,hid rfl,hid (World.ownsRow_nil _ _ _ _),hid (fun q hq=>by simp at hq)⟩
  case round=>
   obtain ⟨j,ps,v,rfl,hj,rfl,hb,hz,c0,c1,c2,d0,d1,d2,f0,f1,HPL,HP,HO,HQ⟩:=hrel
   by_cases hlt:j < x.l.length
   ·obtain ⟨b,o,mj,rfl,hA,hbs,g0,gx⟩:=HL.out.get j hlt
    obtain ⟨k0,k1,k2⟩:=At3.1 (g0.ext (Agree.below hb) (A:=fun _=>True) trivial)
    have hs1:b < wr.heap.size:=by omega
    have hq1:=sizeVs_get x.l j hlt
    clear g0
    go_wp2_with (first
     | (go_at_call 72;refine (IH.out x.l[j] _ A mj (by omega) (O.out.get j hlt) (by exact RV.ext (Agree.below Below.r) _ _ gx)).mono ?_;rintro e1 w2 ⟨hb2,m,rfl,hrv⟩;have HRV:=hid hrv;clear hrv;have hz2:=hb2.size;(try simp at hz2);have HO2:=hid (owns_below HO.out hb2 (fun k hk=>(HO.out.lt _ hk).2)))
     | (at_builtin;refine wpList_append_lies _ rfl _ _ 22 rfl (w.heap.size+2) 24 i0 _ 3 40 Tryz.underlying22 hi0 y0 y1 y2 rfl (by decide) _ j _ (by rfl) (HO2.out.alloc _) ⟨w2.heap.size,0,none⟩ 1 1 [.int .u8 x.l[j].k,.int .i64 x.l[j].n,.slice m.a x.l[j].l.length m.c] (by rfl) rfl (cells_new3 _ _ _ _ _) (by simp [Value.oneCell']) (by decide) (by unfold maxLen;omega) (by omega) (by simp;omega) (w2.heap.size+1) (by simp) ?_;intro g cap w4 hown hgrow hat hlt1))
    have hownk:∀k,v.ownBlock=some k→w.heap.size+2≤k:=fun k e=>(HO.out.lt _ e).1
    have hbw1:Below (w.heap.size+2) w2 w4:=Below.grown ((Below.refl _ _).alloc (by omega) _) hgrow (by simp;omega) (fun k e=>(HO2.out.lt _ e).1)
    have hbr:Below (w.heap.size+2) wr w4:=(hb2.mono (by omega)).trans hbw1
    have hag2:Agree (Own (w.heap.size+2) (fun _=>False) v) w2 (w2.alloc (.cells #[.int .u8 x.l[j].k,.int .i64 x.l[j].n,.slice m.a x.l[j].l.length m.c] 24)):=Agree.below ((Below.refl _ _).alloc (Nat.le_refl _) _)
    have hagb:Agree (Own (w.heap.size+2) (fun _=>False) v) wr w2:=Agree.below hb2
    go_roundg (gk - 1)
    case measure=>omega
    case rel=>
     refine ⟨j+1,ps++[(x.l[j],m)],_,rfl,by omega,by go_num,hb.trans (hbr.mono (by omega)),by have:=hbr.size;omega,(hbr.cell (by simp)).trans c0,(hbr.cell (by simp)).trans c1,(hbr.cell (by simp)).trans c2,(hbr.cell (by simp)).trans d0,(hbr.cell (by simp)).trans d1,(hbr.cell (by simp)).trans d2,fun o=>(hbr.frozen (by simp)).trans (f0 o),fun o=>(hbr.frozen (by simp)).trans (f1 o),hid (by have:=HPL.out;simp;omega),hid (by rw [List.map_append,HP.out,List.take_succ_eq_append_getElem hlt];rfl),hid ?_,hid ?_⟩
     ·rw [flatV_append];exact hown
     ·intro q hq
      rcases List.mem_append.1 hq with hq|hq
      ·exact RV.own hgrow hownk hat (by simp) (RV.ext hag2 _ _ (RV.ext hagb _ _ (HQ.out q hq)))
      ·simp at hq
       subst hq
       refine RV.own hgrow hownk hat (by simp) (RV.ext hag2 _ _ (RV.mono (fun b h _=>?_) _ _ HRV.out))
       exact .inr ⟨by omega,fun e=>by have:=(HO.out.lt _ e).2;omega⟩
   ·have hjl:j=x.l.length:=by omega
    subst hjl
    obtain ⟨av,cv,hav,hrd⟩:=RVs_of_row (A:=fun b=>w.heap.size+2≤b) HO.out (fun b h=>h) (fun q hq=>RV.mono (fun b hb _=>by rcases hb with ⟨h,_⟩|⟨h,_⟩;exact absurd h id;exact h) _ _ (HQ.out q hq))
    rw [HP.out,List.take_length] at hav hrd
    subst hav
    have HRD:=hid hrd
    clear hrd HO HQ HP HPL
    go_wp2_with fail
    refine bodyPost_ret (v:=VV x ⟨av,cv⟩) (by first|(simp [results,Tryz.f72,go_sem];done)|(simp [results,Tryz.f72,go_sem, *];done)) rfl ?_
    exact ⟨Below.r,⟨av,cv⟩,rfl,RV_iff.2 (RVs.mono (fun b hb _=>by omega) _ _ (RVs.ext ((Agree.set so).trans (((Agree.set so).trans (Agree.set so)).trans (Agree.set so))) _ _ HRD.out))⟩
set_option maxRecDepth 100000 in
set_option maxHeartbeats 4000000 in
theorem s22_1 (c:Nat) (s:ByteArray) (f:Nat) (t:GT) (i:Nat) (w:World) (m:TA) (hk:t.k=1) (ox:okT t) (hc:Cur w c s i false) (hl:RT w (fun b=>b≠c) t m):
  Calls Tryz.prog 53 #[.pointer (some ⟨c,0,none⟩),TV t m] w (Sam22 c s (sampT s (f+1) t [] i) w):=by
 rw [sampT_1 s f t [] i hk]
 obtain ⟨ma,mb,mc,md,me,mf,mg,mh,mi,mj,mk,ml⟩:=m
 have HV:=hid (RT_iff.1 hl).1
 have OV:=hid (okT_iff.1 ox).2.1
 have HC:=hid hc
 have hcs:c < w.heap.size:=World.block_lt_of_cell? _ _ hc.1.1
 have hk1:(t.k==1)=true:=by simp [hk]
 clear hl ox hc hk
 go_enter Tryz.func53,Tryz.ntmps53
 go_wp2_with (go_at_call 72;refine (r22Copied_any _ t.v _ (fun b=>b≠c) ⟨ma,mb⟩ (Nat.le_refl _) OV.out (by exact RV.ext (Agree.below Below.r) _ _ HV.out)).mono ?_;rintro e w2 ⟨hb2,m2,rfl,hrv⟩;have HRV:=hid hrv;clear hrv;obtain ⟨hc2,hf2⟩:=bcells hb2;have hz2:=hb2.size;(try simp at hz2);have y1:w.heap.size+1 < w2.heap.size:=(by omega))
 refine bodyPost_ret (v:=(.tuple #[VV t.v m2,.int .u8 1])) (by first|(simp [results,Tryz.f53,go_sem];done)|(simp [results,Tryz.f53,go_sem, *];done)) rfl ?_
 exact ⟨But.r,⟨m2,rfl,RV.mono (fun b hb _=>by (try simp at hb);omega) _ _ (RV.ext (((Agree.set so).trans (Agree.set so)).trans (Agree.set so)) _ _ HRV.out)⟩,Cur.below (B:=w.heap.size) Below.r hcs HC.out⟩
set_option maxRecDepth 100000 in
set_option maxHeartbeats 4000000 in
theorem s22_2 (c:Nat) (s:ByteArray) (f:Nat) (t:GT) (i:Nat) (w:World) (m:TA) (hb:isBits s=true) (hk:t.k=2) (hn:nodeT t=0) (hi:i≤s.size) (hc:Cur w c s i false):
  Calls Tryz.prog 53 #[.pointer (some ⟨c,0,none⟩),TV t m] w (Sam22 c s (sampT s (f+1) t [] i) w):=by
 rw [sampT_2 s f t [] i hk]
 obtain ⟨ma,mb,mc,md,me,mf,mg,mh,mi,mj,mk,ml⟩:=m
 obtain ⟨r1,r2,r3⟩:=node_range hn hk
 have HC:=hid hc
 have HB:=hid hb
 have hcs:c < w.heap.size:=World.block_lt_of_cell? _ _ hc.1.1
 have hk1:(t.k==1)=false:=by simp [hk]
 have hk2:(t.k==2)=true:=by simp [hk]
 clear hc hk hb hn
 rcases hN:numD s t.lo t.hi i with ⟨n,j⟩|⟨k⟩
 ·have HN:=hid hN
  clear hN
  go_enter Tryz.func53,Tryz.ntmps53
  go_wp2_with (go_at_call 73;refine (r22num_any c s i t.lo t.hi _ HB.out hi r1 r2 r3 (by exact Cur.below (B:=w.heap.size) Below.r hcs HC.out)).mono ?_;rw [HN.out];rintro e w2 ⟨hb2,rfl,hc2⟩;have HC2:=hid hc2;clear hc2;have hz2:=hb2.size;(try simp at hz2);obtain ⟨hc2,hf2⟩:=ccells hb2;have y1:w.heap.size+1 < w2.heap.size:=(by omega);have y2:¬w.heap.size+1=c:=(by omega);have y3:¬w.heap.size=c:=(by omega))
  refine bodyPost_ret (v:=(.tuple #[VV ⟨1,n,[]⟩ ⟨none,0⟩,.int .u8 1])) (by first|(simp [results,Tryz.f53,go_sem];done)|(simp [results,Tryz.f53,go_sem, *];done)) rfl ?_
  exact ⟨But.r,⟨⟨none,0⟩,rfl,by simp [RV,RVs]⟩,Cur.below (B:=w.heap.size+1) Below.r (by omega) HC2.out⟩
 ·have HN:=hid hN
  have hk:k=2:=by
   unfold numD drawD at hN
   revert hN
   rcases drawP s (t.hi - t.lo+1).toNat i with ⟨_|v,j⟩<;>simp [needR,Res.map]<;>omega
  subst hk
  clear hN
  go_enter Tryz.func53,Tryz.ntmps53
  go_wp2_with (go_at_call 73;refine (r22num_any c s i t.lo t.hi _ HB.out hi r1 r2 r3 (by exact Cur.below (B:=w.heap.size) Below.r hcs HC.out)).mono ?_;rw [HN.out];rintro e w2 ⟨hb2,rfl⟩;have hz2:=hb2.size;(try simp at hz2);obtain ⟨hc2,hf2⟩:=ccells hb2;have y1:w.heap.size+1 < w2.heap.size:=(by omega);have y2:¬w.heap.size+1=c:=(by omega);have y3:¬w.heap.size=c:=(by omega))
  refine bodyPost_ret (v:=(.tuple #[VV ⟨0,0,[]⟩ ⟨none,0⟩,.int .u8 2])) (by first|(simp [results,Tryz.f53,go_sem];done)|(simp [results,Tryz.f53,go_sem, *];done)) rfl ?_
  exact ⟨But.r,rfl,by omega,by omega⟩
set_option maxRecDepth 100000 in
set_option maxHeartbeats 4000000 in
theorem s22_5 (c:Nat) (s:ByteArray) (f:Nat) (ih:SamIH22 c s f) (t:GT) (i:Nat) (w:World) (m:TA) (hk:t.k=5) (hn:nodeT t=0) (hx:∀x∈t.a,goodT false x∧okT x∧∃k n,wkT f x [] k n≠none) (hi:i≤s.size) (hc:Cur w c s i false) (hl:RT w (fun b=>b≠c) t m):
  Calls Tryz.prog 53 #[.pointer (some ⟨c,0,none⟩),TV t m] w (Sam22 c s (sampT s (f+1) t [] i) w):=by
 rw [sampT_5 s f t [] i hk]
 obtain ⟨ma,mb,mc,md,me,mf,mg,mh,mi,mj,mk,ml⟩:=m
 have h64:=node_args hn (.inl hk)
 have HL:=hid (RT_iff.1 hl).2.2.2.2
 have HC:=hid hc
 have HX:=hid hx
 have IH:=hid ih
 have hcs:c < w.heap.size:=World.block_lt_of_cell? _ _ hc.1.1
 have hk1:(t.k==1)=false:=by simp [hk]
 have hk2:(t.k==2)=false:=by simp [hk]
 have hk3:(t.k==3)=false:=by simp [hk]
 have hk4:(t.k==4)=false:=by simp [hk]
 have hk5:(t.k==5)=true:=by simp [hk]
 clear hc hk hl hx ih hn
 rcases hN:allD (fun x=>sampT s f x []) t.a i with ⟨l,j⟩|⟨k⟩
 ·have HN:=hid hN
  clear hN
  go_enter Tryz.func53,Tryz.ntmps53
  go_wp2_with (first
   | (go_at_call 77;refine (r22all_any c s f IH.out t.a i _ mk ml h64 HX.out hi (by exact Cur.below (B:=w.heap.size) Below.r hcs HC.out) (by exact RTs.ext (Agree.below Below.r) _ _ HL.out)).mono ?_;rw [HN.out];rintro e w2 ⟨hb2,⟨a,cp,rfl,hrv⟩,hc2⟩;have HC2:=hid hc2;have HRV:=hid hrv;clear hc2 hrv;have hz2:=hb2.size;(try simp at hz2);obtain ⟨hc2,hf2⟩:=ccells hb2;have y1:w.heap.size+1 < w2.heap.size:=(by omega);have y2:¬w.heap.size+1=c:=(by omega);have y3:¬w.heap.size=c:=(by omega))
   | (go_at_call 78;refine (r22made_ok 3 a l.length cp _).mono ?_;rintro e w3 ⟨rfl,hb3⟩;have hz3:=hb3.size;(try simp at hz3);obtain ⟨hc3,hf3⟩:=bcells hb3;have y4:w.heap.size+1 < w3.heap.size:=(by omega)))
  refine bodyPost_ret (v:=(.tuple #[VV ⟨3,0,l⟩ ⟨a,cp⟩,.int .u8 1])) (by first|(simp [results,Tryz.f53,go_sem];done)|(simp [results,Tryz.f53,go_sem, *];done)) rfl ?_
  exact ⟨But.r,⟨⟨a,cp⟩,rfl,RV_iff.2 (RVs.mono (fun b hb _=>by (try simp at hb);omega) _ _ (RVs.ext ((Agree.below (show Below w2.heap.size w2 w3 from Below.r)).trans (((Agree.set so).trans (Agree.set so)).trans (Agree.set so))) _ _ HRV.out))⟩,Cur.below (B:=w.heap.size+1) Below.r (by omega) HC2.out⟩
 ·have HN:=hid hN
  clear hN
  go_enter Tryz.func53,Tryz.ntmps53
  go_wp2_with (first
   | (go_at_call 77;refine (r22all_any c s f IH.out t.a i _ mk ml h64 HX.out hi (by exact Cur.below (B:=w.heap.size) Below.r hcs HC.out) (by exact RTs.ext (Agree.below Below.r) _ _ HL.out)).mono ?_;rw [HN.out];rintro e w2 ⟨hb2,rfl,hk8,hk9⟩;have hz2:=hb2.size;(try simp at hz2);obtain ⟨hc2,hf2⟩:=ccells hb2;have y1:w.heap.size+1 < w2.heap.size:=(by omega);have y2:¬w.heap.size+1=c:=(by omega);have y3:¬w.heap.size=c:=(by omega))
   | (go_at_call 78;refine (r22made_no 3 k none 0 0 _ (by simp;omega)).mono ?_;rintro e w3 ⟨rfl,hb3⟩;have hz3:=hb3.size;(try simp at hz3);obtain ⟨hc3,hf3⟩:=bcells hb3;have y4:w.heap.size+1 < w3.heap.size:=(by omega)))
  refine bodyPost_ret (v:=(.tuple #[VV ⟨0,0,[]⟩ ⟨none,0⟩,.int .u8 k])) (by first|(simp [results,Tryz.f53,go_sem];done)|(simp [results,Tryz.f53,go_sem, *];done)) rfl ?_
  exact ⟨But.r,rfl,hk8,hk9⟩
set_option maxRecDepth 100000 in
set_option maxHeartbeats 4000000 in
theorem s22_3 (c:Nat) (s:ByteArray) (f:Nat) (ih:SamIH22 c s f) (t:GT) (i:Nat) (w:World) (m:TA) (hb:isBits s=true) (hk:t.k=3) (hn:nodeT t=0) (hx:∀x∈t.a,goodT false x∧okT x∧∃k n,wkT f x [] k n≠none) (hi:i≤s.size) (hc:Cur w c s i false) (hl:RT w (fun b=>b≠c) t m):
  Calls Tryz.prog 53 #[.pointer (some ⟨c,0,none⟩),TV t m] w (Sam22 c s (sampT s (f+1) t [] i) w):=by
 rw [sampT_3 s f t [] i hk]
 obtain ⟨ma,mb,mc,md,me,mf,mg,mh,mi,mj,mk,ml⟩:=m
 obtain ⟨hlen,hfe⟩:=node_freq hn hk
 have HL:=hid (RT_iff.1 hl).2.2.2.2
 have HW:=hid (RT_iff.1 hl).2.2.1
 have HC:=hid hc
 have HB:=hid hb
 have HX:=hid hx
 have IH:=hid ih
 have HFE:=hid hfe
 have hcs:c < w.heap.size:=World.block_lt_of_cell? _ _ hc.1.1
 have hfi:=freqP_in s t.w i hi hfe
 have hk1:(t.k==1)=false:=by simp [hk]
 have hk2:(t.k==2)=false:=by simp [hk]
 have hk3:(t.k==3)=true:=by simp [hk]
 clear hc hk hl hx ih hn hb hfe
 rcases hN:freqP s t.w i with ⟨_|k,j⟩
 ·have HN:=hid hN
  clear hN hfi
  show Calls _ _ _ _ (Sam22 c s (.no 2) w)
  go_enter Tryz.func53,Tryz.ntmps53
  go_wp2_with (go_at_call 74;refine (r10Draw_any t.w s i c mf me _ HB.out hi HFE.out (by exact RIs.ext (Agree.below Below.r) _ _ HW.out) (by exact Cur.below (B:=w.heap.size) Below.r hcs HC.out)).mono ?_;rw [HN.out];rintro e w2 ⟨hb2,rfl,hc2⟩;clear hc2;have hz2:=hb2.size;(try simp at hz2);obtain ⟨hc2,hf2⟩:=ccells hb2;have y1:w.heap.size+1 < w2.heap.size:=(by omega);have y2:¬w.heap.size+1=c:=(by omega);have y3:¬w.heap.size=c:=(by omega))
  refine bodyPost_ret (v:=(.tuple #[VV ⟨0,0,[]⟩ ⟨none,0⟩,.int .u8 2])) (by first|(simp [results,Tryz.f53,go_sem];done)|(simp [results,Tryz.f53,go_sem, *];done)) rfl ?_
  exact ⟨But.r,rfl,by omega,by omega⟩
 ·have HN:=hid hN
  rw [hN] at hfi
  have hkl:k < t.a.length:=by have:=hfi.2.2 k rfl;omega
  have hj:j≤s.size:=hfi.2.1
  obtain ⟨b,o,mq,rfl,hA,hbs,g0,gx⟩:=HL.out.get k hkl
  obtain ⟨z0,z1,z2,z3,z4,z5,z6,z7,z8,z9,za,zb,zc,zd,ze⟩:=At15.1 g0
  have hkI:(k:Int) < (t.a.length:Int):=by omega
  have hbc:¬b=c:=hA
  have HG:=hid (HX.out t.a[k] (List.getElem_mem hkl))
  have e0:((needR (some k,j)).bind fun k j=>atD (fun x=>sampT s f x []) t.a k j)=sampT s f t.a[k] [] j:=by
   simp only [needR,Res.bind,atD,List.getElem?_eq_getElem hkl]
  rw [e0]
  clear hN hfi e0 g0 hA
  rcases hW:sampT s f t.a[k] [] j with ⟨v',q⟩|⟨k'⟩
  all_goals have HW2:=hid hW
  all_goals clear hW
  ·go_enter Tryz.func53,Tryz.ntmps53
   go_wp2_with (first
    | (go_at_call 74;refine (r10Draw_any t.w s i c mf me _ HB.out hi HFE.out (by exact RIs.ext (Agree.below Below.r) _ _ HW.out) (by exact Cur.below (B:=w.heap.size) Below.r hcs HC.out)).mono ?_;rw [HN.out];rintro e w2 ⟨hb2,rfl,hc2⟩;have HC2:=hid hc2;clear hc2;have hz2:=hb2.size;(try simp at hz2);obtain ⟨hc2,hf2⟩:=ccells hb2;have y1:w.heap.size+1 < w2.heap.size:=(by omega);have y2:¬w.heap.size+1=c:=(by omega);have y3:¬w.heap.size=c:=(by omega);have y5:b < w.heap.size+1+1:=(by omega))
    | (go_at_call 53;refine (IH.out t.a[k] j _ mq HG.out.1 HG.out.2.1 hj HG.out.2.2 (by exact HC2.out) (by exact RT.ext (Agree.but But.r) _ _ gx)).mono ?_;rw [HW2.out];rintro e1 w3 ⟨hb3,⟨m3,rfl,hrv⟩,hc3⟩;have HRV:=hid hrv;have HC3:=hid hc3;clear hrv hc3;have hz3:=hb3.size;(try simp at hz3);obtain ⟨hc3,hf3⟩:=ccells hb3;have y4:w.heap.size+1 < w3.heap.size:=(by omega)))
   refine bodyPost_ret (v:=(.tuple #[VV v' m3,.int .u8 1])) (by first|(simp [results,Tryz.f53,go_sem];done)|(simp [results,Tryz.f53,go_sem, *];done)) rfl ?_
   exact ⟨But.r,⟨m3,rfl,RV.mono (fun b hb _=>by (try simp at hb);omega) _ _ (RV.ext (((Agree.set so).trans (Agree.set so)).trans (Agree.set so)) _ _ HRV.out)⟩,Cur.below (B:=w.heap.size+1) Below.r (by omega) HC3.out⟩
  ·go_enter Tryz.func53,Tryz.ntmps53
   go_wp2_with (first
    | (go_at_call 74;refine (r10Draw_any t.w s i c mf me _ HB.out hi HFE.out (by exact RIs.ext (Agree.below Below.r) _ _ HW.out) (by exact Cur.below (B:=w.heap.size) Below.r hcs HC.out)).mono ?_;rw [HN.out];rintro e w2 ⟨hb2,rfl,hc2⟩;have HC2:=hid hc2;clear hc2;have hz2:=hb2.size;(try simp at hz2);obtain ⟨hc2,hf2⟩:=ccells hb2;have y1:w.heap.size+1 < w2.heap.size:=(by omega);have y2:¬w.heap.size+1=c:=(by omega);have y3:¬w.heap.size=c:=(by omega);have y5:b < w.heap.size+1+1:=(by omega))
    | (go_at_call 53;refine (IH.out t.a[k] j _ mq HG.out.1 HG.out.2.1 hj HG.out.2.2 (by exact HC2.out) (by exact RT.ext (Agree.but But.r) _ _ gx)).mono ?_;rw [HW2.out];rintro e1 w3 ⟨hb3,rfl,hk8,hk9⟩;have hz3:=hb3.size;(try simp at hz3);obtain ⟨hc3,hf3⟩:=ccells hb3;have y4:w.heap.size+1 < w3.heap.size:=(by omega)))
   refine bodyPost_ret (v:=(.tuple #[VV ⟨0,0,[]⟩ ⟨none,0⟩,.int .u8 k'])) (by first|(simp [results,Tryz.f53,go_sem];done)|(simp [results,Tryz.f53,go_sem, *];done)) rfl ?_
   exact ⟨But.r,rfl,hk8,hk9⟩
theorem pickL_take {α:Type} (l:List α) (row:List Int) (j:Nat) (h:j < row.length) (k:Nat) (hk:row[j]=(k:Int)) (hl:k < l.length):pickL l (row.take (j+1))=pickL l (row.take j)++[l[k]]:=by
 unfold pickL
 rw [List.take_succ_eq_append_getElem h,List.filterMap_append,hk]
 simp [List.getElem?_eq_getElem hl]
set_option maxRecDepth 100000 in
set_option maxHeartbeats 2000000 in
theorem pickedV_any (l:List GV) (row:List Int) (A A2:Nat→Prop) (w:World) (al ar:Option Addr) (cl cr:Nat) (hl:l.length≤1048576) (hrow:row.length≤64) (hm:∀x∈row,0≤x∧x < (l.length:Int)) (hr:RVs w A l al) (hi:RIs w A2 row ar):
  Calls Tryz.prog 99 #[.slice al l.length cl,.slice ar row.length cr] w fun e w'=>Below w.heap.size w w'∧∃a cp,e=.returned (.slice a (pickL l row).length cp)∧RVs w' (fun b=>A b∨w.heap.size≤b) (pickL l row) a:=by
 have HL:=hid (RVs.mono (A':=fun b=>A b∧b < w.heap.size) (fun b h hb=>⟨h,hb⟩) _ _ hr)
 have HI:=hid hi
 have HM:=hid hm
 obtain ⟨i0,hi0,y0,y1,y2⟩:=info_parts infoVal
 clear hr hi hm
 go_enter Tryz.func99,Tryz.ntmps99
 go_wp2_with fail
 go_loopg [5,10] (row.length) (fun gk t5 i' wr=>∃(j:Nat) (ps:List (GV×VA)) (v:Value),v=t5∧gk+j=row.length∧i'=.int .i64 j∧Below w.heap.size w wr∧Hid (ps.length=j)∧Hid (ps.map Prod.fst=pickL l (row.take j)) ∧
  Hid (wr.ownsRow w.heap.size 24 3 v j (flatV ps))∧Hid (∀q∈ps,RV wr (Own w.heap.size A v) q.1 q.2.a))
 case atStart=>exact ⟨0,[],_,rfl,by omega,rfl,Below.z,hid rfl,hid rfl,hid (World.ownsRow_nil _ _ _ _),fun q hq=>by simp at hq⟩
 case round=>
  obtain ⟨j,ps,v,rfl,hj,rfl,hb,HPL,HP,HO,HQ⟩:=hrel
  have hz:=hb.size
  by_cases hlt:j < row.length
  ·obtain ⟨b1,o1,rfl,hA1,hbs1,g1⟩:=HI.out.get j hlt
   obtain ⟨x0,x1⟩:=HM.out row[j] (List.getElem_mem hlt)
   obtain ⟨k,hk⟩:∃k:Nat,row[j]=(k:Int):=⟨row[j].toNat,by omega⟩
   have hkl:k < l.length:=by omega
   have hkI:(k:Int) < (l.length:Int):=by omega
   have hst:=pickL_take l row j hlt k hk hkl
   rw [hk] at g1
   have r0:wr.cell? ⟨b1,o1+j,none⟩=some (.int .i64 k):=(hb.cell hbs1).trans g1
   obtain ⟨b,o,mj,rfl,hA,hbs,g0,gx⟩:=HL.out.get k hkl
   obtain ⟨k0,k1,k2⟩:=At3.1 (g0.ext (Agree.below hb) (A:=fun _=>True) trivial)
   have hs1:b < wr.heap.size:=by omega
   have hs2:b1 < wr.heap.size:=by omega
   have HST:=hid hst
   clear g0 g1 hk x0 x1 hst
   go_wp2_with (at_builtin;refine wpList_append_lies _ rfl _ _ 22 rfl w.heap.size 24 i0 _ 3 40 Tryz.underlying22 hi0 y0 y1 y2 rfl (by decide) _ j _ (by rfl) (HO.out.alloc _) ⟨wr.heap.size,0,none⟩ 1 1 [.int .u8 l[k].k,.int .i64 l[k].n,.slice mj.a l[k].l.length mj.c] (by rfl) rfl (cells_new3 _ _ _ _ _) (by simp [Value.oneCell']) (by decide) (by unfold maxLen;omega) (by omega) (by simp;omega) (wr.heap.size+1) (by simp) ?_;intro g cap w4 hown hgrow hat hlt1)
   have hownk:∀q,v.ownBlock=some q→w.heap.size≤q:=fun q e=>(HO.out.lt _ e).1
   have hbw1:Below w.heap.size wr w4:=Below.grown ((Below.refl _ _).alloc (by omega) _) hgrow (by simp;omega) hownk
   have hag2:Agree (Own w.heap.size A v) wr (wr.alloc (.cells #[.int .u8 l[k].k,.int .i64 l[k].n,.slice mj.a l[k].l.length mj.c] 24)):=Agree.below ((Below.refl _ _).alloc (Nat.le_refl _) _)
   go_roundg (gk - 1)
   case measure=>omega
   case rel=>
    refine ⟨j+1,ps++[(l[k],mj)],_,rfl,by omega,by go_num,hb.trans hbw1,hid (by have:=HPL.out;simp;omega),hid (by rw [List.map_append,HP.out,HST.out];rfl),hid ?_,?_⟩
    ·rw [flatV_append];exact hown
    ·intro q hq
     rcases List.mem_append.1 hq with hq|hq
     ·exact RV.own hgrow hownk hat (by simp) (RV.ext hag2 _ _ (HQ.out q hq))
     ·simp at hq
      subst hq
      exact RV.own hgrow hownk hat (by simp) (RV.ext hag2 _ _ (RV.mono (fun b h _=>.inl h) _ _ (RV.ext (Agree.below hb) _ _ gx)))
  ·have hjl:j=row.length:=by omega
   have hst:=HP.out
   rw [hjl,List.take_length] at hst
   have hE:=RVs_of_row (A:=fun b=>A b∨w.heap.size≤b) HO.out (fun b h=>.inr h) (fun q hq=>RV.mono (fun b hb _=>by rcases hb with ⟨h,_⟩|⟨h,_⟩;exact .inl h;exact .inr h) _ _ (HQ.out q hq))
   obtain ⟨av,cv,hav,hrd⟩:=hE
   rw [hst] at hav hrd
   have HRD:=hid hrd
   have HAV:=hid hav
   clear hst hrd hav
   go_wp2_with fail
   go_ret
   exact ⟨hb,av,cv,by rw [←HAV.out];rfl,HRD.out⟩
def flatT:List (GT×TA)→List Value
 | []=>[]
 | (x,m)::r=>[.int .u8 x.k,.int .u8 x.v.k,.int .i64 x.v.n,.slice m.va x.v.l.length m.vc,.slice m.vsa x.vs.length m.vsc,.int .i64 x.lo,.int .i64 x.hi,.slice m.wa x.w.length m.wc,.int .u8 x.p.k,.int .u8 x.p.v.k,.int .i64 x.p.v.n,.slice m.pva x.p.v.l.length m.pvc,.int .i64 x.p.n,.slice m.pa x.p.a.length m.pc,.slice m.a x.a.length m.c]++flatT r
theorem flatT_length:∀ps:List (GT×TA),(flatT ps).length=ps.length*15
 | []=>rfl
 | (x,m)::r=>by simp only [flatT,List.length_append,List.length_cons,List.length_nil,flatT_length r];omega
theorem flatT_append:∀ps qs:List (GT×TA),flatT (ps++qs)=flatT ps++flatT qs
 | [],qs=>rfl
 | (x,m)::r,qs=>by simp only [List.cons_append,flatT,flatT_append r qs,List.nil_append]
theorem RTs_of_cells {w:World} {g:Nat} {A:Nat→Prop} (hA:A g):∀(ps:List (GT×TA)) (o:Nat),(∀j u,(flatT ps)[j]? =some u→w.cell? ⟨g,o+j,none⟩=some u)→(∀p∈ps,RT w A p.1 p.2)→RTs w A (ps.map Prod.fst) (some ⟨g,o,none⟩)
 | [],o,_,_=>by simp only [List.map_nil,RTs]
 | (x,m)::r,o,h,hr=>by
  simp only [List.map_cons,RTs]
  refine ⟨g,o,m,rfl,hA,?_,hr (x,m) (by simp),RTs_of_cells hA r (o+15) (fun j u hj=>?_) fun p hp=>hr p (by simp [hp])⟩
  ·rw [At15]
   exact ⟨h 0 _ rfl,h 1 _ rfl,h 2 _ rfl,h 3 _ rfl,h 4 _ rfl,h 5 _ rfl,h 6 _ rfl,h 7 _ rfl,h 8 _ rfl,h 9 _ rfl,h 10 _ rfl,h 11 _ rfl,h 12 _ rfl,h 13 _ rfl,h 14 _ rfl⟩
  ·have:=h (j+15) u (by simpa [flatT] using hj)
   rw [show o+15+j=o+(j+15) by omega];exact this
theorem RTs_of_row {w:World} {base e n:Nat} {v:Value} {ps:List (GT×TA)} {A:Nat→Prop} (h:w.ownsRow base e 15 v n (flatT ps)) (hA:∀b,base≤b→A b) (hr:∀p∈ps,RT w A p.1 p.2):∃a c,v=.slice a (ps.map Prod.fst).length c∧RTs w A (ps.map Prod.fst) a:=by
 have hn:ps.length=n:=by have:=h.1;rw [flatT_length] at this;omega
 rcases h.2 with ⟨rfl,h0⟩|⟨g,cap,cur,rfl,hb,h3⟩
 ·have hz:ps=[]:=List.eq_nil_of_length_eq_zero (by omega)
  subst hz
  exact ⟨none,0,rfl,by simp only [List.map_nil,RTs]⟩
 ·refine ⟨_,cap,by rw [List.length_map,hn],RTs_of_cells (hA _ hb) ps 0 (fun j u hj=>?_) hr⟩
  have hl:=h.1
  have hj2:=(List.getElem?_eq_some_iff.1 hj).1
  rw [Nat.zero_add,h.cellAt j (by omega)];exact hj
theorem infoTerm:(Tryz.prog.info? 31).map (fun i=>(i.zero,i.size,i.bytes))=some (some (.agg #[.int .u8 0,.int .u8 0,.int .i64 0,.slice none 0 0,.slice none 0 0,.int .i64 0,.int .i64 0,.slice none 0 0,.int .u8 0,.int .u8 0,.int .i64 0,.slice none 0 0,.int .i64 0,.slice none 0 0,.slice none 0 0]),15,216):=by kernel_rfl
set_option maxRecDepth 100000 in
set_option maxHeartbeats 2000000 in
theorem pickedT_any (l:List GT) (row:List Int) (A A2:Nat→Prop) (w:World) (al ar:Option Addr) (cl cr:Nat) (hl:l.length≤1048576) (hrow:row.length≤64) (hm:∀x∈row,0≤x∧x < (l.length:Int)) (hr:RTs w A l al) (hi:RIs w A2 row ar):
  Calls Tryz.prog 102 #[.slice al l.length cl,.slice ar row.length cr] w fun e w'=>Below w.heap.size w w'∧∃a cp,e=.returned (.slice a (pickL l row).length cp)∧RTs w' (fun b=>A b∨w.heap.size≤b) (pickL l row) a:=by
 have HL:=hid (RTs.mono (A':=fun b=>A b∧b < w.heap.size) (fun b h hb=>⟨h,hb⟩) _ _ hr)
 have HI:=hid hi
 have HM:=hid hm
 obtain ⟨i0,hi0,y0,y1,y2⟩:=info_parts infoTerm
 clear hr hi hm
 go_enter Tryz.func102,Tryz.ntmps102
 go_wp2_with fail
 go_loopg [5,10] (row.length) (fun gk t5 i' wr=>∃(j:Nat) (ps:List (GT×TA)) (v:Value),v=t5∧gk+j=row.length∧i'=.int .i64 j∧Below w.heap.size w wr∧Hid (ps.length=j)∧Hid (ps.map Prod.fst=pickL l (row.take j)) ∧
  Hid (wr.ownsRow w.heap.size 31 15 v j (flatT ps))∧Hid (∀q∈ps,RT wr (Own w.heap.size A v) q.1 q.2))
 case atStart=>exact ⟨0,[],_,rfl,by omega,rfl,Below.z,hid rfl,hid rfl,hid (World.ownsRow_nil _ _ _ _),fun q hq=>by simp at hq⟩
 case round=>
  obtain ⟨j,ps,v,rfl,hj,rfl,hb,HPL,HP,HO,HQ⟩:=hrel
  have hz:=hb.size
  by_cases hlt:j < row.length
  ·obtain ⟨b1,o1,rfl,hA1,hbs1,g1⟩:=HI.out.get j hlt
   obtain ⟨x0,x1⟩:=HM.out row[j] (List.getElem_mem hlt)
   obtain ⟨k,hk⟩:∃k:Nat,row[j]=(k:Int):=⟨row[j].toNat,by omega⟩
   have hkl:k < l.length:=by omega
   have hkI:(k:Int) < (l.length:Int):=by omega
   have hst:=pickL_take l row j hlt k hk hkl
   rw [hk] at g1
   have r0:wr.cell? ⟨b1,o1+j,none⟩=some (.int .i64 k):=(hb.cell hbs1).trans g1
   obtain ⟨b,o,mj,rfl,hA,hbs,g0,gx⟩:=HL.out.get k hkl
   obtain ⟨z0,z1,z2,z3,z4,z5,z6,z7,z8,z9,za,zb,zc,zd,ze⟩:=At15.1 (g0.ext (Agree.below hb) (A:=fun _=>True) trivial)
   have hs1:b < wr.heap.size:=by omega
   have hs2:b1 < wr.heap.size:=by omega
   have HST:=hid hst
   clear g0 g1 hk x0 x1 hst
   go_wp2_with (at_builtin;refine wpList_append_lies _ rfl _ _ 29 rfl w.heap.size 31 i0 _ 15 216 Tryz.underlying29 hi0 y0 y1 y2 rfl (by decide) _ j _ (by rfl) (HO.out.alloc _) ⟨wr.heap.size,0,none⟩ 1 1 [.int .u8 l[k].k,.int .u8 l[k].v.k,.int .i64 l[k].v.n,.slice mj.va l[k].v.l.length mj.vc,.slice mj.vsa l[k].vs.length mj.vsc,.int .i64 l[k].lo,.int .i64 l[k].hi,.slice mj.wa l[k].w.length mj.wc,.int .u8 l[k].p.k,.int .u8 l[k].p.v.k,.int .i64 l[k].p.v.n,.slice mj.pva l[k].p.v.l.length mj.pvc,.int .i64 l[k].p.n,.slice mj.pa l[k].p.a.length mj.pc,.slice mj.a l[k].a.length mj.c] (by rfl) rfl (fun j u hu=>World.news_of_block (heap_alloc_new wr _) j u (by simpa using hu)) (by simp [Value.oneCell']) (by decide) (by unfold maxLen;omega) (by omega) (by simp;omega) (wr.heap.size+1) (by simp) ?_;intro g cap w4 hown hgrow hat hlt1)
   have hownk:∀q,v.ownBlock=some q→w.heap.size≤q:=fun q e=>(HO.out.lt _ e).1
   have hbw1:Below w.heap.size wr w4:=Below.grown ((Below.refl _ _).alloc (by omega) _) hgrow (by simp;omega) hownk
   have hag2:Agree (Own w.heap.size A v) wr (wr.alloc (.cells #[.int .u8 l[k].k,.int .u8 l[k].v.k,.int .i64 l[k].v.n,.slice mj.va l[k].v.l.length mj.vc,.slice mj.vsa l[k].vs.length mj.vsc,.int .i64 l[k].lo,.int .i64 l[k].hi,.slice mj.wa l[k].w.length mj.wc,.int .u8 l[k].p.k,.int .u8 l[k].p.v.k,.int .i64 l[k].p.v.n,.slice mj.pva l[k].p.v.l.length mj.pvc,.int .i64 l[k].p.n,.slice mj.pa l[k].p.a.length mj.pc,.slice mj.a l[k].a.length mj.c] 31)):=Agree.below ((Below.refl _ _).alloc (Nat.le_refl _) _)
   go_roundg (gk - 1)
   case measure=>omega
   case rel=>
    refine ⟨j+1,ps++[(l[k],mj)],_,rfl,by omega,by go_num,hb.trans hbw1,hid (by have:=HPL.out;simp;omega),hid (by rw [List.map_append,HP.out,HST.out];rfl),hid ?_,?_⟩
    ·rw [flatT_append];exact hown
    ·intro q hq
     rcases List.mem_append.1 hq with hq|hq
     ·exact RT.own hgrow hownk hat (by simp) (RT.ext hag2 _ _ (HQ.out q hq))
     ·simp at hq
      subst hq
      exact RT.own hgrow hownk hat (by simp) (RT.ext hag2 _ _ (RT.mono (fun b h _=>.inl h) _ _ (RT.ext (Agree.below hb) _ _ gx)))
  ·have hjl:j=row.length:=by omega
   have hst:=HP.out
   rw [hjl,List.take_length] at hst
   have hE:=RTs_of_row (A:=fun b=>A b∨w.heap.size≤b) HO.out (fun b h=>.inr h) (fun q hq=>RT.mono (fun b hb _=>by rcases hb with ⟨h,_⟩|⟨h,_⟩;exact .inl h;exact .inr h) _ _ (HQ.out q hq))
   obtain ⟨av,cv,hav,hrd⟩:=hE
   rw [hst] at hav hrd
   have HRD:=hid hrd
   have HAV:=hid hav
   clear hst hrd hav
   go_wp2_with fail
   go_ret
   exact ⟨hb,av,cv,by rw [←HAV.out];rfl,HRD.out⟩
set_option maxRecDepth 100000 in
set_option maxHeartbeats 4000000 in
theorem r22again_any (t:GT) (n:Nat) (w:World) (A:Nat→Prop) (m:TA) (hn:n≤16) (hl:RT w A t m):
  Calls Tryz.prog 79 #[TV t m,.int .i64 n] w fun e w'=>Below w.heap.size w w'∧∃a cp,e=.returned (.slice a (List.replicate n t).length cp)∧RTs w' (fun b=>A b∨w.heap.size≤b) (List.replicate n t) a:=by
 obtain ⟨ma,mb,mc,md,me,mf,mg,mh,mi,mj,mk,ml⟩:=m
 have HT:=hid (RT.mono (A':=fun b=>A b∧b < w.heap.size) (fun b h hb=>⟨h,hb⟩) _ _ hl)
 obtain ⟨i0,hi0,y0,y1,y2⟩:=info_parts infoTerm
 clear hl
 go_enter Tryz.func79,Tryz.ntmps79
 go_wp2_with fail
 go_loopg [5,6] (n) (fun gk t5 i' wr=>∃(j:Nat) (ps:List (GT×TA)) (v:Value),v=t5∧gk+j=n∧i'=.int .i64 j∧Below w.heap.size w wr∧w.heap.size < wr.heap.size ∧
  Hid (At wr w.heap.size 0 [.int .u8 t.k,.int .u8 t.v.k,.int .i64 t.v.n,.slice ma t.v.l.length mb,.slice mc t.vs.length md,.int .i64 t.lo,.int .i64 t.hi,.slice me t.w.length mf,.int .u8 t.p.k,.int .u8 t.p.v.k,.int .i64 t.p.v.n,.slice mg t.p.v.l.length mh,.int .i64 t.p.n,.slice mi t.p.a.length mj,.slice mk t.a.length ml]) ∧
  Hid (ps.length=j)∧Hid (ps.map Prod.fst=List.replicate j t) ∧
  Hid (wr.ownsRow (w.heap.size+1) 31 15 v j (flatT ps))∧Hid (∀q∈ps,RT wr (Own (w.heap.size+1) A v) q.1 q.2))
 case atStart=>exact ⟨0,[],_,rfl,by omega,rfl,Below.r,by simp,hid (At15z.2 ⟨by go_simp,by go_simp,by go_simp,by go_simp,by go_simp,by go_simp,by go_simp,by go_simp,by go_simp,by go_simp,by go_simp,by go_simp,by go_simp,by go_simp,by go_simp⟩),hid rfl,hid rfl,hid (World.ownsRow_nil _ _ _ _),hid (fun q hq=>by simp at hq)⟩
 case round=>
  obtain ⟨j,ps,v,rfl,hj,rfl,hb,hz,HAT,HPL,HP,HO,HQ⟩:=hrel
  by_cases hlt:j < n
  ·obtain ⟨z0,z1,z2,z3,z4,z5,z6,z7,z8,z9,za,zb,zc,zd,ze⟩:=At15z.1 HAT.out
   go_wp2_with (at_builtin;refine wpList_append_lies _ rfl _ _ 29 rfl (w.heap.size+1) 31 i0 _ 15 216 Tryz.underlying29 hi0 y0 y1 y2 rfl (by decide) _ j _ (by rfl) (HO.out.alloc _) ⟨wr.heap.size,0,none⟩ 1 1 [.int .u8 t.k,.int .u8 t.v.k,.int .i64 t.v.n,.slice ma t.v.l.length mb,.slice mc t.vs.length md,.int .i64 t.lo,.int .i64 t.hi,.slice me t.w.length mf,.int .u8 t.p.k,.int .u8 t.p.v.k,.int .i64 t.p.v.n,.slice mg t.p.v.l.length mh,.int .i64 t.p.n,.slice mi t.p.a.length mj,.slice mk t.a.length ml] (by rfl) rfl (fun j u hu=>World.news_of_block (heap_alloc_new wr _) j u (by simpa using hu)) (by simp [Value.oneCell']) (by decide) (by unfold maxLen;omega) (by omega) (by simp;omega) (wr.heap.size+1) (by simp) ?_;intro g cap w4 hown hgrow hat hlt1)
   have hownk:∀q,v.ownBlock=some q→w.heap.size+1≤q:=fun q e=>(HO.out.lt _ e).1
   have hbw1:Below (w.heap.size+1) wr w4:=Below.grown ((Below.refl _ _).alloc (by omega) _) hgrow (by simp;omega) hownk
   have hag2:Agree (Own (w.heap.size+1) A v) wr (wr.alloc (.cells #[.int .u8 t.k,.int .u8 t.v.k,.int .i64 t.v.n,.slice ma t.v.l.length mb,.slice mc t.vs.length md,.int .i64 t.lo,.int .i64 t.hi,.slice me t.w.length mf,.int .u8 t.p.k,.int .u8 t.p.v.k,.int .i64 t.p.v.n,.slice mg t.p.v.l.length mh,.int .i64 t.p.n,.slice mi t.p.a.length mj,.slice mk t.a.length ml] 31)):=Agree.below ((Below.refl _ _).alloc (Nat.le_refl _) _)
   go_roundg (gk - 1)
   case measure=>omega
   case rel=>
    refine ⟨j+1,ps++[(t,⟨ma,mb,mc,md,me,mf,mg,mh,mi,mj,mk,ml⟩)],_,rfl,by omega,by go_num,hb.trans (hbw1.mono (by omega)),by have:=hbw1.size;omega,hid (At.ext (A:=fun b=>b=w.heap.size) (fun q u hq hc=>⟨(hbw1.cell (p:=q) (by simp at hq;omega)).trans hc,hbw1.frozen (p:=q) (by simp at hq;omega)⟩) rfl _ _ HAT.out),hid (by have:=HPL.out;simp;omega),hid (by rw [List.map_append,HP.out,List.replicate_succ'];rfl),hid ?_,hid ?_⟩
    ·rw [flatT_append];exact hown
    ·intro q hq
     rcases List.mem_append.1 hq with hq|hq
     ·exact RT.own hgrow hownk hat (by simp) (RT.ext hag2 _ _ (HQ.out q hq))
     ·simp at hq
      subst hq
      exact RT.own hgrow hownk hat (by simp) (RT.ext hag2 _ _ (RT.mono (fun b h _=>.inl ⟨h.1,by omega⟩) _ _ (RT.ext (Agree.below hb) _ _ HT.out)))
  ·have hjl:j=n:=by omega
   subst hjl
   have hst:=HP.out
   have hE:=RTs_of_row (A:=fun b=>A b∨w.heap.size≤b) HO.out (fun b h=>.inr (by omega)) (fun q hq=>RT.mono (fun b hb _=>by rcases hb with ⟨h,_⟩|⟨h,_⟩;exact .inl h;exact .inr (by omega)) _ _ (HQ.out q hq))
   obtain ⟨av,cv,hav,hrd⟩:=hE
   rw [hst] at hav hrd
   have HRD:=hid hrd
   have HAV:=hid hav
   clear hst hrd hav
   go_wp2_with fail
   go_ret
   exact ⟨hb,av,cv,by rw [←HAV.out];rfl,HRD.out⟩
theorem repD_all {g:GT→Nat→Res GV} (x:GT):∀(n i:Nat),repD (g x) n i=allD g (List.replicate n x) i
 | 0,i=>by simp [repD,allD]
 | n+1,i=>by
  rw [List.replicate_succ]
  simp only [repD,allD]
  congr 1
  funext v j
  rw [repD_all x n j]
theorem numD_rng {s:ByteArray} {lo hi:Int} {i:Nat} {n:Int} {j:Nat} (h:numD s lo hi i=.ok n j) (hl:lo≤hi) (hi0:i≤s.size):lo≤n∧n≤hi∧j≤s.size:=by
 have hd:=drawP_in s (hi - lo+1).toNat i hi0
 unfold numD drawD at h
 rcases hP:drawP s (hi - lo+1).toNat i with ⟨_|v,j'⟩
 ·rw [hP] at h;simp [needR,Res.map] at h
 ·rw [hP] at h hd
  simp only [needR,Res.map,Res.ok.injEq] at h
  obtain ⟨rfl,rfl⟩:=h
  have:=hd.2.2 v rfl
  have:=hd.2.1
  omega
theorem numD_no {s:ByteArray} {lo hi:Int} {i k:Nat} (h:numD s lo hi i=.no k):k=2:=by
 unfold numD drawD at h
 revert h
 rcases drawP s (hi - lo+1).toNat i with ⟨_|v,j⟩<;>simp [needR,Res.map]<;>omega
theorem r22again_at (t:GT) (n:Nat) (w:World) (A:Nat→Prop) (m:TA) (hn:n≤16) (hl:RT w A t m):
  Calls Tryz.prog 79 #[TV t m,.int .i64 n] w fun e w'=>Below w.heap.size w w'∧∃a cp,e=.returned (.slice a n cp)∧RTs w' (fun b=>A b∨w.heap.size≤b) (List.replicate n t) a:=
 (r22again_any t n w A m hn hl).mono fun e w' ⟨h1,a,cp,h2,h3⟩=>⟨h1,a,cp,by rw [h2,List.length_replicate],h3⟩
theorem r22all_at (c:Nat) (s:ByteArray) (f:Nat) (ih:SamIH22 c s f) (l:List GT) (n:Nat) (hn:l.length=n) (i:Nat) (w:World) (al:Option Addr) (cp:Nat) (hl64:l.length≤64)
  (hl:∀x∈l,goodT false x∧okT x∧∃k n,wkT f x [] k n≠none) (hi:i≤s.size) (hc:Cur w c s i false) (hr:RTs w (fun b=>b≠c) l al):
  Calls Tryz.prog 77 #[.pointer (some ⟨c,0,none⟩),.slice al n cp] w (Sams22 c s (allD (fun x=>sampT s f x []) l i) w):=by
 subst hn
 exact r22all_any c s f ih l i w al cp hl64 hl hi hc hr
set_option maxRecDepth 100000 in
set_option maxHeartbeats 4000000 in
theorem s22_6 (c:Nat) (s:ByteArray) (f:Nat) (ih:SamIH22 c s f) (t:GT) (i:Nat) (w:World) (m:TA) (hb:isBits s=true) (hk:t.k=6) (hn:nodeT t=0) (hx:∀x∈t.a,goodT false x∧okT x∧∃k n,wkT f x [] k n≠none) (hi:i≤s.size) (hc:Cur w c s i false) (hl:RT w (fun b=>b≠c) t m):
  Calls Tryz.prog 53 #[.pointer (some ⟨c,0,none⟩),TV t m] w (Sam22 c s (sampT s (f+1) t [] i) w):=by
 rw [sampT_6 s f t [] i hk]
 obtain ⟨ma,mb,mc,md,me,mf,mg,mh,mi,mj,mk,ml⟩:=m
 obtain ⟨hal,h0,h1,h2⟩:=node_list hn hk
 have HL:=hid (RT_iff.1 hl).2.2.2.2
 have HC:=hid hc
 have HB:=hid hb
 have HX:=hid hx
 have IH:=hid ih
 have hcs:c < w.heap.size:=World.block_lt_of_cell? _ _ hc.1.1
 have hk1:(t.k==1)=false:=by simp [hk]
 have hk2:(t.k==2)=false:=by simp [hk]
 have hk3:(t.k==3)=false:=by simp [hk]
 have hk4:(t.k==4)=false:=by simp [hk]
 have hk5:(t.k==5)=false:=by simp [hk]
 have hk6:(t.k==6)=true:=by simp [hk]
 clear hc hk hl hx ih hn hb
 rcases hN:numD s t.lo t.hi i with ⟨n,j⟩|⟨k⟩
 ·obtain ⟨n1,n2,hj⟩:=numD_rng hN h1 hi
  obtain ⟨N,rfl⟩:∃N:Nat,n=N:=⟨n.toNat,by omega⟩
  have HN:=hid hN
  have h0l:0 < t.a.length:=by omega
  obtain ⟨b,o,mq,rfl,hA,hbs,g0,gx⟩:=HL.out.get 0 h0l
  obtain ⟨z0,z1,z2,z3,z4,z5,z6,z7,z8,z9,za,zb,zc,zd,ze⟩:=At15.1 (show At w b o _ by simpa using g0)
  have hI0:(0:Int) < (t.a.length:Int):=by omega
  have hbc:¬b=c:=hA
  have HG:=hid (fun x (hx:x∈List.replicate N (t.a[0]'h0l))=>(by rw [(List.mem_replicate.1 hx).2];exact HX.out _ (List.getElem_mem h0l):goodT false x∧okT x∧∃k n,wkT f x [] k n≠none))
  have e0:(fun j=>atD (fun x=>sampT s f x []) t.a 0 j)=(fun x=>sampT s f x []) (t.a[0]'h0l):=by
   funext j;simp only [atD,List.getElem?_eq_getElem h0l]
  simp only [Res.bind,e0,Int.toNat_natCast]
  rw [repD_all (g:=fun x=>sampT s f x []) (t.a[0]'h0l) N j]
  have hN64:(List.replicate N (t.a[0]'h0l)).length≤64:=by rw [List.length_replicate];omega
  clear hN g0 hA e0
  rcases hW:allD (fun x=>sampT s f x []) (List.replicate N (t.a[0]'h0l)) j with ⟨l,q⟩|⟨k'⟩
  ·have HW:=hid hW
   clear hW
   go_enter Tryz.func53,Tryz.ntmps53
   go_wp2_with (first
    | (go_at_call 73;refine (r22num_any c s i t.lo t.hi _ HB.out hi (by omega) h1 (by omega) (by exact Cur.below (B:=w.heap.size) Below.r hcs HC.out)).mono ?_;rw [HN.out];rintro e w2 ⟨hb2,rfl,hc2⟩;have HC2:=hid hc2;clear hc2;have hz2:=hb2.size;(try simp at hz2);obtain ⟨hc2,hf2⟩:=ccells hb2;have y1:w.heap.size+1 < w2.heap.size:=(by omega);have y2:¬w.heap.size+1=c:=(by omega);have y3:¬w.heap.size=c:=(by omega);have y5:b < w.heap.size+1+1:=(by omega))
    | (go_at_call 79;refine (r22again_at (t.a[0]'h0l) N _ (fun b=>b≠c) mq (by omega) (by exact RT.ext (Agree.but But.r) _ _ gx)).mono ?_;rintro e w3 ⟨hb3,a3,p3,rfl,hr3⟩;have HR3:=hid (RTs.mono (A':=fun b=>b≠c) (fun b hb _=>(by rcases hb with h|h;exact h;(try simp at h);omega)) _ _ hr3);clear hr3;have hz3:=hb3.size;(try simp at hz3);obtain ⟨hc3,hf3⟩:=bcells hb3;have y4:w.heap.size+1 < w3.heap.size:=(by omega))
    | (go_at_call 77;refine (r22all_at c s f IH.out (List.replicate N (t.a[0]'h0l)) N (by rw [List.length_replicate]) j _ a3 p3 hN64 HG.out hj (by exact Cur.below (B:=w2.heap.size) Below.r (by omega) HC2.out) (by exact HR3.out)).mono ?_;rw [HW.out];rintro e w4 ⟨hb4,⟨a,cp,rfl,hrv⟩,hc4⟩;have HC4:=hid hc4;have HRV:=hid hrv;clear hc4 hrv;have hz4:=hb4.size;(try simp at hz4);obtain ⟨hc4,hf4⟩:=ccells hb4;have y6:w.heap.size+1 < w4.heap.size:=(by omega))
    | (go_at_call 78;refine (r22made_ok 4 a l.length cp _).mono ?_;rintro e w5 ⟨rfl,hb5⟩;have hz5:=hb5.size;(try simp at hz5);obtain ⟨hc5,hf5⟩:=bcells hb5;have y7:w.heap.size+1 < w5.heap.size:=(by omega)))
   refine bodyPost_ret (v:=(.tuple #[VV ⟨4,0,l⟩ ⟨a,cp⟩,.int .u8 1])) (by first|(simp [results,Tryz.f53,go_sem];done)|(simp [results,Tryz.f53,go_sem, *];done)) rfl ?_
   exact ⟨But.r,⟨⟨a,cp⟩,rfl,RV_iff.2 (RVs.mono (fun b hb _=>by (try simp at hb);omega) _ _ (RVs.ext ((Agree.below (show Below w4.heap.size w4 w5 from Below.r)).trans (((Agree.set so).trans (Agree.set so)).trans (Agree.set so))) _ _ HRV.out))⟩,Cur.below (B:=w.heap.size+1) Below.r (by omega) HC4.out⟩
  ·have HW:=hid hW
   clear hW
   go_enter Tryz.func53,Tryz.ntmps53
   go_wp2_with (first
    | (go_at_call 73;refine (r22num_any c s i t.lo t.hi _ HB.out hi (by omega) h1 (by omega) (by exact Cur.below (B:=w.heap.size) Below.r hcs HC.out)).mono ?_;rw [HN.out];rintro e w2 ⟨hb2,rfl,hc2⟩;have HC2:=hid hc2;clear hc2;have hz2:=hb2.size;(try simp at hz2);obtain ⟨hc2,hf2⟩:=ccells hb2;have y1:w.heap.size+1 < w2.heap.size:=(by omega);have y2:¬w.heap.size+1=c:=(by omega);have y3:¬w.heap.size=c:=(by omega);have y5:b < w.heap.size+1+1:=(by omega))
    | (go_at_call 79;refine (r22again_at (t.a[0]'h0l) N _ (fun b=>b≠c) mq (by omega) (by exact RT.ext (Agree.but But.r) _ _ gx)).mono ?_;rintro e w3 ⟨hb3,a3,p3,rfl,hr3⟩;have HR3:=hid (RTs.mono (A':=fun b=>b≠c) (fun b hb _=>(by rcases hb with h|h;exact h;(try simp at h);omega)) _ _ hr3);clear hr3;have hz3:=hb3.size;(try simp at hz3);obtain ⟨hc3,hf3⟩:=bcells hb3;have y4:w.heap.size+1 < w3.heap.size:=(by omega))
    | (go_at_call 77;refine (r22all_at c s f IH.out (List.replicate N (t.a[0]'h0l)) N (by rw [List.length_replicate]) j _ a3 p3 hN64 HG.out hj (by exact Cur.below (B:=w2.heap.size) Below.r (by omega) HC2.out) (by exact HR3.out)).mono ?_;rw [HW.out];rintro e w4 ⟨hb4,rfl,hk8,hk9⟩;have hz4:=hb4.size;(try simp at hz4);obtain ⟨hc4,hf4⟩:=ccells hb4;have y6:w.heap.size+1 < w4.heap.size:=(by omega))
    | (go_at_call 78;refine (r22made_no 4 k' none 0 0 _ (by simp;omega)).mono ?_;rintro e w5 ⟨rfl,hb5⟩;have hz5:=hb5.size;(try simp at hz5);obtain ⟨hc5,hf5⟩:=bcells hb5;have y7:w.heap.size+1 < w5.heap.size:=(by omega)))
   refine bodyPost_ret (v:=(.tuple #[VV ⟨0,0,[]⟩ ⟨none,0⟩,.int .u8 k'])) (by first|(simp [results,Tryz.f53,go_sem];done)|(simp [results,Tryz.f53,go_sem, *];done)) rfl ?_
   exact ⟨But.r,rfl,hk8,hk9⟩
 ·obtain rfl:=numD_no hN
  have HN:=hid hN
  clear hN
  show Calls _ _ _ _ (Sam22 c s (.no 2) w)
  go_enter Tryz.func53,Tryz.ntmps53
  go_wp2_with (go_at_call 73;refine (r22num_any c s i t.lo t.hi _ HB.out hi (by omega) h1 (by omega) (by exact Cur.below (B:=w.heap.size) Below.r hcs HC.out)).mono ?_;rw [HN.out];rintro e w2 ⟨hb2,rfl⟩;have hz2:=hb2.size;(try simp at hz2);obtain ⟨hc2,hf2⟩:=ccells hb2;have y1:w.heap.size+1 < w2.heap.size:=(by omega);have y2:¬w.heap.size+1=c:=(by omega);have y3:¬w.heap.size=c:=(by omega))
  refine bodyPost_ret (v:=(.tuple #[VV ⟨0,0,[]⟩ ⟨none,0⟩,.int .u8 2])) (by first|(simp [results,Tryz.f53,go_sem];done)|(simp [results,Tryz.f53,go_sem, *];done)) rfl ?_
  exact ⟨But.r,rfl,by omega,by omega⟩
mutual
def putT (s:GT):GT→GT
 | ⟨k,v,vs,lo,hi,ws,p,l⟩=>if k=11 then s else ⟨k,v,vs,lo,hi,ws,p,putTs s k 0 l⟩
def putTs (s:GT) (k:Int) (i:Nat):List GT→List GT
 | []=>[]
 | x::l=>(if stepB k i=true then x else putT s x)::putTs s k (i+1) l
end
theorem putT_eq (s t:GT):putT s t=if t.k=11 then s else ⟨t.k,t.v,t.vs,t.lo,t.hi,t.w,t.p,putTs s t.k 0 t.a⟩:=by cases t;simp only [putT]
theorem putTs_length (s:GT) (k:Int):∀(l:List GT) (i:Nat),(putTs s k i l).length=l.length
 | [],_=>by simp [putTs]
 | x::l,i=>by simp [putTs,putTs_length s k l (i+1)]
theorem putTs_get (s:GT) (k:Int):∀(l:List GT) (i j:Nat) (h:j < l.length) (h':j < (putTs s k i l).length),(putTs s k i l)[j]=if stepB k (i+j)=true then l[j] else putT s l[j]
 | x::l,i,0,_,_=>by simp [putTs]
 | x::l,i,j+1,h,h'=>by
  have:=putTs_get s k l (i+1) j (by simpa using h) (by rw [putTs_length];simpa using h)
  simp only [putTs,List.getElem_cons_succ]
  rw [this,show i+1+j=i+(j+1) by omega]
theorem putTs_take (s:GT) (k:Int) (l:List GT) (j:Nat) (h:j < l.length):(putTs s k 0 l).take (j+1)=(putTs s k 0 l).take j++[if stepB k j=true then l[j] else putT s l[j]]:=by
 have h':j < (putTs s k 0 l).length:=by rw [putTs_length];exact h
 rw [List.take_succ_eq_append_getElem h',putTs_get s k l 0 j h h',Nat.zero_add]
theorem nodeT_args (k:Int) (v:GV) (vs:List GV) (lo hi:Int) (ws:List Int) (p:GP) (l l':List GT) (h:l'.length=l.length):nodeT ⟨k,v,vs,lo,hi,ws,p,l'⟩=nodeT ⟨k,v,vs,lo,hi,ws,p,l⟩:=by
 simp only [nodeT,valuesE,restV,weightsE,restW,endsE,argumentsE,h]
mutual
theorem putT_good {b:Bool} {s:GT} (hs:goodT b s):∀(t:GT),goodT true t→goodT b (putT s t)
 | ⟨k,v,vs,lo,hi,ws,p,l⟩,h=>by
  simp only [putT]
  split
  ·exact hs
  ·rename_i hk
   simp only [goodT] at h ⊢
   refine ⟨?_,fun e=>absurd e hk,putTs_good hs k l 0 h.2.2⟩
   rw [nodeT_args k v vs lo hi ws p l _ (putTs_length s k l 0)]
   exact h.1
theorem putTs_good {b:Bool} {s:GT} (hs:goodT b s) (k:Int):∀(l:List GT) (i:Nat),goodTs true k i l→goodTs b k i (putTs s k i l)
 | [],_,_=>by simp only [putTs,goodTs]
 | x::l,i,h=>by
  simp only [goodTs,putTs] at h ⊢
  refine ⟨?_,putTs_good hs k l (i+1) h.2⟩
  cases hb:stepB k i
  ·have:=putT_good hs x (by simpa using h.1)
   simpa using this
  ·simpa using h.1
end
mutual
theorem putT_ok {s:GT} (hs:okT s):∀(t:GT),okT t→okT (putT s t)
 | ⟨k,v,vs,lo,hi,ws,p,l⟩,h=>by
  simp only [putT]
  split
  ·exact hs
  ·simp only [okT] at h ⊢
   obtain ⟨h1,h2,h3,h4,h5,h6,h7,h8,h9⟩:=h
   exact ⟨h1,h2,h3,h4,h5,h6,h7,by rw [putTs_length];exact h8,putTs_ok hs k l 0 h9⟩
theorem putTs_ok {s:GT} (hs:okT s) (k:Int):∀(l:List GT) (i:Nat),okTs l→okTs (putTs s k i l)
 | [],_,_=>by simp only [putTs,okTs]
 | x::l,i,h=>by
  simp only [okTs,putTs] at h ⊢
  refine ⟨?_,putTs_ok hs k l (i+1) h.2⟩
  split
  ·exact h.1
  ·exact putT_ok hs x h.1
end
def lessT (t:GT):GT:=⟨t.k,t.v,t.vs,t.lo - 1,t.hi,t.w,t.p,t.a⟩
theorem within_pos {t:GT} (hk:t.k=10) (hn:nodeT t=0):0≤t.lo∧t.lo≤8∧t.a.length=2:=by
 unfold nodeT at hn
 rw [if_neg (by omega)] at hn
 by_cases h1:valuesE t=0
 case neg=>rw [if_pos h1] at hn;exact absurd hn h1
 rw [if_neg (by simp [h1])] at hn
 by_cases h2:weightsE t=0
 case neg=>rw [if_pos h2] at hn;exact absurd hn h2
 rw [if_neg (by simp [h2])] at hn
 by_cases h3:endsE t=0
 case neg=>rw [if_pos h3] at hn;exact absurd hn h3
 rw [if_neg (by simp [h3])] at hn
 unfold endsE at h3
 rw [if_neg (by omega),if_neg (by omega),if_neg (by omega),if_pos hk] at h3
 unfold argumentsE manyE at hn
 rw [if_neg (by omega),if_neg (by omega),if_neg (by omega),if_pos hk] at hn
 have hw:withinB t.lo 0 8=true:=by
  cases h:withinB t.lo 0 8
  ·simp [h] at h3
  ·rfl
 have hw':0≤t.lo∧t.lo≤8:=by simpa [withinB] using hw
 refine ⟨hw'.1,hw'.2,?_⟩
 split at hn
 ·omega
 ·split at hn
  ·omega
  ·omega
theorem less_node {t:GT} (hk:t.k=10) (hl:t.lo≠0) (hn:nodeT t=0):nodeT (lessT t)=0:=by
 obtain ⟨h0,h1,_⟩:=within_pos hk hn
 obtain ⟨k,v,vs,lo,hi,ws,p,l⟩:=t
 dsimp only at hk hl h0 h1
 subst hk
 have e1:withinB lo 0 8=true:=by simp [withinB];omega
 have e2:withinB (lo - 1) 0 8=true:=by simp [withinB];omega
 have:endsE ⟨10,v,vs,lo - 1,hi,ws,p,l⟩=endsE ⟨10,v,vs,lo,hi,ws,p,l⟩:=by simp [endsE,e1,e2]
 simp only [nodeT,lessT,valuesE,restV,weightsE,restW,argumentsE] at hn ⊢
 rw [this]
 exact hn
theorem less_good {t:GT} {b:Bool} (hk:t.k=10) (hl:t.lo≠0) (hg:goodT b t):goodT b (lessT t):=by
 have h:=goodT_eq.1 hg
 exact goodT_eq.2 ⟨less_node hk hl h.1,h.2.1,h.2.2⟩
theorem less_ok {t:GT} (h0:0 < t.lo) (h:okT t):okT (lessT t):=by
 obtain ⟨h1,h2,h3,⟨h4,h4'⟩,h5⟩:=okT_iff.1 h
 exact okT_iff.2 ⟨h1,h2,h3,⟨by show _≤t.lo - 1;omega,by show t.lo - 1≤_;omega⟩,h5⟩
def stepT (t:GT) (a b:GT):GT:=if t.lo=0 then a else putT (lessT t) b
theorem step_good {t:GT} (hk:t.k=10) (hg:goodT false t) (h2:1 < t.a.length):goodT false (stepT t t.a[0] t.a[1]):=by
 have h:=goodT_eq.1 hg
 have g0:=h.2.2.get 0 (by omega)
 have g1:=h.2.2.get 1 h2
 unfold stepT
 split
 ·simpa [stepB] using g0
 ·rename_i hl
  exact putT_good (less_good hk hl hg) _ (by simpa [stepB,hk] using g1)
theorem size_of_checkV {v:GV} (h:checkV v=0):sizeV v≤4096:=by
 unfold checkV at h
 split at h
 ·omega
 ·split at h
  ·omega
  ·split at h
   ·omega
   ·omega
def PutR (w:World) (A:Nat→Prop) (x:GT) (e:Ending) (w':World):Prop:=Below w.heap.size w w'∧∃m:TA,e=.returned (TV x m)∧RT w' (fun b=>A b∨w.heap.size≤b) x m
structure PutM (n:Nat) (t s:GT) (m q:TA) (v:Value) (W:World):Prop where
 sz:n+4≤W.heap.size
 a:At W n 0 [.int .u8 t.k,.int .u8 t.v.k,.int .i64 t.v.n,.slice m.va t.v.l.length m.vc,.slice m.vsa t.vs.length m.vsc,.int .i64 t.lo,.int .i64 t.hi,.slice m.wa t.w.length m.wc,.int .u8 t.p.k,.int .u8 t.p.v.k,.int .i64 t.p.v.n,.slice m.pva t.p.v.l.length m.pvc,.int .i64 t.p.n,.slice m.pa t.p.a.length m.pc,.slice m.a t.a.length m.c]
 b:At W (n+1) 0 [.int .u8 s.k,.int .u8 s.v.k,.int .i64 s.v.n,.slice q.va s.v.l.length q.vc,.slice q.vsa s.vs.length q.vsc,.int .i64 s.lo,.int .i64 s.hi,.slice q.wa s.w.length q.wc,.int .u8 s.p.k,.int .u8 s.p.v.k,.int .i64 s.p.v.n,.slice q.pva s.p.v.l.length q.pvc,.int .i64 s.p.n,.slice q.pa s.p.a.length q.pc,.slice q.a s.a.length q.c]
 c:At W (n+1+1) 0 [.int .u8 0,.int .u8 0,.int .i64 0,.slice none 0 0,.slice none 0 0,.int .i64 0,.int .i64 0,.slice none 0 0,.int .u8 0,.int .u8 0,.int .i64 0,.slice none 0 0,.int .i64 0,.slice none 0 0,.slice none 0 0]
 cf:∀k,W.frozen? ⟨n+1+1,k,none⟩=false
 d:At W (n+1+1+1) 0 [.int .u8 t.k,.int .u8 t.v.k,.int .i64 t.v.n,.slice m.va t.v.l.length m.vc,.slice m.vsa t.vs.length m.vsc,.int .i64 t.lo,.int .i64 t.hi,.slice m.wa t.w.length m.wc,.int .u8 t.p.k,.int .u8 t.p.v.k,.int .i64 t.p.v.n,.slice m.pva t.p.v.l.length m.pvc,.int .i64 t.p.n,.slice m.pa t.p.a.length m.pc,v]
 df:∀k,W.frozen? ⟨n+1+1+1,k,none⟩=false
theorem At.eq {w w':World} {b:Nat} (h:∀o,w'.cell? ⟨b,o,none⟩=w.cell? ⟨b,o,none⟩):∀(l:List Value) (o:Nat),At w b o l→At w' b o l
 | [],_,_=>by simp only [At]
 | v::l,o,hx=>by
  simp only [At] at hx ⊢
  exact ⟨(h o).trans hx.1,At.eq h l _ hx.2⟩
theorem PutM.ext {n:Nat} {t s:GT} {m q:TA} {v:Value} {W W':World} (h:PutM n t s m q v W) (hs:W.heap.size≤W'.heap.size) (hc:∀c o,c < n+4→W'.cell? ⟨c,o,none⟩=W.cell? ⟨c,o,none⟩) (hf:∀c o,c < n+4→W'.frozen? ⟨c,o,none⟩=W.frozen? ⟨c,o,none⟩):PutM n t s m q v W':=
 ⟨Nat.le_trans h.sz hs,At.eq (fun o=>hc _ o (by omega)) _ _ h.a,At.eq (fun o=>hc _ o (by omega)) _ _ h.b,At.eq (fun o=>hc _ o (by omega)) _ _ h.c,fun k=>(hf _ k (by omega)).trans (h.cf k),At.eq (fun o=>hc _ o (by omega)) _ _ h.d,fun k=>(hf _ k (by omega)).trans (h.df k)⟩
theorem At.but {c B:Nat} {w w':World} (h:But c B w w') {b:Nat} (hb:b < B) (hne:b≠c) (l:List Value) (o:Nat) (hx:At w b o l):At w' b o l:=At.eq (fun o=>h.cell (p:=⟨b,o,none⟩) hb hne) l o hx
theorem PutM.set {n:Nat} {t s:GT} {m q:TA} {v:Value} {W:World} (h:PutM n t s m q v W) (u:Value):PutM n t s m q u (W.setCell ⟨n+1+1+1,14,none⟩ u):=by
 have hb:But (n+1+1+1) W.heap.size W (W.setCell ⟨n+1+1+1,14,none⟩ u):=But.setOwn (But.refl _ _ _) _ _
 have hz:=h.sz
 obtain ⟨d0,d1,d2,d3,d4,d5,d6,d7,d8,d9,da,db,dc,dd,de⟩:=At15z.1 h.d
 refine ⟨Nat.le_trans hz hb.size,At.but hb (by omega) (by omega) _ _ h.a,At.but hb (by omega) (by omega) _ _ h.b,At.but hb (by omega) (by omega) _ _ h.c,fun k=>(hb.frozen (p:=⟨_,k,none⟩) (by simp;omega) (by simp)).trans (h.cf k),At15z.2 ⟨?_,?_,?_,?_,?_,?_,?_,?_,?_,?_,?_,?_,?_,?_,?_⟩,fun k=>?_⟩
 all_goals first|(go_simp;done)|(have:=h.df k;go_simp)
theorem grown_low {W w4:World} {r:Option Nat} {B:Nat} (hg:W.grownBy w4 r) (ho:∀k,r=some k→B≤k) (hB:B≤W.heap.size):
  (∀c o,c < B→w4.cell? ⟨c,o,none⟩=W.cell? ⟨c,o,none⟩)∧(∀c o,c < B→w4.frozen? ⟨c,o,none⟩=W.frozen? ⟨c,o,none⟩):=
 ⟨fun c o hc=>hg.cell_far ⟨c,o,none⟩ (Nat.lt_of_lt_of_le hc hB) (fun e=>by have:=ho c e.symm;omega),fun c o hc=>hg.frozen_far ⟨c,o,none⟩ (Nat.lt_of_lt_of_le hc hB) (fun e=>by have:=ho c e.symm;omega)⟩
theorem cells_at15 {W:World} {n:Nat} (hn:W.heap.size=n) (a b c d e f g h i j k l m o p:Value) (t:TypeId):∀r u,[a,b,c,d,e,f,g,h,i,j,k,l,m,o,p][r]? =some u→(W.alloc (.cells #[a,b,c,d,e,f,g,h,i,j,k,l,m,o,p] t)).cell? ((⟨n,0,none⟩:Addr).add r)=some u:=by
 subst hn
 exact fun r u hu=>World.news_of_block (heap_alloc_new W _) r u (by simpa using hu)
theorem put_next {B n:Nat} {A:Nat→Prop} {v:Value} {W w4:World} {g cap j H:Nat} {ps:List (GT×TA)} {x:GT} {m:TA} (hn:n < B) (hgrow:W.grownBy w4 v.ownBlock) (hown:∀k,v.ownBlock=some k→B≤k) (hat:v.ownBlock=some g∨g=H) (hH:W.heap.size=H) (hB:B≤W.heap.size) (u:Value) (hA:∀b,A b→b < n)
  (hps:∀q∈ps,RT W (Own B A v) q.1 q.2) (hx:RT W (Own B A v) x m):∀q∈ps++[(x,m)],RT (w4.setCell ⟨n,14,none⟩ u) (Own B A (.slice (some ⟨g,0,none⟩) j cap)) q.1 q.2:=by
 intro q hq
 have hs:Agree (Own B A (.slice (some ⟨g,0,none⟩) j cap)) w4 (w4.setCell ⟨n,14,none⟩ u):=Agree.set (p:=⟨n,14,none⟩) (fun h=>by rcases h with ⟨h,_⟩|⟨h,_⟩;exact absurd (hA _ h) (by simp);exact absurd h (by simp;omega))
 refine RT.ext hs _ _ ?_
 rcases List.mem_append.1 hq with hq|hq
 ·exact RT.own hgrow hown hat hH (hps q hq)
 ·simp at hq
  subst hq
  exact RT.own hgrow hown hat hH hx
theorem put_rel {w wr W w4:World} {A:Nat→Prop} {t s x:GT} {m q mx:TA} {v:Value} {gk j g cap H e:Nat} {ps:List (GT×TA)} (hj:gk+j=t.a.length) (hlt:j < t.a.length) (hb:Below w.heap.size w wr) (hM:PutM w.heap.size t s m q v wr) (hPL:ps.length=j) (hP:ps.map Prod.fst=(putTs s t.k 0 t.a).take j) (hst:(putTs s t.k 0 t.a).take (j+1)=(putTs s t.k 0 t.a).take j++[x])
  (hQ:∀q∈ps,RT wr (Own (w.heap.size+4) (fun b=>A b∧b < w.heap.size) v) q.1 q.2) (hW:Below wr.heap.size wr W) (hx:RT W (Own (w.heap.size+4) (fun b=>A b∧b < w.heap.size) v) x mx) (hown:w4.ownsRow (w.heap.size+4) e 15 (.slice (some ⟨g,0,none⟩) (j+1) cap) (j+1) (flatT ps++[.int .u8 x.k,.int .u8 x.v.k,.int .i64 x.v.n,.slice mx.va x.v.l.length mx.vc,.slice mx.vsa x.vs.length mx.vsc,.int .i64 x.lo,.int .i64 x.hi,.slice mx.wa x.w.length mx.wc,.int .u8 x.p.k,.int .u8 x.p.v.k,.int .i64 x.p.v.n,.slice mx.pva x.p.v.l.length mx.pvc,.int .i64 x.p.n,.slice mx.pa x.p.a.length mx.pc,.slice mx.a x.a.length mx.c]))
  (hgrow:W.grownBy w4 v.ownBlock) (hownk:∀k,v.ownBlock=some k→w.heap.size+4≤k) (hat:v.ownBlock=some g∨g=H) (hH:W.heap.size=H) (hlt1:g < w4.heap.size):
  ∃(j':Nat) (ps':List (GT×TA)) (v':Value),gk - 1+j'=t.a.length∧Value.int .i64 ((j:Int)+1)=.int .i64 j'∧Below w.heap.size w (w4.setCell ⟨w.heap.size+1+1+1,14,none⟩ (.slice (some ⟨g,0,none⟩) (j+1) cap))∧Hid (PutM w.heap.size t s m q v' (w4.setCell ⟨w.heap.size+1+1+1,14,none⟩ (.slice (some ⟨g,0,none⟩) (j+1) cap)))∧Hid (ps'.length=j')∧Hid (ps'.map Prod.fst=(putTs s t.k 0 t.a).take j') ∧
   Hid ((w4.setCell ⟨w.heap.size+1+1+1,14,none⟩ (.slice (some ⟨g,0,none⟩) (j+1) cap)).ownsRow (w.heap.size+4) e 15 v' j' (flatT ps'))∧Hid (∀q∈ps',RT (w4.setCell ⟨w.heap.size+1+1+1,14,none⟩ (.slice (some ⟨g,0,none⟩) (j+1) cap)) (Own (w.heap.size+4) (fun b=>A b∧b < w.heap.size) v') q.1 q.2):=by
 have hz:=hM.sz
 have hzW:=hW.size
 have hzg:=hgrow.size
 have hbW:Below w.heap.size w W:=hb.trans (hW.mono (by omega))
 have hbg:Below w.heap.size w w4:=Below.grown hbW hgrow (by omega) (fun k hk=>by have:=hownk k hk;omega)
 obtain ⟨hc4,hf4⟩:=grown_low hgrow hownk (by omega)
 refine ⟨j+1,ps++[(x,mx)],.slice (some ⟨g,0,none⟩) (j+1) cap,by omega,by simp,Below.setCell hbg (by simp;omega) _,hid ?_,hid (by simp;omega),hid (by rw [List.map_append,hP,hst];rfl),hid ?_,hid ?_⟩
 ·refine PutM.set (v:=v) (PutM.ext hM (by omega) ?_ ?_) _
  ·intro c i hc;rw [hc4 c i hc];exact hW.cell (p:=⟨c,i,none⟩) (by simp;omega)
  ·intro c i hc;rw [hf4 c i hc];exact hW.frozen (p:=⟨c,i,none⟩) (by simp;omega)
 ·rw [flatT_append]
  exact owns_but (c:=w.heap.size+1+1+1) (B:=w4.heap.size) hown (But.setOwn (But.refl _ _ _) _ _) (fun k hk=>by have e:k=g:=(by cases hk;rfl);rw [e];exact ⟨hlt1,by rcases hat with h|h;have:=hownk _ h;omega;omega⟩)
 ·exact put_next (by omega) hgrow hownk hat hH (by omega) _ (fun b h=>by have:=h.2;omega) (fun q hq=>RT.ext (Agree.below hW) _ _ (hQ q hq)) hx
abbrev PutIH (N:Nat):Prop:=∀(t s:GT) (w:World) (A:Nat→Prop) (m q:TA),sizeT t≤N→okT t→RT w A t m→RT w A s q →
  Calls Tryz.prog 69 #[TV t m,TV s q] w (PutR w A (putT s t))
end Go.Proofs.YtclphfojkggcpaaGreat
