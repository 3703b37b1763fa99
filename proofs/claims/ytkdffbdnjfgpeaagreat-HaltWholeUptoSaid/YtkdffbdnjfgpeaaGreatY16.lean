/- Part 17. -/
import Derived.Deep.RegionHeld3
import Derived.Test.YtkdffbdnjfgpeaaGreatY25
set_option linter.all false
namespace Go.Proofs.YtkdffbdnjfgpeaaGreat
open Go.Lib (hid)
open Go Go.RowKit Go.Proofs.Tryz
abbrev ZgN (k:Nat):Ending:=.panicked [{ v:=.iface 149 (.int .u8 k),recovered:=false }]
theorem Y1 (x:Int) (w:World):Calls prog 145 #[.int .i64 x,.bool true] w fun e w'=>e=.returned (.int .i64 x)∧w=w':=by
 go_enter func145,ntmps145
 go_wp2_with fail
 go_ret
 exact ⟨rfl,rfl⟩
theorem UX (x:Int) (w:World):Calls prog 145 #[.int .i64 x,.bool false] w fun e w'=>e=ZgN 2∧Below w.heap.size w w':=by
 go_enter func145,ntmps145
 go_wp2_with fail
 exact ⟨rfl,rfl,ZtX⟩
theorem ZgW (x:Int) (w:World):Calls prog 220 #[.int .u64 x,.bool true] w fun e w'=>e=.returned (.int .u64 x)∧w=w':=by
 go_enter func220,ntmps220
 go_wp2_with fail
 go_ret
 exact ⟨rfl,rfl⟩
theorem Zij (x:Int) (w:World):Calls prog 220 #[.int .u64 x,.bool false] w fun e w'=>e=ZgN 2∧Below w.heap.size w w':=by
 go_enter func220,ntmps220
 go_wp2_with fail
 exact ⟨rfl,rfl,ZtX⟩
theorem Xy (a:Option Addr) (n c:Nat) (w:World):Calls prog 152 #[.slice a n c,.bool true] w fun e w'=>e=.returned (.slice a n c)∧w=w':=by
 go_enter func152,ntmps152
 go_wp2_with fail
 go_ret
 exact ⟨rfl,rfl⟩
theorem ZbA (a:Option Addr) (n c:Nat) (w:World):Calls prog 152 #[.slice a n c,.bool false] w fun e w'=>e=ZgN 2∧Below w.heap.size w w':=by
 go_enter func152,ntmps152
 go_wp2_with fail
 exact ⟨rfl,rfl,ZtX⟩
def Zlo (c:Nat) (s:ByteArray) (r:Res Int) (w:World):Ending→World→Prop:=fun e w'=>But c w.heap.size w w' ∧
 match r with
 | .ok n j=>e=.returned (.int .i64 n)∧Cur w' c s j false
 | .no k=>e=ZgN k
set_option maxRecDepth 100000
set_option maxHeartbeats 1000000
theorem U6 (c:Nat) (s:ByteArray) (i:Nat) (lo hi:Int) (w:World) (hb:Zc s=true) (hi0:i≤s.size) (h1: -1099511627776≤lo) (h2:lo≤hi) (h3:hi≤1099511627776) (hl:Cur w c s i false):
  Calls prog 143 #[.agg #[.pointer (some ⟨c,0,none⟩)],.int .i64 lo,.int .i64 hi] w (Zlo c s (WK s lo hi i) w):=by
 have HC:=hid hl
 have HB:=hid hb
 have hcs:c < w.heap.size:=World.block_lt_of_cell? _ _ hl.1.1
 obtain ⟨m,hm⟩:∃m:Nat,hi - lo+1=(m:Int):=⟨(hi - lo+1).toNat,om⟩
 have hm0:0 < m∧m < 18446744073709551616:=om
 have hmt:(hi - lo+1).toNat=m:=om
 have hdr:=Yk s m i hi0
 have hP1:∀j,ZN s m i=(none,j)→WK s lo hi i=.no 2:=fun j h=>by unfold WK K8;rw [hmt,h];rfl
 have hP2:∀v j,ZN s m i=(some v,j)→WK s lo hi i=.ok (lo+(v:Int)) j:=fun v j h=>by unfold WK K8;rw [hmt,h];rfl
 generalize WK s lo hi i=R at *
 have HP1:=hid hP1
 have HP2:=hid hP2
 have HM:=hid hm
 clear hl hb hP1 hP2 hmt hm
 rcases hD:ZN s m i with ⟨_|v,j⟩
 ·have HD:=hid hD
  clear hD hdr
  rw [HP1.out _ HD.out]
  go_enter func143,ntmps143
  go_wp2_with (first
   | (go_at_call 221;refine (WC c s i m _ _ HB.out hi0 hm0 (by have:=HM.out;omega) (by exact Zt3 (B:=w.heap.size) ZtX hcs HC.out)).mono ?_;rw [HD.out];rintro e w3 ⟨hb3,rfl,hc3⟩)
   | (go_at_call 220;refine (Zij _ _).mono ?_;rintro e w4 ⟨rfl,hb4⟩))
  have hz3:=hb3.size
  simp at hz3
  exact ⟨rfl,Zt1,rfl⟩
 have HD:=hid hD
 rw [hD] at hdr
 have hv:=hdr.2.2 v rfl
 have hv2:lo+(v:Int)≤hi:=by have:=HM.out;omega
 have hv3:v < 9223372036854775807:=om
 clear hD hdr
 rw [HP2.out _ _ HD.out]
 go_enter func143,ntmps143
 go_wp2_with (first
  | (go_at_call 221;refine (WC c s i m _ _ HB.out hi0 hm0 (by have:=HM.out;omega) (by exact Zt3 (B:=w.heap.size) ZtX hcs HC.out)).mono ?_;rw [HD.out];rintro e w3 ⟨hb3,rfl,hc3⟩;have HC3:=hid hc3;clear hc3)
  | (go_at_call 220;refine (ZgW _ _).mono ?_;rintro e w4 ⟨rfl,rfl⟩))
 go_ret
 exact ⟨Zt1,rfl,HC3.out⟩
set_option maxRecDepth 512
def UH (c:Nat) (s:ByteArray) (r:Res GV) (w:World):Ending→World→Prop:=fun e w'=>But c w.heap.size w w' ∧
 match r with
 | .ok v j=>(∃m,e=.returned (VV v m)∧RV w' (fun b=>w.heap.size≤b) v m.a)∧Cur w' c s j false
 | .no k=>e=ZgN k
def ZkO (c:Nat) (s:ByteArray) (r:Res (List GV)) (w:World):Ending→World→Prop:=fun e w'=>But c w.heap.size w w' ∧
 match r with
 | .ok l j=>(∃a cp,e=.returned (.slice a l.length cp)∧RVs w' (fun b=>w.heap.size≤b) l a)∧Cur w' c s j false
 | .no k=>e=ZgN k
def Vn (c:Nat) (s:ByteArray) (S f:Nat):Prop:=∀(t:GT) (e:Env) (i:Nat) (w:World) (m:TA) (a:Option Addr),Zp (!e.isEmpty) t→okT t→Zb t≤S→Ye S e→i≤s.size→(∃k n,wkT f t e k n≠none)→Cur w c s i false→RT w (fun b=>b≠c) t m→REnv w (fun b=>b≠c) e a →
 Calls prog 94 #[.agg #[.pointer (some ⟨c,0,none⟩)],TV t m,.pointer a] w (UH c s (Zd s f t e i) w)
def WB (s:ByteArray) (f:Nat) (e:Env) (D:List GV) (l:List GT) (i:Nat):Res (List GV):=(Xt (fun x=>Zd s f x e) l i).map (fun r=>D++r)
theorem K4 (s:ByteArray) (f:Nat) (e:Env) (D:List GV) (l:List GT) (j:Nat) (h:j < l.length) (i:Nat):WB s f e D (l.drop j) i=match Zd s f l[j] e i with
  | .no k=>.no k
  | .ok v q=>WB s f e (D++[v]) (l.drop (j+1)) q:=by
 unfold WB
 rw [List.drop_eq_getElem_cons h,Xt]
 cases Zd s f l[j] e i with
 | no k=>rfl
 | ok v q=>
  simp only [Res.bind]
  cases Xt (fun x=>Zd s f x e) (l.drop (j+1)) q with
  | no k=>rfl
  | ok r p=>simp [Res.map]
theorem VK {w:World} {base e n:Nat} {v:Value} {ps:List (GV×VA)} {A:Nat→Prop} (h:w.ownsRow base e 3 v n (Xd ps)) (hA:∀b,base≤b→A b) (hr:∀p∈ps,RV w A p.1 p.2.a):∃a c,v=.slice a (ps.map Prod.fst).length c∧RVs w A (ps.map Prod.fst) a:=by
 have hn:ps.length=n:=by have:=h.1;rw [UP] at this;omega
 rcases h.2 with ⟨rfl,h0⟩|⟨g,cap,cur,rfl,hb,h3⟩
 ·have hz:ps=[]:=List.eq_nil_of_length_eq_zero om
  subst hz
  exact ⟨none,0,rfl,by simp only [List.map_nil,RVs]⟩
 refine ⟨_,cap,by rw [List.length_map,hn],Qi (hA _ hb) h hr⟩
theorem UK (w:World) (a b c:Value) (t:TypeId):∀j u,[a,b,c][j]? =some u→(w.alloc (.cells #[a,b,c] t)).cell? ((⟨w.heap.size,0,none⟩:Addr).add j)=some u:=fun j u hu=>
 World.news_of_block (heap_alloc_new w _) j u (by simpa using hu)
set_option maxRecDepth 100000
set_option maxHeartbeats 2000000
theorem KF (c:Nat) (s:ByteArray) (S f:Nat) (hS:S≤1099511627776) (ih:Vn c s S f) (hb:Zc s=true) (l:List GT) (e:Env) (i:Nat) (w:World) (a al:Option Addr) (cp:Nat) (hl64:l.length≤64)
  (hl:∀x∈l,Zp (!e.isEmpty) x∧okT x∧Zb x≤S∧∃k n,wkT f x e k n≠none) (he:Ye S e) (hi:i≤s.size) (hc:Cur w c s i false) (hr:RTs w (fun b=>b≠c) l al) (hv:REnv w (fun b=>b≠c) e a):
  Calls prog 149 #[.agg #[.pointer (some ⟨c,0,none⟩)],.slice al l.length cp,.pointer a] w (ZkO c s (Xt (fun x=>Zd s f x e) l i) w):=by
 have IH:=hid ih
 have HL:=hid hr
 have HV:=hid hv
 have HE:=hid he
 have HG:=hid hl
 have HC:=hid hc
 have hcs:c < w.heap.size:=World.block_lt_of_cell? _ _ hc.1.1
 obtain ⟨i0,hi0,y0,y1,y2⟩:=info_parts US
 have hR0:WB s f e [] (l.drop 0) i=Xt (fun x=>Zd s f x e) l i:=by
  unfold WB
  rw [List.drop_zero]
  cases Xt (fun x=>Zd s f x e) l i<;>simp [Res.map]
 generalize Xt (fun x=>Zd s f x e) l i=R at *
 have HR0:=hid hR0
 have hin:=fun x hx q hq=>WJ s S f x e q (hl x hx).1 (hl x hx).2.1 (hl x hx).2.2.1 he hq
 have HIN:=hid hin
 clear ih hr hv he hl hc hR0 hin hb
 go_enter func149,ntmps149
 go_wp2_with fail
 go_loopg [7,12] (l.length) (fun gk t7 i' wr=>∃(j p:Nat) (ps:List (GV×VA)) (v:Value),v=t7∧gk+j=l.length∧i'=.int .i64 j∧p≤s.size∧But c w.heap.size w wr∧w.heap.size < wr.heap.size∧wr.cell? ⟨w.heap.size,0,none⟩=some (.pointer (some ⟨c,0,none⟩))∧Hid (ps.length=j)∧Hid (WB s f e (ps.map Prod.fst) (l.drop j) p=R)∧Hid (Cur wr c s p false) ∧
  Hid (wr.ownsRow (w.heap.size+1) 24 3 v j (Xd ps))∧Hid (∀q∈ps,RV wr (Own w.heap.size (fun _=>False) v) q.1 q.2.a))
 case atStart=>exact ⟨0,i,[],_,rfl,om,rfl,hi,Zt1,sm,gs,hid rfl,HR0,hid (Zt3 (B:=w.heap.size) ZtX hcs HC.out),hid (World.ownsRow_nil _ _ _ _),fun q hq=>by simp at hq⟩
 case round=>
  obtain ⟨j,p,ps,v,rfl,hj,rfl,hp,hbt,hz,hcell,HPL,HP,HCU,HO,HQ⟩:=hrel
  by_cases hlt:j < l.length
  ·obtain ⟨b,o,mj,rfl,hA,hbs,g0,gx⟩:=HL.out.get j hlt
   obtain ⟨z0,z1,z2,z3,z4,z5,z6,z7,z8,z9,za,zb,zc,zd,ze⟩:=Yp.1 (g0.ext (Zt0 hbt) hA)
   have hs1:b < wr.heap.size:=by have:=hbt.size;omega
   have hcr:c < wr.heap.size:=by have:=hbt.size;omega
   obtain ⟨x1,x2,x3,x4⟩:=HG.out l[j] (List.getElem_mem hlt)
   have HX:=hid (And.intro x1 (And.intro x2 (And.intro x3 x4)))
   have hst:=HP.out
   rw [K4 _ _ _ _ _ _ hlt] at hst
   have hinj:=HIN.out l[j] (List.getElem_mem hlt) p hp
   clear g0 x1 x2 x3 x4
   rcases hW:Zd s f l[j] e p with ⟨v',q⟩|⟨k⟩
   ·rw [hW] at hst hinj
    have hq:=hinj.2.1
    have HW:=hid hW
    have HST:=hid hst
    clear hW hst hinj
    go_wp2_with (first
     | (go_at_call 94;refine (IH.out l[j] e p _ mj a HX.out.1 HX.out.2.1 HX.out.2.2.1 HE.out hp HX.out.2.2.2 (by exact Zt3 (B:=wr.heap.size) ZtX hcr HCU.out) (by exact Zt2 (Zt0 Zt1) _ _ gx) (by exact Zua (Zt0 Zt1) _ _ HV.out)).mono ?_;rw [HW.out];rintro e1 w2 ⟨hb2,⟨m,rfl,hrv⟩,hc2⟩;have HRV:=hid hrv;have HC2:=hid hc2;clear hrv hc2;have hz2:=hb2.size;simp at hz2;have hbb:But c wr.heap.size wr w2:=Zt1;have HO2:=hid (Vf HO.out hbb (fun k hk=>(by have:=HO.out.lt _ hk;omega))))
     | (at_builtin;refine wpList_append_lies _ rfl _ _ 22 rfl (w.heap.size+1) 24 i0 _ 3 40 underlying22 hi0 y0 y1 y2 rfl (by decide) _ j _ (by rfl) (HO2.out.alloc _) ⟨w2.heap.size,0,none⟩ 1 1 [.int .u8 v'.k,.int .i64 v'.n,.slice m.a v'.l.length m.c] (by rfl) rfl (UK _ _ _ _ _) (by simp [Value.oneCell']) (by decide) (by unfold maxLen;omega) om (by simp;omega) (w2.heap.size+1) sm ?_;intro g cap w4 hown hgrow hat hlt1))
    have hownk:∀k,v.ownBlock=some k→w.heap.size≤k:=fun k e=>by have:=(HO.out.lt _ e).1;omega
    have hownl:∀k,v.ownBlock=some k→k < wr.heap.size:=fun k e=>(HO.out.lt _ e).2
    have hbw1:Below (w.heap.size+1) w2 w4:=Below.grown ((Below.refl _ _).alloc om _) hgrow (by simp;omega) (fun k e=>(HO2.out.lt _ e).1)
    have hag2:Agree (Own w.heap.size (fun _=>False) v) w2 (w2.alloc (.cells #[.int .u8 v'.k,.int .i64 v'.n,.slice m.a v'.l.length m.c] 24)):=ZtY ((Below.refl _ _).alloc (Nat.le_refl _) _)
    have hagb:Agree (Own w.heap.size (fun _=>False) v) wr w2:=fun q u hq hcq=>hbb.ag (World.block_lt_of_cell? _ _ hcq) (by rcases hq with ⟨h,_⟩|⟨h,_⟩;exact absurd h id;omega) hcq
    go_roundg (gk - 1)
    case measure=>omega
    case rel=>
     refine ⟨j+1,q,ps++[(v',m)],_,rfl,om,by go_num,hq,(hbt.trans (hbb.mono om)).trans (Zue (hbw1.mono om)),by have:=hbw1.size;omega,?_,hid (by have:=HPL.out;simp;omega),hid (by rw [List.map_append];exact HST.out),hid (Zt3 hbw1 om HC2.out),hid ?_,?_⟩
     ·exact (hbw1.cell (p:=⟨w.heap.size,0,none⟩) sm).trans ((hbb.cell (p:=⟨w.heap.size,0,none⟩) (by simp;omega) (by simp;omega)).trans hcell)
     ·rw [X3];exact hown
     intro q hq
     rcases List.mem_append.1 hq with hq|hq
     ·exact RV.own hgrow hownk hat sm (Zt5 hag2 _ _ (Zt5 hagb _ _ (HQ.out q hq)))
     simp at hq
     subst hq
     refine RV.own hgrow hownk hat sm (Zt5 hag2 _ _ (Zt9 (fun b h _=>?_) _ _ HRV.out))
     simp at h
     exact .inr ⟨om,fun e=>by have:=hownl b e;omega⟩
   rw [hW] at hst
   have HW:=hid hW
   have HST:=hid hst
   clear hW hst hinj
   go_wp2_with (go_at_call 94;refine (IH.out l[j] e p _ mj a HX.out.1 HX.out.2.1 HX.out.2.2.1 HE.out hp HX.out.2.2.2 (by exact Zt3 (B:=wr.heap.size) ZtX hcr HCU.out) (by exact Zt2 (Zt0 Zt1) _ _ gx) (by exact Zua (Zt0 Zt1) _ _ HV.out)).mono ?_;rw [HW.out];rintro e1 w2 ⟨hb2,rfl⟩)
   rw [←HST.out]
   exact ⟨rfl,Zt1,rfl⟩
  have hjl:j=l.length:=om
  have hst:=HP.out
  rw [hjl,List.drop_length] at hst
  have hst2:R=.ok (ps.map Prod.fst) p:=by rw [←hst];simp [WB,Xt,Res.map]
  have hE:=VK (A:=fun b=>w.heap.size≤b) HO.out (fun b h=>om) (fun q hq=>Zt9 (fun b hb _=>by rcases hb with ⟨h,_⟩|⟨h,_⟩;exact absurd h id;exact h) _ _ (HQ.out q hq))
  obtain ⟨av,cv,hav,hrd⟩:=hE
  have HRD:=hid hrd
  have HAV:=hid hav
  clear hst hrd hav
  subst hst2
  go_wp2_with fail
  go_ret
  exact ⟨hbt,⟨av,cv,by rw [←HAV.out];rfl,HRD.out⟩,HCU.out⟩
set_option maxRecDepth 512
theorem UZ {α:Type} (l:List α) (row:List Int) (j:Nat) (h:j < row.length) (k:Nat) (hk:row[j]=(k:Int)) (hl:k < l.length):YC l (row.take (j+1))=YC l (row.take j)++[l[k]]:=by
 unfold YC
 rw [List.take_succ_eq_append_getElem h,List.filterMap_append,hk]
 simp [List.getElem?_eq_getElem hl]
theorem ZlZ {p:Prop} (h:p:=by
 obtain ⟨av,cv,hav,hrd⟩:=hE
 rw [hst] at hav hrd
 have HRD:=hid hrd
 have HAV:=hid hav
 clear hst hrd hav
 go_wp2_with fail
 go_ret
 exact ⟨hb,av,cv,by rw [←HAV.out];rfl,HRD.out⟩):p:=h
set_option maxRecDepth 100000
theorem Zd8 (l:List GV) (row:List Int) (A A2:Nat→Prop) (w:World) (al ar:Option Addr) (cl cr:Nat) (hl:l.length≤1048576) (hrow:row.length≤64) (hm:∀x∈row,0≤x∧x < (l.length:Int)) (hr:RVs w A l al) (hi:RIs w A2 row ar):
  Calls prog 151 #[.slice al l.length cl,.slice ar row.length cr] w fun e w'=>Below w.heap.size w w'∧∃a cp,e=.returned (.slice a (YC l row).length cp)∧RVs w' (fun b=>A b∨w.heap.size≤b) (YC l row) a:=by
 have HL:=hid (Zug (A':=fun b=>A b∧b < w.heap.size) (fun b h hb=>⟨h,hb⟩) _ _ hr)
 have HI:=hid hi
 have HM:=hid hm
 obtain ⟨i0,hi0,y0,y1,y2⟩:=info_parts US
 clear hr hi hm
 go_enter func151,ntmps151
 go_wp2_with fail
 go_loopg [5,10] (row.length) (fun gk t5 i' wr=>∃(j:Nat) (ps:List (GV×VA)) (v:Value),v=t5∧gk+j=row.length∧i'=.int .i64 j∧Below w.heap.size w wr∧Hid (ps.length=j)∧Hid (ps.map Prod.fst=YC l (row.take j)) ∧
  Hid (wr.ownsRow w.heap.size 24 3 v j (Xd ps))∧Hid (∀q∈ps,RV wr (Own w.heap.size A v) q.1 q.2.a))
 case atStart=>exact ⟨0,[],_,rfl,om,rfl,ZtX,hid rfl,hid rfl,hid (World.ownsRow_nil _ _ _ _),fun q hq=>by simp at hq⟩
 case round=>
  obtain ⟨j,ps,v,rfl,hj,rfl,hb,HPL,HP,HO,HQ⟩:=hrel
  have hz:=hb.size
  by_cases hlt:j < row.length
  ·obtain ⟨b1,o1,rfl,hA1,hbs1,g1⟩:=HI.out.get j hlt
   obtain ⟨x0,x1⟩:=HM.out row[j] (List.getElem_mem hlt)
   obtain ⟨k,hk⟩:∃k:Nat,row[j]=(k:Int):=⟨row[j].toNat,om⟩
   have hkl:k < l.length:=om
   have hkI:(k:Int) < (l.length:Int):=om
   have hst:=UZ l row j hlt k hk hkl
   rw [hk] at g1
   have r0:wr.cell? ⟨b1,o1+j,none⟩=some (.int .i64 k):=(hb.cell hbs1).trans g1
   obtain ⟨b,o,mj,rfl,hA,hbs,g0,gx⟩:=HL.out.get k hkl
   obtain ⟨k0,k1,k2⟩:=At3.1 (g0.ext (ZtY hb) (A:=fun _=>True) trivial)
   have hs1:b < wr.heap.size:=om
   have hs2:b1 < wr.heap.size:=om
   have HST:=hid hst
   clear g0 g1 hk x0 x1 hst
   go_wp2_with (at_builtin;refine wpList_append_lies _ rfl _ _ 22 rfl w.heap.size 24 i0 _ 3 40 underlying22 hi0 y0 y1 y2 rfl (by decide) _ j _ (by rfl) (HO.out.alloc _) ⟨wr.heap.size,0,none⟩ 1 1 [.int .u8 l[k].k,.int .i64 l[k].n,.slice mj.a l[k].l.length mj.c] (by rfl) rfl (UK _ _ _ _ _) (by simp [Value.oneCell']) (by decide) (by unfold maxLen;omega) om (by simp;omega) (wr.heap.size+1) sm ?_;intro g cap w4 hown hgrow hat hlt1)
   have hownk:∀q,v.ownBlock=some q→w.heap.size≤q:=fun q e=>(HO.out.lt _ e).1
   have hbw1:Below w.heap.size wr w4:=Below.grown ((Below.refl _ _).alloc om _) hgrow (by simp;omega) hownk
   have hag2:Agree (Own w.heap.size A v) wr (wr.alloc (.cells #[.int .u8 l[k].k,.int .i64 l[k].n,.slice mj.a l[k].l.length mj.c] 24)):=ZtY ((Below.refl _ _).alloc (Nat.le_refl _) _)
   go_roundg (gk - 1)
   case measure=>omega
   case rel=>
    refine ⟨j+1,ps++[(l[k],mj)],_,rfl,om,by go_num,hb.trans hbw1,hid (by have:=HPL.out;simp;omega),hid (by rw [List.map_append,HP.out,HST.out];rfl),hid ?_,?_⟩
    ·rw [X3];exact hown
    intro q hq
    rcases List.mem_append.1 hq with hq|hq
    ·exact RV.own hgrow hownk hat sm (Zt5 hag2 _ _ (HQ.out q hq))
    simp at hq
    subst hq
    exact RV.own hgrow hownk hat sm (Zt5 hag2 _ _ (Zt9 (fun b h _=>.inl h) _ _ (Zt5 (ZtY hb) _ _ gx)))
  have hjl:j=row.length:=om
  have hst:=HP.out
  rw [hjl,List.take_length] at hst
  have hE:=VK (A:=fun b=>A b∨w.heap.size≤b) HO.out (fun b h=>.inr h) (fun q hq=>Zt9 (fun b hb _=>by rcases hb with ⟨h,_⟩|⟨h,_⟩;exact .inl h;exact .inr h) _ _ (HQ.out q hq))
  exact ZlZ
set_option maxRecDepth 512
def Vc:List (GT×TA)→List Value
 | []=>[]
 | (x,m)::r=>[.int .u8 x.k,.int .u8 x.v.k,.int .i64 x.v.n,.slice m.va x.v.l.length m.vc,.slice m.vsa x.vs.length m.vsc,.int .i64 x.lo,.int .i64 x.hi,.slice m.wa x.w.length m.wc,.int .u8 x.p.k,.int .u8 x.p.v.k,.int .i64 x.p.v.n,.slice m.pva x.p.v.l.length m.pvc,.int .i64 x.p.n,.slice m.pa x.p.a.length m.pc,.slice m.a x.a.length m.c]++Vc r
theorem Ja:∀ps:List (GT×TA),(Vc ps).length=ps.length*15
 | []=>rfl
 | (x,m)::r=>by simp only [Vc,List.length_append,List.length_cons,List.length_nil,Ja r];omega
theorem WF:∀ps qs:List (GT×TA),Vc (ps++qs)=Vc ps++Vc qs
 | [],qs=>rfl
 | (x,m)::r,qs=>by simp only [List.cons_append,Vc,WF r qs,List.nil_append]
theorem KW {w:World} {g:Nat} {A:Nat→Prop} (hA:A g):∀(ps:List (GT×TA)) (o:Nat),(∀j u,(Vc ps)[j]? =some u→w.cell? ⟨g,o+j,none⟩=some u)→(∀p∈ps,RT w A p.1 p.2)→RTs w A (ps.map Prod.fst) (some ⟨g,o,none⟩)
 | [],o,_,_=>by simp only [List.map_nil,RTs]
 | (x,m)::r,o,h,hr=>by
  simp only [List.map_cons,RTs]
  refine ⟨g,o,m,rfl,hA,?_,hr (x,m) sm,KW hA r (o+15) (fun j u hj=>?_) fun p hp=>hr p (by simp [hp])⟩
  ·rw [Yp]
   exact ⟨h 0 _ rfl,h 1 _ rfl,h 2 _ rfl,h 3 _ rfl,h 4 _ rfl,h 5 _ rfl,h 6 _ rfl,h 7 _ rfl,h 8 _ rfl,h 9 _ rfl,h 10 _ rfl,h 11 _ rfl,h 12 _ rfl,h 13 _ rfl,h 14 _ rfl⟩
  have:=h (j+15) u (by simpa [Vc] using hj)
  rw [show o+15+j=o+(j+15) by omega];exact this
theorem VJ {w:World} {base e n:Nat} {v:Value} {ps:List (GT×TA)} {A:Nat→Prop} (h:w.ownsRow base e 15 v n (Vc ps)) (hA:∀b,base≤b→A b) (hr:∀p∈ps,RT w A p.1 p.2):∃a c,v=.slice a (ps.map Prod.fst).length c∧RTs w A (ps.map Prod.fst) a:=by
 have hn:ps.length=n:=by have:=h.1;rw [Ja] at this;omega
 rcases h.2 with ⟨rfl,h0⟩|⟨g,cap,cur,rfl,hb,h3⟩
 ·have hz:ps=[]:=List.eq_nil_of_length_eq_zero om
  subst hz
  exact ⟨none,0,rfl,by simp only [List.map_nil,RTs]⟩
 refine ⟨_,cap,by rw [List.length_map,hn],KW (hA _ hb) ps 0 (fun j u hj=>?_) hr⟩
 have hl:=h.1
 have hj2:=(List.getElem?_eq_some_iff.1 hj).1
 rw [Nat.zero_add,h.cellAt j om];exact hj
theorem Uy:(prog.info? 31).map (fun i=>(i.zero,i.size,i.bytes))=some (some (.agg #[.int .u8 0,.int .u8 0,.int .i64 0,.slice none 0 0,.slice none 0 0,.int .i64 0,.int .i64 0,.slice none 0 0,.int .u8 0,.int .u8 0,.int .i64 0,.slice none 0 0,.int .i64 0,.slice none 0 0,.slice none 0 0]),15,216):=kr
set_option maxRecDepth 100000
theorem Y4 (l:List GT) (row:List Int) (A A2:Nat→Prop) (w:World) (al ar:Option Addr) (cl cr:Nat) (hl:l.length≤1048576) (hrow:row.length≤64) (hm:∀x∈row,0≤x∧x < (l.length:Int)) (hr:RTs w A l al) (hi:RIs w A2 row ar):
  Calls prog 154 #[.slice al l.length cl,.slice ar row.length cr] w fun e w'=>Below w.heap.size w w'∧∃a cp,e=.returned (.slice a (YC l row).length cp)∧RTs w' (fun b=>A b∨w.heap.size≤b) (YC l row) a:=by
 have HL:=hid (RTs.mono (A':=fun b=>A b∧b < w.heap.size) (fun b h hb=>⟨h,hb⟩) _ _ hr)
 have HI:=hid hi
 have HM:=hid hm
 obtain ⟨i0,hi0,y0,y1,y2⟩:=info_parts Uy
 clear hr hi hm
 go_enter func154,ntmps154
 go_wp2_with fail
 go_loopg [5,10] (row.length) (fun gk t5 i' wr=>∃(j:Nat) (ps:List (GT×TA)) (v:Value),v=t5∧gk+j=row.length∧i'=.int .i64 j∧Below w.heap.size w wr∧Hid (ps.length=j)∧Hid (ps.map Prod.fst=YC l (row.take j)) ∧
  Hid (wr.ownsRow w.heap.size 31 15 v j (Vc ps))∧Hid (∀q∈ps,RT wr (Own w.heap.size A v) q.1 q.2))
 case atStart=>exact ⟨0,[],_,rfl,om,rfl,ZtX,hid rfl,hid rfl,hid (World.ownsRow_nil _ _ _ _),fun q hq=>by simp at hq⟩
 case round=>
  obtain ⟨j,ps,v,rfl,hj,rfl,hb,HPL,HP,HO,HQ⟩:=hrel
  have hz:=hb.size
  by_cases hlt:j < row.length
  ·obtain ⟨b1,o1,rfl,hA1,hbs1,g1⟩:=HI.out.get j hlt
   obtain ⟨x0,x1⟩:=HM.out row[j] (List.getElem_mem hlt)
   obtain ⟨k,hk⟩:∃k:Nat,row[j]=(k:Int):=⟨row[j].toNat,om⟩
   have hkl:k < l.length:=om
   have hkI:(k:Int) < (l.length:Int):=om
   have hst:=UZ l row j hlt k hk hkl
   rw [hk] at g1
   have r0:wr.cell? ⟨b1,o1+j,none⟩=some (.int .i64 k):=(hb.cell hbs1).trans g1
   obtain ⟨b,o,mj,rfl,hA,hbs,g0,gx⟩:=HL.out.get k hkl
   obtain ⟨z0,z1,z2,z3,z4,z5,z6,z7,z8,z9,za,zb,zc,zd,ze⟩:=Yp.1 (g0.ext (ZtY hb) (A:=fun _=>True) trivial)
   have hs1:b < wr.heap.size:=om
   have hs2:b1 < wr.heap.size:=om
   have HST:=hid hst
   clear g0 g1 hk x0 x1 hst
   go_wp2_with (at_builtin;refine wpList_append_lies _ rfl _ _ 29 rfl w.heap.size 31 i0 _ 15 216 underlying29 hi0 y0 y1 y2 rfl (by decide) _ j _ (by rfl) (HO.out.alloc _) ⟨wr.heap.size,0,none⟩ 1 1 [.int .u8 l[k].k,.int .u8 l[k].v.k,.int .i64 l[k].v.n,.slice mj.va l[k].v.l.length mj.vc,.slice mj.vsa l[k].vs.length mj.vsc,.int .i64 l[k].lo,.int .i64 l[k].hi,.slice mj.wa l[k].w.length mj.wc,.int .u8 l[k].p.k,.int .u8 l[k].p.v.k,.int .i64 l[k].p.v.n,.slice mj.pva l[k].p.v.l.length mj.pvc,.int .i64 l[k].p.n,.slice mj.pa l[k].p.a.length mj.pc,.slice mj.a l[k].a.length mj.c] (by rfl) rfl (fun j u hu=>World.news_of_block (heap_alloc_new wr _) j u (by simpa using hu)) (by simp [Value.oneCell']) (by decide) (by unfold maxLen;omega) om (by simp;omega) (wr.heap.size+1) sm ?_;intro g cap w4 hown hgrow hat hlt1)
   have hownk:∀q,v.ownBlock=some q→w.heap.size≤q:=fun q e=>(HO.out.lt _ e).1
   have hbw1:Below w.heap.size wr w4:=Below.grown ((Below.refl _ _).alloc om _) hgrow (by simp;omega) hownk
   have hag2:Agree (Own w.heap.size A v) wr (wr.alloc (.cells #[.int .u8 l[k].k,.int .u8 l[k].v.k,.int .i64 l[k].v.n,.slice mj.va l[k].v.l.length mj.vc,.slice mj.vsa l[k].vs.length mj.vsc,.int .i64 l[k].lo,.int .i64 l[k].hi,.slice mj.wa l[k].w.length mj.wc,.int .u8 l[k].p.k,.int .u8 l[k].p.v.k,.int .i64 l[k].p.v.n,.slice mj.pva l[k].p.v.l.length mj.pvc,.int .i64 l[k].p.n,.slice mj.pa l[k].p.a.length mj.pc,.slice mj.a l[k].a.length mj.c] 31)):=ZtY ((Below.refl _ _).alloc (Nat.le_refl _) _)
   go_roundg (gk - 1)
   case measure=>omega
   case rel=>
    refine ⟨j+1,ps++[(l[k],mj)],_,rfl,om,by go_num,hb.trans hbw1,hid (by have:=HPL.out;simp;omega),hid (by rw [List.map_append,HP.out,HST.out];rfl),hid ?_,?_⟩
    ·rw [WF];exact hown
    intro q hq
    rcases List.mem_append.1 hq with hq|hq
    ·exact RT.own hgrow hownk hat sm (Zt2 hag2 _ _ (HQ.out q hq))
    simp at hq
    subst hq
    exact RT.own hgrow hownk hat sm (Zt2 hag2 _ _ (Zud (fun b h _=>.inl h) _ _ (Zt2 (ZtY hb) _ _ gx)))
  have hjl:j=row.length:=om
  have hst:=HP.out
  rw [hjl,List.take_length] at hst
  have hE:=VJ (A:=fun b=>A b∨w.heap.size≤b) HO.out (fun b h=>.inr h) (fun q hq=>Zud (fun b hb _=>by rcases hb with ⟨h,_⟩|⟨h,_⟩;exact .inl h;exact .inr h) _ _ (HQ.out q hq))
  exact ZlZ
set_option maxRecDepth 512
theorem Va (b gc go n i:Nat) (S:Int) (w:World) (hl:TabAt w b gc go n S) (hS:1≤S∧S≤67108864) (hi:i < n) (hn:n≤64):
  Calls prog 226 #[.pointer (some ⟨b,0,none⟩),.int .i64 i] w fun e w'=>e=.returned (.int .i64 0)∧Below w.heap.size w w':=by
 obtain ⟨t0,t1,t2,t3⟩:=hl
 obtain ⟨s1,s2⟩:=hS
 have hbs:b < w.heap.size:=World.block_lt_of_cell? _ _ t0
 have hS0:(S==0)=false:=beq_eq_false_iff_ne.2 om
 have hlt:¬(n:Int)≤(i:Int):=om
 have hi0:¬(i:Int) < 0:=om
 go_enter func226,ntmps226
 go_wp2_with fail
 go_ret
 exact ⟨rfl,ZtX⟩
theorem ZlY {p:Prop} (h:p:=by
 go_enter func227,ntmps227
 go_wp2_with (go_at_call 226;refine (Va b gc go l.length i (Zj l) _ HT.out ⟨f2,f3⟩ hi f64).mono ?_;rintro e w1 ⟨rfl,hb⟩;have hB1:=hb;clear hb;obtain ⟨hc1,hf1⟩:=Za hB1)
 go_ret2
 exact ⟨rfl,ZtX⟩):p:=h
theorem Zb0 (l:List Int) (b gc go i r cc co:Nat) (A:Nat→Prop) (w:World) (he:Yc l=0) (hl:TabAt w b gc go l.length (Zj l)) (hi:i < l.length) (hr:(r:Int) < Zj l)
  (h1:RIs w A (Zy l).c (some ⟨gc,0,none⟩)) (h2:RIs w A (Zy l).o (some ⟨go,0,none⟩)):
  Calls prog 227 #[.pointer (some ⟨b,0,none⟩),.int .i64 i,.int .i64 r] w fun e w'=>e=.returned (.tuple #[.int .i64 (Xc l i r),.int .i64 0])∧Below w.heap.size w w':=by
 obtain ⟨f1,f64,fw,f2,f3⟩:=Y0 he
 have ok:=JK l
 have HT:=hid hl
 obtain ⟨t0,t1,t2,t3⟩:=hl
 have hbs:b < w.heap.size:=World.block_lt_of_cell? _ _ t0
 obtain ⟨g,o,e,hA,hgs,g0⟩:=h1.get i (by rw [ok.c];exact hi)
 cases e
 obtain ⟨g',o',e,hA',hgs',g0'⟩:=h2.get i (by rw [ok.o];exact hi)
 cases e
 have hm:=ok.m ((Zy l).o[i]'(by rw [ok.o];exact hi)) (List.getElem_mem _)
 have hc1:(Zy l).c.getD i 0=(Zy l).c[i]'(by rw [ok.c];exact hi):=by simp [List.getD_eq_getElem?_getD,List.getElem?_eq_getElem (show i < (Zy l).c.length by rw [ok.c];exact hi)]
 have ho1:(Zy l).o.getD i 0=(Zy l).o[i]'(by rw [ok.o];exact hi):=by simp [List.getD_eq_getElem?_getD,List.getElem?_eq_getElem (show i < (Zy l).o.length by rw [ok.o];exact hi)]
 rw [←hc1] at g0
 rw [←ho1] at hm g0'
 have hP:(Xc l i r:Int)=if (r:Int) < (Zy l).c.getD i 0 then (i:Int) else (Zy l).o.getD i 0:=by
  unfold Xc
  split
  ·rfl
  omega
 rw [hP]
 rw [Nat.zero_add] at g0 g0'
 generalize (Zy l).c.getD i 0=cv at *
 generalize (Zy l).o.getD i 0=ov at *
 clear hc1 ho1 hP h1 h2 ok hm
 have hge:¬Zj l≤(r:Int):=om
 by_cases hcv:(r:Int) < cv
 ·rw [if_pos hcv]
  exact ZlY
 rw [if_neg hcv]
 exact ZlY
theorem TabAt.but {w w':World} {c B b gc go n:Nat} {S:Int} (h:TabAt w b gc go n S) (hb:But c B w w') (hB:b < B) (hc:b≠c):TabAt w' b gc go n S:=
 ⟨(hb.cell (p:=⟨b,0,none⟩) hB hc).trans h.s,(hb.cell (p:=⟨b,1,none⟩) hB hc).trans h.c,(hb.cell (p:=⟨b,2,none⟩) hB hc).trans h.o,fun j=>(hb.frozen (p:=⟨b,j,none⟩) hB hc).trans (h.f j)⟩
theorem TabAt.below {w w':World} {B b gc go n:Nat} {S:Int} (h:TabAt w b gc go n S) (hb:Below B w w') (hB:b < B):TabAt w' b gc go n S:=
 ⟨(hb.cell (p:=⟨b,0,none⟩) hB).trans h.s,(hb.cell (p:=⟨b,1,none⟩) hB).trans h.c,(hb.cell (p:=⟨b,2,none⟩) hB).trans h.o,fun j=>(hb.frozen (p:=⟨b,j,none⟩) hB).trans (h.f j)⟩
set_option maxRecDepth 100000
theorem Wf (l:List Int) (s:ByteArray) (i b c gc go:Nat) (w:World) (hb:Zc s=true) (hi:i≤s.size) (he:Yc l=0) (hcb:b≠c) (hl:TabAt w b gc go l.length (Zj l))
  (h1:RIs w (fun k=>k≠c) (Zy l).c (some ⟨gc,0,none⟩)) (h2:RIs w (fun k=>k≠c) (Zy l).o (some ⟨go,0,none⟩)) (hc:Cur w c s i false):
  Calls prog 148 #[.pointer (some ⟨b,0,none⟩),.pointer (some ⟨c,0,none⟩)] w (Zdi c s (Ys s l i) w):=by
 obtain ⟨f1,f64,fw,f2,f3⟩:=Y0 he
 have HT:=hid hl
 obtain ⟨t0,t1,t2,t3⟩:=hl
 have hbs:b < w.heap.size:=World.block_lt_of_cell? _ _ t0
 have hcs:c < w.heap.size:=World.block_lt_of_cell? _ _ hc.1.1
 have HC:=hid hc
 have HE:=hid he
 have HB:=hid hb
 have H1:=hid h1
 have H2:=hid h2
 have hd1:=Yk s l.length i hi
 have hn0:0 < l.length∧l.length < 18446744073709551616:=om
 have hsu:((Zj l).toNat:Int)=Zj l:=om
 have hS0:0 < (Zj l).toNat∧(Zj l).toNat < 18446744073709551616:=om
 have hP1:∀j,ZN s l.length i=(none,j)→Ys s l i=(none,j):=fun j h=>by unfold Ys;rw [h]
 have hP2:∀v j q,ZN s l.length i=(some v,j)→ZN s (Zj l).toNat j=(none,q)→Ys s l i=(none,q):=fun v j q h h'=>by unfold Ys;simp only [h,h']
 have hP3:∀v j r q,ZN s l.length i=(some v,j)→ZN s (Zj l).toNat j=(some r,q)→Ys s l i=(some (Xc l v r),q):=fun v j r q h h'=>by unfold Ys;simp only [h,h']
 generalize hP:Ys s l i=P at *
 have HP1:=hid hP1
 have HP2:=hid hP2
 have HP3:=hid hP3
 clear hc he hb fw h1 h2 hP hP1 hP2 hP3
 rcases hD:ZN s l.length i with ⟨_|v,j⟩
 ·have HD:=hid hD
  clear hD hd1
  rw [HP1.out _ HD.out]
  go_enter func148,ntmps148
  go_wp2_with (first
   | (go_at_call 226;refine (Va b gc go l.length 0 (Zj l) _ HT.out ⟨f2,f3⟩ om f64).mono ?_;rintro e w1 ⟨rfl,hb⟩;have hB1:Below w.heap.size w w1:=ZtX;clear hb;obtain ⟨hc1,hf1⟩:=Za hB1;have hz1:=hB1.size)
   | (go_at_call 221;refine (WC c s i l.length _ _ HB.out hi hn0 om (by exact Zt3 hB1 hcs HC.out)).mono ?_;rw [HD.out];rintro e w3 ⟨hb3,rfl,hc3⟩;have HC3:=hid hc3;clear hc3))
  go_ret2
  exact ⟨Zt1,rfl,HC3.out⟩
 have HD:=hid hD
 rw [hD] at hd1
 have hv:=hd1.2.2 v rfl
 have hj:=hd1.2.1
 simp only [] at hj hv
 clear hD hd1
 have hd2:=Yk s (Zj l).toNat j hj
 rcases hD2:ZN s (Zj l).toNat j with ⟨_|r,q⟩
 ·have HD2:=hid hD2
  clear hD2 hd2
  rw [HP2.out _ _ _ HD.out HD2.out]
  go_enter func148,ntmps148
  go_wp2_with (first
   | (go_at_call 226;refine (Va b gc go l.length 0 (Zj l) _ HT.out ⟨f2,f3⟩ om f64).mono ?_;rintro e w1 ⟨rfl,hb⟩;have hB1:Below w.heap.size w w1:=ZtX;clear hb;obtain ⟨hc1,hf1⟩:=Za hB1;have hz1:=hB1.size)
   | (go_at_call 221;refine (WC c s i l.length _ _ HB.out hi hn0 om (by exact Zt3 hB1 hcs HC.out)).mono ?_;rw [HD.out];rintro e w3 ⟨hb3,rfl,hc3⟩;have HC3:=hid hc3;clear hc3;have hbb:But c w.heap.size w w3:=Zt1;have t03:=(hbb.cell (p:=⟨b,0,none⟩) hbs hcb).trans t0)
   | (go_at_call 221;refine (WC c s j (Zj l).toNat _ _ HB.out hj hS0 om (by exact HC3.out)).mono ?_;rw [HD2.out];rintro e w4 ⟨hb4,rfl,hc4⟩;have HC4:=hid hc4;clear hc4))
  go_ret2
  have hz3:=hbb.size
  exact ⟨Zt1,rfl,HC4.out⟩
 have HD2:=hid hD2
 rw [hD2] at hd2
 have hr:=hd2.2.2 r rfl
 clear hD2 hd2
 rw [HP3.out _ _ _ _ HD.out HD2.out]
 have hrI:(r:Int) < Zj l:=om
 have hr3:r < 67108865:=om
 have hv3:v < 65:=om
 go_enter func148,ntmps148
 go_wp2_with (first
  | (go_at_call 226;refine (Va b gc go l.length 0 (Zj l) _ HT.out ⟨f2,f3⟩ om f64).mono ?_;rintro e w1 ⟨rfl,hb⟩;have hB1:Below w.heap.size w w1:=ZtX;clear hb;obtain ⟨hc1,hf1⟩:=Za hB1;have hz1:=hB1.size)
  | (go_at_call 221;refine (WC c s i l.length _ _ HB.out hi hn0 om (by exact Zt3 hB1 hcs HC.out)).mono ?_;rw [HD.out];rintro e w3 ⟨hb3,rfl,hc3⟩;have HC3:=hid hc3;clear hc3;have hbb:But c w.heap.size w w3:=Zt1;have t03:=(hbb.cell (p:=⟨b,0,none⟩) hbs hcb).trans t0;have hz3:=hbb.size)
  | (go_at_call 221;refine (WC c s j (Zj l).toNat _ _ HB.out hj hS0 om (by exact HC3.out)).mono ?_;rw [HD2.out];rintro e w4 ⟨hb4,rfl,hc4⟩;have HC4:=hid hc4;clear hc4;have hb44:But c w.heap.size w w4:=hbb.trans (hb4.mono hz3);have hz4:=hb4.size)
  | (go_at_call 227;refine (Zb0 l b gc go v r 0 0 (fun k=>k≠c) _ HE.out (HT.out.but hb44 hbs hcb) hv hrI (by exact Zuc (Zt0 hb44) _ _ H1.out) (by exact Zuc (Zt0 hb44) _ _ H2.out)).mono ?_;rintro e w5 ⟨rfl,hb5⟩))
 go_ret2
 exact ⟨Zt1,rfl,Zt3 hb5 om HC4.out⟩
end Go.Proofs.YtkdffbdnjfgpeaaGreat
