/- Part 19. -/
import Derived.Deep.RegionHeld3
import Derived.Deep.RegionWith
import Derived.IntWalk
import Derived.RegionDies
import Derived.Test.YtkdffbdnjfgpeaaGreatY9
import Derived.Test.YtkdffbdnjfgpeaaGreatYTk
set_option linter.all false
namespace Go.Proofs.YtkdffbdnjfgpeaaGreat
open Go.Lib (hid)
open Go Go.RowKit Go.Proofs.Tryz
def wkLe (D:Nat) (n:Int) (r:Option (Int×Int)):Prop:=∀d n',r=some (d,n')→0≤d∧d≤D∧n≤n'∧n'≤4096
theorem ZC {n k n':Int} (h:Zu n k=some n'):n'=n+k∧n'≤4096:=by
 unfold Zu at h;split at h
 ·cases h
 cases h;omega
theorem REnv.push {W:World} {A:Nat→Prop} {t:GT} {m:Int} {e:Env} {a:Option Addr} {x:TA} {b:Nat} (hA:A b) (hat:At W b 0 [.int .u8 t.k,.int .u8 t.v.k,.int .i64 t.v.n,.slice (TA.va x) t.v.l.length (TA.vc x),.slice (TA.vsa x) t.vs.length (TA.vsc x),.int .i64 t.lo,.int .i64 t.hi,
    .slice (TA.wa x) t.w.length (TA.wc x),.int .u8 t.p.k,.int .u8 t.p.v.k,.int .i64 t.p.v.n,.slice (TA.pva x) t.p.v.l.length (TA.pvc x),.int .i64 t.p.n,.slice (TA.pa x) t.p.a.length (TA.pc x),.slice (TA.a x) t.a.length (TA.c x),.int .i64 m,.pointer a])
  (hr:RT W A t x) (hv:REnv W A e a):REnv W A ((t,m)::e) (some ⟨b,0,none⟩):=⟨b,x,a,rfl,hA,hat,hr,hv⟩
def Qj (c S f:Nat):Prop:=∀(t:GT) (e:Env) (k n:Int) (w:World) (m:TA) (a:Option Addr),Zp (!e.isEmpty) t→okT t→Zb t≤S→Ye S e→(1≤k∧k≤65536)→(0≤n∧n≤4096)→4098≤f+n →
 c < w.heap.size→Ctr w c n→RT w (fun b=>b≠c) t m→REnv w (fun b=>b≠c) e a→wkLe (S+f) n (wkT f t e k n) ∧
 Calls prog 139 #[.pointer (some ⟨c,0,none⟩),TV t m,.pointer a,.int .i64 k] w (WkR c w (wkT f t e k n))
set_option maxRecDepth 100000
set_option maxHeartbeats 2000000
theorem Zjz (c S f:Nat) (hS:S≤1099511627776) (ih:Qj c S f) (t:GT) (m:Int) (e:Env) (k n:Int) (w:World) (x:TA) (a:Option Addr) (hg:Zp (!e.isEmpty) t) (h10:t.k=10) (ox:okT t) (hs:Zb t≤S) (he:Ye S e)
  (hm:0≤m∧m≤8) (hk:1≤k∧k≤65536) (hn:0≤n∧n≤4096) (hf:4098≤f+1+n) (hc:c < w.heap.size) (hl:Ctr w c n) (hr:RT w (fun b=>b≠c) t x) (hv:REnv w (fun b=>b≠c) e a) (n':Int) (hn':n'=n+k) (hn2:n'≤4096) (hsp:Zu n k=some n') (hm0:m=0):
  Calls prog 217 #[.pointer (some ⟨c,0,none⟩),TV t x,.int .i64 m,.pointer a,.int .i64 k] w (WkR c w (match t.a[0]? with|some x=>wkT f x e k n'|none=>none)):=by
 obtain ⟨ma,mb,mc,md,me,mf,mg,mh,mi,mj,mk,ml⟩:=x
 have IH:=hid ih
 have HL:=hid (Zo.1 hr).2.2.2.2
 have HR:=hid hr
 have HV:=hid hv
 have HE:=hid he
 have HG:=hid hg
 have OX:=hid ox
 obtain ⟨⟨x1,x2⟩,ov,⟨ovl,ovs⟩,⟨l1,l2⟩,⟨l3,l4⟩,⟨owl,ow⟩,op,oal,oa⟩:=Ze.1 ox
 have O:=hid oa
 obtain ⟨hnd,_,hgs⟩:=Zk.1 hg
 have HGS:=hid hgs
 obtain ⟨ha,_,_⟩:=Yl hnd h10
 obtain ⟨m0,m1⟩:=hm
 obtain ⟨k0,k1⟩:=hk
 obtain ⟨n0,n1⟩:=hn
 obtain ⟨c1,c2⟩:=hl
 have hse:=Zq t
 have hcn:¬w.heap.size=c:=om
 have CT:=hid (show Ctr w c n from ⟨c1,c2⟩)
 clear ih hr hv he hg ox oa ov ovs ow op hnd hgs
 have HSP:=hid hsp
 clear hsp
 subst hm0
 obtain ⟨b,o,mj',hja,hA,hbs,g0,gx⟩:=HL.out.get 0 om
 have h0:t.a[0]? =some t.a[0]:=List.getElem?_eq_getElem om
 simp only [h0]
 have hq1:=ZD t.a 0 om
 have hgx:Zp (!e.isEmpty) t.a[0]:=by have h:=HGS.out.get 0 om;simpa [ZU] using h
 have HGX:=hid hgx
 subst hja
 obtain ⟨j0,j1,j2,j3,j4,j5,j6,j7,j8,j9,ja,jb,jc,jd,je⟩:=Yp.1 (show At w b o _ by simpa using g0)
 have hbc:¬b=c:=hA
 clear hgx g0 h0
 rcases hW:wkT f t.a[0] e k n' with _|⟨d,n2⟩
 ·have HW:=hid hW
  clear hW
  go_enter func217,ntmps217
  go_wp2_with (first
   | (go_at_call 215;refine (ZW c n k _ (by simp;omega) om om (by exact ⟨gs,gs⟩)).mono ?_;rw [HSP.out];rintro e1 w1 ⟨hb1,rfl,hx1,hx2⟩;obtain ⟨hc1,hf1⟩:=ZE hb1;have hz1:=hb1.size;simp at hz1;have hcn1:¬c=w1.heap.size:=om;have hcn2:¬w1.heap.size=c:=om;have hcn3:c < w1.heap.size:=om;have hbs1:b < w1.heap.size:=om;have hws1:w.heap.size < w1.heap.size:=om)
   | (go_at_call 139;refine (IH.out t.a[0] e k n' _ mj' a HGX.out (O.out.get 0 om) om HE.out om om om (by simp at *;omega) (by exact ⟨gs,gs⟩) (by exact Zt2 (Zt0 Zt1) _ _ gx) (by exact Zua (Zt0 Zt1) _ _ HV.out)).2.mono ?_;rw [HW.out];rintro e1 w2 ⟨hb2,rfl⟩))
  exact ⟨rfl,Zt1,rfl⟩
 have HW:=hid hW
 clear hW
 go_enter func217,ntmps217
 go_wp2_with (first
  | (go_at_call 215;refine (ZW c n k _ (by simp;omega) om om (by exact ⟨gs,gs⟩)).mono ?_;rw [HSP.out];rintro e1 w1 ⟨hb1,rfl,hx1,hx2⟩;obtain ⟨hc1,hf1⟩:=ZE hb1;have hz1:=hb1.size;simp at hz1;have hcn1:¬c=w1.heap.size:=om;have hcn2:¬w1.heap.size=c:=om;have hcn3:c < w1.heap.size:=om;have hbs1:b < w1.heap.size:=om;have hws1:w.heap.size < w1.heap.size:=om)
  | (go_at_call 139;refine (IH.out t.a[0] e k n' _ mj' a HGX.out (O.out.get 0 om) om HE.out om om om (by simp at *;omega) (by exact ⟨gs,gs⟩) (by exact Zt2 (Zt0 Zt1) _ _ gx) (by exact Zua (Zt0 Zt1) _ _ HV.out)).2.mono ?_;rw [HW.out];rintro e1 w2 ⟨hb2,rfl,hx3,hx4⟩))
 go_ret
 exact ⟨Zt1,rfl,gs,gs⟩
set_option maxRecDepth 512
theorem ZlJ {p:Prop} (h:p:=by
 go_simp
 refine hK _ _ ?_
 clear hK K
 refine wr1 12 fun K hK=>?_
 go_simp
 go_wp2_with (go_at_call 139;refine (IH.out t.a[1] ((t,m - 1)::e) k n' _ mj' _ HGX.out (O.out.get 1 om) om HE2.out om om om (by simp at *;omega) (by exact ⟨gs,gs⟩) (by exact Zt2 (Zt0 Zt1) _ _ gx) (by exact REnv.push (x:=⟨ma,mb,mc,md,me,mf,mg,mh,mi,mj,some ⟨b,o,none⟩,ml⟩) (a:=a) om (Ko.2 (by refine ⟨?_,?_,?_,?_,?_,?_,?_,?_,?_,?_,?_,?_,?_,?_,?_,?_,?_⟩<;>go_simp)) (by exact Zt2 (Zt0 Zt1) _ _ HR.out) (by exact Zua (Zt0 Zt1) _ _ HV.out))).2.mono ?_;rw [HW.out];rintro e1 w2 ⟨hb2,rfl⟩)
 exact ⟨rfl,Zt1,rfl⟩):p:=h
theorem ZvX {p:Prop} (h:p:=by
 refine wr [4,10] ?_
 refine rc (fun K hK=>?_) ?_
 ·go_simp
  refine hK _ _ ?_
  clear hK K
  refine wr1 10 fun K hK=>?_
  exact ZlJ
 refine rc (fun K hK=>?_) ?_
 ·go_simp
  refine hK _ _ ?_
  clear hK K
  refine wr1 4 fun K hK=>?_
  exact ZlJ
 exact AllReady.nil):p:=h
set_option maxRecDepth 100000
theorem ZjA (c S f:Nat) (hS:S≤1099511627776) (ih:Qj c S f) (t:GT) (m:Int) (e:Env) (k n:Int) (w:World) (x:TA) (a:Option Addr) (hg:Zp (!e.isEmpty) t) (h10:t.k=10) (ox:okT t) (hs:Zb t≤S) (he:Ye S e)
  (hm:0≤m∧m≤8) (hk:1≤k∧k≤65536) (hn:0≤n∧n≤4096) (hf:4098≤f+1+n) (hc:c < w.heap.size) (hl:Ctr w c n) (hr:RT w (fun b=>b≠c) t x) (hv:REnv w (fun b=>b≠c) e a) (n':Int) (hn':n'=n+k) (hn2:n'≤4096) (hsp:Zu n k=some n') (hm0:¬m=0) (y:GT) (hx:t.a[1]? =some y) (hW:wkT f y ((t,m - 1)::e) k n'=none):
  Calls prog 217 #[.pointer (some ⟨c,0,none⟩),TV t x,.int .i64 m,.pointer a,.int .i64 k] w (WkR c w none):=by
 obtain ⟨ma,mb,mc,md,me,mf,mg,mh,mi,mj,mk,ml⟩:=x
 have IH:=hid ih
 have HL:=hid (Zo.1 hr).2.2.2.2
 have HR:=hid hr
 have HV:=hid hv
 have HE:=hid he
 have HG:=hid hg
 have OX:=hid ox
 obtain ⟨⟨x1,x2⟩,ov,⟨ovl,ovs⟩,⟨l1,l2⟩,⟨l3,l4⟩,⟨owl,ow⟩,op,oal,oa⟩:=Ze.1 ox
 have O:=hid oa
 obtain ⟨hnd,_,hgs⟩:=Zk.1 hg
 have HGS:=hid hgs
 obtain ⟨ha,_,_⟩:=Yl hnd h10
 obtain ⟨m0,m1⟩:=hm
 obtain ⟨k0,k1⟩:=hk
 obtain ⟨n0,n1⟩:=hn
 obtain ⟨c1,c2⟩:=hl
 have hse:=Zq t
 have hcn:¬w.heap.size=c:=om
 have CT:=hid (show Ctr w c n from ⟨c1,c2⟩)
 clear ih hr hv he hg ox oa ov ovs ow op hnd hgs
 have HSP:=hid hsp
 clear hsp
 obtain ⟨b,o,mj',hja,hA,hbs,g0,gx⟩:=HL.out.get 1 om
 have h0:t.a[1]? =some t.a[1]:=List.getElem?_eq_getElem om
 have hq1:=ZD t.a 1 om
 have hxe:y=t.a[1]:=Option.some.inj (hx.symm.trans h0)
 subst hxe
 clear hx
 have hgx:Zp true t.a[1]:=by have h:=HGS.out.get 1 om;simpa [ZU,h10] using h
 have HGX:=hid hgx
 have hm0':(m==0)=false:=by simp [hm0]
 have HM:=hid hm0
 subst hja
 obtain ⟨j0,j1,j2,j3,j4,j5,j6,j7,j8,j9,ja,jb,jc,jd,je⟩:=Yp.1 (show At w b (o+15) _ by simpa using g0)
 have hbc:¬b=c:=hA
 have HE2:=hid (show Ye S ((t,m - 1)::e) from ⟨HG.out,h10,OX.out,hs,om,om,HE.out⟩)
 clear hgx g0 h0 hm0
 have hwm:IntKind.i64.wrap (m - 1)=m - 1:=IntWalk.i64_in _ om
 have HW:=hid hW
 clear hW
 go_enter func217,ntmps217
 go_wp2_with (go_at_call 215;refine (ZW c n k _ (by simp;omega) om om (by exact ⟨gs,gs⟩)).mono ?_;rw [HSP.out];rintro e1 w1 ⟨hb1,rfl,hx1,hx2⟩;obtain ⟨hc1,hf1⟩:=ZE hb1;have hz1:=hb1.size;simp at hz1;have hcn1:¬c=w1.heap.size:=om;have hcn2:¬w1.heap.size=c:=om;have hcn3:c < w1.heap.size:=om;have hbs1:b < w1.heap.size:=om;have hws1:w.heap.size < w1.heap.size:=om)
 refine wp_region_any kr ?_
 try (change wpAny _ _ _ _ _ _ _ (World.drew _))
 refine ty 0 ?_
 refine ty 1 ?_
 refine ty 6 ?_
 refine ty 7 ?_
 refine ty 8 ?_
 refine ty 11 ?_
 refine wr [2,5] ?_
 refine rc (fun K hK=>?_) ?_
 ·go_simp
  refine hK _ _ ?_
  clear hK K
  refine ty 3 ?_
  refine wr [4,5] ?_
  refine rc (fun K hK=>?_) ?_
  ·go_simp
   refine hK _ _ ?_
   clear hK K
   refine wr1 5 fun K hK=>?_
   go_simp
   refine hK _ _ ?_
   clear hK K
   refine ty 9 ?_
   refine wr1 10 fun K hK=>?_
   exact ZlJ
  refine rc (fun K hK=>?_) ?_
  ·go_simp
   refine hK _ _ ?_
   clear hK K
   refine ty 9 ?_
   exact ZvX
  exact AllReady.nil
 refine rc (fun K hK=>?_) ?_
 ·go_simp
  refine hK _ _ ?_
  clear hK K
  refine ty 9 ?_
  refine wr [2,10] ?_
  refine rc (fun K hK=>?_) ?_
  ·go_simp
   refine hK _ _ ?_
   clear hK K
   refine ty 3 ?_
   exact ZvX
  refine rc (fun K hK=>?_) ?_
  ·go_simp
   refine hK _ _ ?_
   clear hK K
   refine wr1 2 fun K hK=>?_
   go_simp
   refine hK _ _ ?_
   clear hK K
   refine ty 3 ?_
   refine wr1 4 fun K hK=>?_
   exact ZlJ
  exact AllReady.nil
 exact AllReady.nil
theorem ZjB (c S f:Nat) (hS:S≤1099511627776) (ih:Qj c S f) (t:GT) (m:Int) (e:Env) (k n:Int) (w:World) (x:TA) (a:Option Addr) (hg:Zp (!e.isEmpty) t) (h10:t.k=10) (ox:okT t) (hs:Zb t≤S) (he:Ye S e)
  (hm:0≤m∧m≤8) (hk:1≤k∧k≤65536) (hn:0≤n∧n≤4096) (hf:4098≤f+1+n) (hc:c < w.heap.size) (hl:Ctr w c n) (hr:RT w (fun b=>b≠c) t x) (hv:REnv w (fun b=>b≠c) e a) (n':Int) (hn':n'=n+k) (hn2:n'≤4096) (hsp:Zu n k=some n') (hm0:¬m=0) (y:GT) (hx:t.a[1]? =some y) (d n2:Int) (hW:wkT f y ((t,m - 1)::e) k n'=some (d,n2)):
  Calls prog 217 #[.pointer (some ⟨c,0,none⟩),TV t x,.int .i64 m,.pointer a,.int .i64 k] w (WkR c w (some (d,n2))):=by
 obtain ⟨ma,mb,mc,md,me,mf,mg,mh,mi,mj,mk,ml⟩:=x
 have IH:=hid ih
 have HL:=hid (Zo.1 hr).2.2.2.2
 have HR:=hid hr
 have HV:=hid hv
 have HE:=hid he
 have HG:=hid hg
 have OX:=hid ox
 obtain ⟨⟨x1,x2⟩,ov,⟨ovl,ovs⟩,⟨l1,l2⟩,⟨l3,l4⟩,⟨owl,ow⟩,op,oal,oa⟩:=Ze.1 ox
 have O:=hid oa
 obtain ⟨hnd,_,hgs⟩:=Zk.1 hg
 have HGS:=hid hgs
 obtain ⟨ha,_,_⟩:=Yl hnd h10
 obtain ⟨m0,m1⟩:=hm
 obtain ⟨k0,k1⟩:=hk
 obtain ⟨n0,n1⟩:=hn
 obtain ⟨c1,c2⟩:=hl
 have hse:=Zq t
 have hcn:¬w.heap.size=c:=om
 have CT:=hid (show Ctr w c n from ⟨c1,c2⟩)
 clear ih hr hv he hg ox oa ov ovs ow op hnd hgs
 have HSP:=hid hsp
 clear hsp
 obtain ⟨b,o,mj',hja,hA,hbs,g0,gx⟩:=HL.out.get 1 om
 have h0:t.a[1]? =some t.a[1]:=List.getElem?_eq_getElem om
 have hq1:=ZD t.a 1 om
 have hxe:y=t.a[1]:=Option.some.inj (hx.symm.trans h0)
 subst hxe
 clear hx
 have hgx:Zp true t.a[1]:=by have h:=HGS.out.get 1 om;simpa [ZU,h10] using h
 have HGX:=hid hgx
 have hm0':(m==0)=false:=by simp [hm0]
 have HM:=hid hm0
 subst hja
 obtain ⟨j0,j1,j2,j3,j4,j5,j6,j7,j8,j9,ja,jb,jc,jd,je⟩:=Yp.1 (show At w b (o+15) _ by simpa using g0)
 have hbc:¬b=c:=hA
 have HE2:=hid (show Ye S ((t,m - 1)::e) from ⟨HG.out,h10,OX.out,hs,om,om,HE.out⟩)
 clear hgx g0 h0 hm0
 have hwm:IntKind.i64.wrap (m - 1)=m - 1:=IntWalk.i64_in _ om
 have HW:=hid hW
 clear hW
 go_enter func217,ntmps217
 go_wp2_with (go_at_call 215;refine (ZW c n k _ (by simp;omega) om om (by exact ⟨gs,gs⟩)).mono ?_;rw [HSP.out];rintro e1 w1 ⟨hb1,rfl,hx1,hx2⟩;obtain ⟨hc1,hf1⟩:=ZE hb1;have hz1:=hb1.size;simp at hz1;have hcn1:¬c=w1.heap.size:=om;have hcn2:¬w1.heap.size=c:=om;have hcn3:c < w1.heap.size:=om;have hbs1:b < w1.heap.size:=om;have hws1:w.heap.size < w1.heap.size:=om)
 go_region_with (go_at_call 139;refine (IH.out t.a[1] ((t,m - 1)::e) k n' _ mj' _ HGX.out (O.out.get 1 om) om HE2.out om om om (by simp at *;omega) (by exact ⟨gs,gs⟩) (by exact Zt2 (Zt0 Zt1) _ _ gx) (by exact REnv.push (x:=⟨ma,mb,mc,md,me,mf,mg,mh,mi,mj,some ⟨b,o,none⟩,ml⟩) (a:=a) om (Ko.2 (by refine ⟨?_,?_,?_,?_,?_,?_,?_,?_,?_,?_,?_,?_,?_,?_,?_,?_,?_⟩<;>go_simp)) (by exact Zt2 (Zt0 Zt1) _ _ HR.out) (by exact Zua (Zt0 Zt1) _ _ HV.out))).2.mono ?_;rw [HW.out];rintro e1 w2 ⟨hb2,rfl,hx3,hx4⟩)
 all_goals go_wp2_with fail
 all_goals go_ret
 all_goals exact ⟨Zt1,rfl,gs,gs⟩
set_option maxRecDepth 512
theorem ZvY {p:Prop} (h:p:=by
 go_wp2_with (go_at_call 215;refine (ZW c n k _ (by simp;omega) om om (by exact ⟨gs,gs⟩)).mono ?_;rw [HSP.out];rintro e1 w1 ⟨hb1,rfl⟩)
 exact ⟨rfl,Zt1,rfl⟩):p:=h
set_option maxRecDepth 100000
theorem ZjC (c S f:Nat) (hS:S≤1099511627776) (ih:Qj c S f) (t:GT) (m:Int) (e:Env) (k n:Int) (w:World) (x:TA) (a:Option Addr) (hg:Zp (!e.isEmpty) t) (h10:t.k=10) (ox:okT t) (hs:Zb t≤S) (he:Ye S e)
  (hm:0≤m∧m≤8) (hk:1≤k∧k≤65536) (hn:0≤n∧n≤4096) (hf:4098≤f+1+n) (hc:c < w.heap.size) (hl:Ctr w c n) (hr:RT w (fun b=>b≠c) t x) (hv:REnv w (fun b=>b≠c) e a) (hsp:Zu n k=none):
  Calls prog 217 #[.pointer (some ⟨c,0,none⟩),TV t x,.int .i64 m,.pointer a,.int .i64 k] w (WkR c w none):=by
 obtain ⟨ma,mb,mc,md,me,mf,mg,mh,mi,mj,mk,ml⟩:=x
 have IH:=hid ih
 have HL:=hid (Zo.1 hr).2.2.2.2
 have HR:=hid hr
 have HV:=hid hv
 have HE:=hid he
 have HG:=hid hg
 have OX:=hid ox
 obtain ⟨⟨x1,x2⟩,ov,⟨ovl,ovs⟩,⟨l1,l2⟩,⟨l3,l4⟩,⟨owl,ow⟩,op,oal,oa⟩:=Ze.1 ox
 have O:=hid oa
 obtain ⟨hnd,_,hgs⟩:=Zk.1 hg
 have HGS:=hid hgs
 obtain ⟨ha,_,_⟩:=Yl hnd h10
 obtain ⟨m0,m1⟩:=hm
 obtain ⟨k0,k1⟩:=hk
 obtain ⟨n0,n1⟩:=hn
 obtain ⟨c1,c2⟩:=hl
 have hse:=Zq t
 have hcn:¬w.heap.size=c:=om
 have CT:=hid (show Ctr w c n from ⟨c1,c2⟩)
 clear ih hr hv he hg ox oa ov ovs ow op hnd hgs
 have HSP:=hid hsp
 clear hsp
 go_enter func217,ntmps217
 exact ZvY
set_option maxRecDepth 512
theorem ZcT (c S f:Nat) (hS:S≤1099511627776) (ih:Qj c S f) (t:GT) (m:Int) (e:Env) (k n:Int) (w:World) (x:TA) (a:Option Addr) (hg:Zp (!e.isEmpty) t) (h10:t.k=10) (ox:okT t) (hs:Zb t≤S) (he:Ye S e)
  (hm:0≤m∧m≤8) (hk:1≤k∧k≤65536) (hn:0≤n∧n≤4096) (hf:4098≤f+1+n) (hc:c < w.heap.size) (hl:Ctr w c n) (hr:RT w (fun b=>b≠c) t x) (hv:REnv w (fun b=>b≠c) e a):
  Calls prog 217 #[.pointer (some ⟨c,0,none⟩),TV t x,.int .i64 m,.pointer a,.int .i64 k] w (WkR c w (Xx (wkT f) t m e k n)):=by
 unfold Xx
 cases hsp:Zu n k with
 | none=>exact ZjC c S f hS ih t m e k n w x a hg h10 ox hs he hm hk hn hf hc hl hr hv hsp
 | some n'=>
  obtain ⟨hn',hn2⟩:=ZC hsp
  obtain ⟨hnd,_,_⟩:=Zk.1 hg
  obtain ⟨ha,_,_⟩:=Yl hnd h10
  by_cases hm0:m=0
  ·simp only [if_pos hm0]
   exact Zjz c S f hS ih t m e k n w x a hg h10 ox hs he hm hk hn hf hc hl hr hv n' hn' hn2 hsp hm0
  simp only [if_neg hm0]
  cases hx:t.a[1]? with
  | none=>rw [List.getElem?_eq_none_iff] at hx;omega
  | some y=>
   rcases hW:wkT f y ((t,m - 1)::e) k n' with _|⟨d,n2⟩
   ·simp only [hW];exact ZjA c S f hS ih t m e k n w x a hg h10 ox hs he hm hk hn hf hc hl hr hv n' hn' hn2 hsp hm0 y hx hW
   simp only [hW];exact ZjB c S f hS ih t m e k n w x a hg h10 ox hs he hm hk hn hf hc hl hr hv n' hn' hn2 hsp hm0 y hx d n2 hW
set_option maxRecDepth 100000
theorem ZkA (c S f:Nat) (hS:S≤1099511627776) (t:GT) (e:Env) (k n:Int) (w:World) (x:TA) (a:Option Addr) (ox:okT t) (hs:Zb t≤S)
  (hk:1≤k∧k≤65536) (hn:0≤n∧n≤4096) (hc:c < w.heap.size) (hl:Ctr w c n) (hr:RT w (fun b=>b≠c) t x) (h1:t.k=1):
  Calls prog 139 #[.pointer (some ⟨c,0,none⟩),TV t x,.pointer a,.int .i64 k] w (WkR c w (wkT (f+1) t e k n)):=by
 obtain ⟨ma,mb,mc,md,me,mf,mg,mh,mi,mj,mk,ml⟩:=x
 have HV:=hid (Zl.1 (Zo.1 hr).1)
 obtain ⟨⟨x1,x2⟩,ov,⟨ovl,ovs⟩,⟨l1,l2⟩,⟨l3,l4⟩,⟨owl,ow⟩,op,oal,oa⟩:=Ze.1 ox
 have OV:=hid ov
 obtain ⟨k0,k1⟩:=hk
 obtain ⟨n0,n1⟩:=hn
 obtain ⟨c1,c2⟩:=hl
 have hse:=Zq t
 have hsv:=Zr t.v
 have hsv2:Zg t.v≤1099511627776:=om
 have hcn:¬w.heap.size=c:=om
 have hk1:(t.k==1)=true:=by simp [h1]
 have hm1:0≤k*(Zg t.v:Int):=Int.mul_nonneg om om
 have hm2:k*(Zg t.v:Int)≤65536*1099511627776:=Int.mul_le_mul k1 om om om
 have hmw:IntKind.i64.wrap (k*(Zg t.v:Int))=k*(Zg t.v:Int):=IntWalk.i64_in _ om
 generalize hR:wkT (f+1) t e k n=R
 simp only [wkT,if_pos h1] at hR
 clear ox oa ov ovs ow op h1 hr
 have HX:∀(W:World),Ctr W c n→c < W.heap.size→Calls prog 215 #[.pointer (some ⟨c,0,none⟩),.int .i64 (k*(Zg t.v:Int))] W (SpR c W (Zu n (k*(Zg t.v:Int)))):=fun W h h2=>ZW c n _ W h2 om om h
 have HX':=hid HX
 clear HX
 cases hsp:Zu n (k*(Zg t.v:Int)) with
 | none=>
  simp only [hsp] at hR
  have HR:=hid hR
  have HSP:=hid hsp
  clear hsp hR
  go_enter func139,ntmps139
  go_wp2_with (first
   | (go_at_call 39;refine (V3 t.v _ ⟨ma,mb⟩ _ OV.out hsv2 (by exact Zt8 (Zt0 Zt1) _ _ HV.out)).mono ?_;rintro e1 w1 ⟨rfl,hb1⟩;obtain ⟨hc1,hf1⟩:=Za hb1;have hz1:=hb1.size;simp at hz1;have hcz:c < w1.heap.size:=om)
   | (go_at_call 215;refine (HX'.out _ (by exact ⟨gs,gs⟩) om).mono ?_;rw [HSP.out];rintro e1 w2 ⟨hb2,rfl⟩))
  rw [←HR.out]
  exact ⟨rfl,Zt1,rfl⟩
 | some n'=>
  simp only [hsp] at hR
  have HR:=hid hR
  have HSP:=hid hsp
  clear hsp hR
  go_enter func139,ntmps139
  go_wp2_with (first
   | (go_at_call 39;refine (V3 t.v _ ⟨ma,mb⟩ _ OV.out hsv2 (by exact Zt8 (Zt0 Zt1) _ _ HV.out)).mono ?_;rintro e1 w1 ⟨rfl,hb1⟩;obtain ⟨hc1,hf1⟩:=Za hb1;have hz1:=hb1.size;simp at hz1;have hcz:c < w1.heap.size:=om;have hwz:w.heap.size < w1.heap.size:=om)
   | (go_at_call 215;refine (HX'.out _ (by exact ⟨gs,gs⟩) om).mono ?_;rw [HSP.out];rintro e1 w2 ⟨hb2,rfl,hx1,hx2⟩;obtain ⟨hc2,hf2⟩:=ZE hb2;have hz2:=hb2.size;have hcz2:c < w2.heap.size:=om)
   | (go_at_call 216;refine (ZdQ t.v _ ⟨ma,mb⟩ _ OV.out hsv2 (by exact Zt8 (Zt0 Zt1) _ _ HV.out)).mono ?_;rintro e1 w3 ⟨rfl,hb3⟩;obtain ⟨hc3,hf3⟩:=Za hb3))
  go_ret
  rw [←HR.out]
  exact ⟨Zt1,rfl,gs,gs⟩
set_option maxRecDepth 512
theorem ZoX {p:Prop} (h:p:=by
 go_wp2_with (go_at_call 217;refine (HX.out _ (by simp;omega) (by exact ⟨gs,gs⟩) (by exact Zt2 (Zt0 Zt1) _ _ HR.out) (by exact Zua (Zt0 Zt1) _ _ HV.out)).mono ?_;rw [HR2.out];rintro e1 w2 ⟨hb2,rfl,hx1,hx2⟩)
 go_ret
 exact ⟨Zt1,rfl,hx1,hx2⟩):p:=h
theorem ZvW {p:Prop} (h:p:=by
 go_wp2_with (go_at_call 217;refine (HX.out _ (by simp;omega) (by exact ⟨gs,gs⟩) (by exact Zt2 (Zt0 Zt1) _ _ HR.out) (by exact Zua (Zt0 Zt1) _ _ HV.out)).mono ?_;rw [HR2.out];rintro e1 w2 ⟨hb2,rfl⟩)
 exact ⟨rfl,Zt1,rfl⟩):p:=h
set_option maxRecDepth 100000
theorem ZjE (c S f:Nat) (hS:S≤1099511627776) (ih:Qj c S f) (t:GT) (e:Env) (k n:Int) (w:World) (x:TA) (a:Option Addr) (hg:Zp (!e.isEmpty) t) (ox:okT t) (hs:Zb t≤S) (he:Ye S e)
  (hk:1≤k∧k≤65536) (hn:0≤n∧n≤4096) (hf:4098≤f+1+n) (hc:c < w.heap.size) (hl:Ctr w c n) (hr:RT w (fun b=>b≠c) t x) (hv:REnv w (fun b=>b≠c) e a) (h10:t.k=10):
  Calls prog 139 #[.pointer (some ⟨c,0,none⟩),TV t x,.pointer a,.int .i64 k] w (WkR c w (wkT (f+1) t e k n)):=by
 obtain ⟨ma,mb,mc,md,me,mf,mg,mh,mi,mj,mk,ml⟩:=x
 have hnd:=(Zk.1 hg).1
 obtain ⟨hla,hlo,hlo8⟩:=Yl hnd h10
 clear hla
 have HX:=hid (fun (W:World) (h1:c < W.heap.size) (h2:Ctr W c n) (h3:RT W (fun b=>b≠c) t ⟨ma,mb,mc,md,me,mf,mg,mh,mi,mj,mk,ml⟩) (h4:REnv W (fun b=>b≠c) e a)=>ZcT c S f hS ih t t.lo e k n W ⟨ma,mb,mc,md,me,mf,mg,mh,mi,mj,mk,ml⟩ a hg h10 ox hs he ⟨hlo,hlo8⟩ hk hn hf h1 h2 h3 h4)
 have HR:=hid hr
 have HV:=hid hv
 obtain ⟨c1,c2⟩:=hl
 have hcn:¬w.heap.size=c:=om
 have hk1:(t.k==1)=false:=by simp [h10]
 have hk11:(t.k==11)=false:=by simp [h10]
 have hk10:(t.k==10)=true:=by simp [h10]
 have hE:wkT (f+1) t e k n=Xx (wkT f) t t.lo e k n:=by simp [wkT,h10]
 rw [hE]
 clear ih hg ox he hr hv hE h10 hnd
 rcases hR:Xx (wkT f) t t.lo e k n with _|⟨d,n2⟩
 ·have HR2:=hid hR
  clear hR
  go_enter func139,ntmps139
  exact ZvW
 have HR2:=hid hR
 clear hR
 go_enter func139,ntmps139
 exact ZoX
theorem ZjF (c S f:Nat) (hS:S≤1099511627776) (ih:Qj c S f) (t:GT) (e:Env) (k n:Int) (w:World) (x:TA) (a:Option Addr) (hg:Zp (!e.isEmpty) t) (he:Ye S e)
  (hk:1≤k∧k≤65536) (hn:0≤n∧n≤4096) (hf:4098≤f+1+n) (hc:c < w.heap.size) (hl:Ctr w c n) (hv:REnv w (fun b=>b≠c) e a) (h11:t.k=11):
  Calls prog 139 #[.pointer (some ⟨c,0,none⟩),TV t x,.pointer a,.int .i64 k] w (WkR c w (wkT (f+1) t e k n)):=by
 obtain ⟨ma,mb,mc,md,me,mf,mg,mh,mi,mj,mk,ml⟩:=x
 obtain ⟨hnd,hin,_⟩:=Zk.1 hg
 match e,he,hv,hin h11 with
 | (s,m)::up,he,hv,_=>
 obtain ⟨b,⟨xa,xb,xc,xd,xe,xf,xg,xh,xi,xj,xk,xl⟩,a',rfl,hA,hat,hrs,hup⟩:=hv
 obtain ⟨hgs,hs10,hso,hss,hm0,hm8,hue⟩:=he
 have HX:=hid (fun (W:World) (h1:c < W.heap.size) (h2:Ctr W c n) (h3:RT W (fun b=>b≠c) s ⟨xa,xb,xc,xd,xe,xf,xg,xh,xi,xj,xk,xl⟩) (h4:REnv W (fun b=>b≠c) up a')=>ZcT c S f hS ih s m up k n W _ a' hgs hs10 hso hss hue ⟨hm0,hm8⟩ hk hn hf h1 h2 h3 h4)
 obtain ⟨z0,z1,z2,z3,z4,z5,z6,z7,z8,z9,za,zb,zc,zd,ze,zf,zg⟩:=Ko.1 hat
 have HR:=hid hrs
 have HV:=hid hup
 obtain ⟨c1,c2⟩:=hl
 have hbl:b < w.heap.size:=World.block_lt_of_cell? _ _ z0
 have hcn:¬w.heap.size=c:=om
 have hk1:(t.k==1)=false:=by simp [h11]
 have hk11:(t.k==11)=true:=by simp [h11]
 have hE:wkT (f+1) t ((s,m)::up) k n=Xx (wkT f) s m up k n:=by simp [wkT,h11]
 rw [hE]
 clear ih hg hE h11 hnd hgs hs10 hso hue hat hrs hup hin
 rcases hR:Xx (wkT f) s m up k n with _|⟨d,n2⟩
 ·have HR2:=hid hR
  clear hR
  go_enter func139,ntmps139
  go_wp2_with fail
  refine Z0 14 kr kr ?_
  simp only [List.take_succ_cons,List.take_zero,List.drop_succ_cons,List.drop_zero]
  repeat still_step
  refine wpStill_nil ?_
  exact ZvW
 have HR2:=hid hR
 clear hR
 go_enter func139,ntmps139
 go_wp2_with fail
 refine Z0 14 kr kr ?_
 simp only [List.take_succ_cons,List.take_zero,List.drop_succ_cons,List.drop_zero]
 repeat still_step
 refine wpStill_nil ?_
 exact ZoX
set_option maxRecDepth 512
theorem Zbh {S f:Nat} {g:Int→GT→Option (Int×Int)}:∀(l:List GT) (d n:Int),0≤d→d≤(S+f:Nat)→n≤4096→(∀(n:Int) x,x∈l→0≤n→n≤4096→4098≤f+n→wkLe (S+f) n (g n x))→0≤n→4098≤f+n→wkLe (S+f) n (Zx g l d n)
 | [],d,n,h0,h1,h2,_,_,_=>by intro d' n' h;simp only [Zx] at h;cases h;omega
 | x::l,d,n,h0,h1,h2,h,h3,h4=>by
  intro d' n' he
  simp only [Zx] at he
  have hx:=h n x sm h3 h2 h4
  cases hg:g n x with
  | none=>rw [hg] at he;cases he
  | some p=>
   obtain ⟨d1,n1⟩:=p
   rw [hg] at he
   obtain ⟨a1,a2,a3,a4⟩:=hx d1 n1 hg
   obtain ⟨b1,b2,b3,b4⟩:=Zbh l (max d d1) n1 om om a4 (fun n x hm=>h n x (by simp [hm])) om om d' n' he
   exact ⟨b1,b2,om,b4⟩
theorem VR {g:Int→GT→Option (Int×Int)} (l:List GT) (j:Nat) (h:j < l.length) (d n:Int):Zx g (l.drop j) d n=match g n l[j] with
  | none=>none
  | some (d',n')=>Zx g (l.drop (j+1)) (max d d') n':=by
 rw [List.drop_eq_getElem_cons h];rfl
set_option maxRecDepth 100000
theorem QI (c S f:Nat) (hS:S≤1099511627776) (hfu:f≤1099511627776) (ih:Qj c S f) (t:GT) (e:Env) (k n:Int) (w:World) (x:TA) (a:Option Addr) (hg:goodTs (!e.isEmpty) t.k 0 t.a) (h10:¬t.k=10) (ox:okT t) (hs:Zb t≤S) (he:Ye S e)
  (hk:1≤k∧k≤65536) (hn:0≤n∧n≤4096) (hf:4098≤f+n) (hc:c < w.heap.size) (hl:Ctr w c n) (hr:RT w (fun b=>b≠c) t x) (hv:REnv w (fun b=>b≠c) e a):
  Calls prog 218 #[.pointer (some ⟨c,0,none⟩),TV t x,.pointer a,.int .i64 k] w (WkR c w (Zx (fun n x=>wkT f x e k n) t.a 0 n)):=by
 obtain ⟨ma,mb,mc,md,me,mf,mg,mh,mi,mj,mk,ml⟩:=x
 have IH:=hid ih
 have HL:=hid (Zo.1 hr).2.2.2.2
 have HV:=hid hv
 have HE:=hid he
 have HG:=hid hg
 obtain ⟨⟨x1,x2⟩,ov,⟨ovl,ovs⟩,⟨l1,l2⟩,⟨l3,l4⟩,⟨owl,ow⟩,op,oal,oa⟩:=Ze.1 ox
 have O:=hid oa
 obtain ⟨k0,k1⟩:=hk
 obtain ⟨n0,n1⟩:=hn
 obtain ⟨c1,c2⟩:=hl
 have hse:=Zq t
 have hcn:¬w.heap.size=c:=om
 have HK:=hid h10
 generalize hR:Zx (fun n x=>wkT f x e k n) t.a 0 n=R
 have HR:=hid hR
 clear ih hr hv he hg ox oa ov ovs ow op h10 hR
 go_enter func218,ntmps218
 go_wp2_with fail
 go_loopg [9,15] (t.a.length) (fun gk t9 i wr=>∃(j:Nat) (d q:Int),gk+j=t.a.length∧i=.int .i64 j∧t9=.int .i64 d∧Hid (Zx (fun n x=>wkT f x e k n) (t.a.drop j) d q=R)∧(0≤d∧d≤S+f)∧(n≤q∧q≤4096)∧But c w.heap.size w wr∧w.heap.size < wr.heap.size ∧
  (wr.cell? ⟨c,0,none⟩=some (.int .i64 q)∧wr.frozen? ⟨c,0,none⟩=false))
 case atStart=>exact ⟨0,0,n,om,rfl,rfl,by show Zx _ _ _ _=R;simpa using HR.out,om,om,Zt1,sm,gs,gs⟩
 case round=>
  obtain ⟨j,d,q,hj,rfl,rfl,HF,⟨d0,d1⟩,⟨q0,q1⟩,hb,hz,hx1,hx2⟩:=hrel
  have hcr:c < wr.heap.size:=om
  have hcr2:¬wr.heap.size=c:=om
  by_cases hlt:j < t.a.length
  ·obtain ⟨b,o,mj',rfl,hA,hbs,g0,gx⟩:=HL.out.get j hlt
   obtain ⟨z0,z1,z2,z3,z4,z5,z6,z7,z8,z9,za,zb,zc,zd,ze⟩:=Yp.1 (g0.ext (Zt0 hb) hA)
   have hs1:b < wr.heap.size:=om
   have hq1:=ZD t.a j hlt
   have HGX:=hid (show Zp (!e.isEmpty) t.a[j] by have h:=HG.out.get j hlt;have h2:(t.k==10)=false:=beq_eq_false_iff_ne.2 HK.out;simpa [ZU,h2] using h)
   have hd:=HF.out
   rw [VR _ j hlt] at hd
   clear g0
   rcases hW:wkT f t.a[j] e k q with _|⟨d',q'⟩
   ·simp only [hW] at hd
    have HW:=hid hW
    have HD:=hid hd
    clear hW hd
    go_wp2_with (go_at_call 139;refine (IH.out t.a[j] e k q _ mj' a HGX.out (O.out.get j hlt) om HE.out om om om (by simp;omega) (by exact ⟨gs,gs⟩) (by exact Zt2 (Zt0 Zt1) _ _ gx) (by exact Zua (Zt0 Zt1) _ _ HV.out)).2.mono ?_;rw [HW.out];rintro e1 w2 ⟨hb2,rfl⟩)
    rw [←HD.out]
    exact ⟨rfl,Zt1,rfl⟩
   simp only [hW] at hd
   obtain ⟨y0,y1,y2,y3⟩:=(IH.out t.a[j] e k q _ mj' a HGX.out (O.out.get j hlt) om HE.out om om om hcr ⟨hx1,hx2⟩ (Zt2 (Zt0 hb) _ _ gx) (Zua (Zt0 hb) _ _ HV.out)).1 d' q' hW
   have HW:=hid hW
   have HD:=hid hd
   clear hW hd
   go_wp2_with (go_at_call 139;refine (IH.out t.a[j] e k q _ mj' a HGX.out (O.out.get j hlt) om HE.out om om om (by simp;omega) (by exact ⟨gs,gs⟩) (by exact Zt2 (Zt0 Zt1) _ _ gx) (by exact Zua (Zt0 Zt1) _ _ HV.out)).2.mono ?_;rw [HW.out];rintro e1 w2 ⟨hb2,rfl,hx3,hx4⟩)
   all_goals go_roundg (gk - 1)
   all_goals first
    | omega
    | exact ⟨j+1,max d d',q',om,by go_num,rfl,HD.out,om,om,Zt1,by have:=hb2.size;simp at this;omega,gs,gs⟩
    | exact ⟨j+1,d',q',om,by go_num,rfl,(by have h:=HD.out;rwa [show max d d'=d' by omega] at h),om,om,Zt1,by have:=hb2.size;simp at this;omega,gs,gs⟩
    | exact ⟨j+1,d,q',om,by go_num,rfl,(by have h:=HD.out;rwa [show max d d'=d by omega] at h),om,om,Zt1,by have:=hb2.size;simp at this;omega,gs,gs⟩
  have hjl:j=t.a.length:=om
  have HD:=hid (show some (d,q)=R by rw [←HF.out,hjl,List.drop_length];rfl)
  go_wp2_with fail
  go_ret
  rw [←HD.out]
  exact ⟨hb,rfl,gs,gs⟩
theorem ZkE (c S f:Nat) (hS:S≤1099511627776) (hfu:f≤1099511627776) (ih:Qj c S f) (t:GT) (e:Env) (k n:Int) (w:World) (x:TA) (a:Option Addr) (hg:Zp (!e.isEmpty) t) (ox:okT t) (hs:Zb t≤S) (he:Ye S e)
  (hk:1≤k∧k≤65536) (hn:0≤n∧n≤4096) (hf:4098≤f+1+n) (hc:c < w.heap.size) (hl:Ctr w c n) (hr:RT w (fun b=>b≠c) t x) (hv:REnv w (fun b=>b≠c) e a) (h1:¬t.k=1) (h10:¬t.k=10) (h11:¬t.k=11) (hsp:Zu n k=none):
  Calls prog 139 #[.pointer (some ⟨c,0,none⟩),TV t x,.pointer a,.int .i64 k] w (WkR c w (wkT (f+1) t e k n)):=by
 obtain ⟨ma,mb,mc,md,me,mf,mg,mh,mi,mj,mk,ml⟩:=x
 obtain ⟨hnd,_,hgs⟩:=Zk.1 hg
 obtain ⟨⟨x1,x2⟩,ov,⟨ovl,ovs⟩,⟨l1,l2⟩,⟨l3,l4⟩,⟨owl,ow⟩,op,oal,oa⟩:=Ze.1 ox
 have HR:=hid hr
 have HV:=hid hv
 have OVS:=hid ovs
 obtain ⟨k0,k1⟩:=hk
 obtain ⟨n0,n1⟩:=hn
 obtain ⟨c1,c2⟩:=hl
 have hcn:¬w.heap.size=c:=om
 have hk1:(t.k==1)=false:=by simp [h1]
 have hk10:(t.k==10)=false:=by simp [h10]
 have hk11:(t.k==11)=false:=by simp [h11]
 have hE:wkT (f+1) t e k n=none:=by simp [wkT,h1,h10,h11,hsp]
 rw [hE]
 have HSP:=hid hsp
 clear hsp hE
 clear ih hg ox he hr hv ov ovs ow op oa hnd hgs h1 h10 h11
 go_enter func139,ntmps139
 exact ZvY
theorem ZkB (c S f:Nat) (hS:S≤1099511627776) (hfu:f≤1099511627776) (ih:Qj c S f) (t:GT) (e:Env) (k n:Int) (w:World) (x:TA) (a:Option Addr) (hg:Zp (!e.isEmpty) t) (ox:okT t) (hs:Zb t≤S) (he:Ye S e)
  (hk:1≤k∧k≤65536) (hn:0≤n∧n≤4096) (hf:4098≤f+1+n) (hc:c < w.heap.size) (hl:Ctr w c n) (hr:RT w (fun b=>b≠c) t x) (hv:REnv w (fun b=>b≠c) e a) (h1:¬t.k=1) (h10:¬t.k=10) (h11:¬t.k=11) (n':Int) (hn':n'=n+k) (hn2:n'≤4096) (hsp:Zu n k=some n') (h2:t.k=2):
  Calls prog 139 #[.pointer (some ⟨c,0,none⟩),TV t x,.pointer a,.int .i64 k] w (WkR c w (wkT (f+1) t e k n)):=by
 obtain ⟨ma,mb,mc,md,me,mf,mg,mh,mi,mj,mk,ml⟩:=x
 obtain ⟨hnd,_,hgs⟩:=Zk.1 hg
 obtain ⟨⟨x1,x2⟩,ov,⟨ovl,ovs⟩,⟨l1,l2⟩,⟨l3,l4⟩,⟨owl,ow⟩,op,oal,oa⟩:=Ze.1 ox
 have HR:=hid hr
 have HV:=hid hv
 have OVS:=hid ovs
 obtain ⟨k0,k1⟩:=hk
 obtain ⟨n0,n1⟩:=hn
 obtain ⟨c1,c2⟩:=hl
 have hcn:¬w.heap.size=c:=om
 have hk1:(t.k==1)=false:=by simp [h1]
 have hk10:(t.k==10)=false:=by simp [h10]
 have hk11:(t.k==11)=false:=by simp [h11]
 have hE:wkT (f+1) t e k n=some (1,n'):=by simp [wkT,h2,hsp]
 rw [hE]
 have HSP:=hid hsp
 have hk2:(t.k==2)=true:=by simp [h2]
 clear hsp hE h2
 clear ih hg ox he hr hv ov ovs ow op oa hnd hgs h1 h10 h11
 go_enter func139,ntmps139
 go_wp2_with (go_at_call 215;refine (ZW c n k _ (by simp;omega) om om (by exact ⟨gs,gs⟩)).mono ?_;rw [HSP.out];rintro e1 w1 ⟨hb1,rfl,hx1,hx2⟩;obtain ⟨hc1,hf1⟩:=ZE hb1;have hz1:=hb1.size;simp at hz1;have hcn1:¬c=w1.heap.size:=om;have hcn2:¬w1.heap.size=c:=om;have hcn3:c < w1.heap.size:=om;have hws1:w.heap.size < w1.heap.size:=om)
 go_ret
 exact ⟨Zt1,rfl,gs,gs⟩
set_option maxRecDepth 512
theorem ZlE {p:Prop} (h:p:=by
 go_enter func139,ntmps139
 go_wp2_with (first
  | (go_at_call 215;refine (ZW c n k _ (by simp;omega) om om (by exact ⟨gs,gs⟩)).mono ?_;rw [HSP.out];rintro e1 w1 ⟨hb1,rfl,hx1,hx2⟩;obtain ⟨hc1,hf1⟩:=ZE hb1;have hz1:=hb1.size;simp at hz1;have hcn1:¬c=w1.heap.size:=om;have hcn2:¬w1.heap.size=c:=om;have hcn3:c < w1.heap.size:=om;have hws1:w.heap.size < w1.heap.size:=om)
  | (go_at_call 218;refine (HX.out _ om (by exact ⟨gs,gs⟩) (by exact Zt2 (Zt0 Zt1) _ _ HR.out) (by exact Zua (Zt0 Zt1) _ _ HV.out)).mono ?_;rw [HR2.out];rintro e1 w2 ⟨hb2,rfl,hx3,hx4⟩))
 go_ret
 exact ⟨Zt1,rfl,hx3,hx4⟩):p:=h
theorem ZoQ {p:Prop} (h:p:=by
 go_enter func139,ntmps139
 go_wp2_with (first
  | (go_at_call 215;refine (ZW c n k _ (by simp;omega) om om (by exact ⟨gs,gs⟩)).mono ?_;rw [HSP.out];rintro e1 w1 ⟨hb1,rfl,hx1,hx2⟩;obtain ⟨hc1,hf1⟩:=ZE hb1;have hz1:=hb1.size;simp at hz1;have hcn1:¬c=w1.heap.size:=om;have hcn2:¬w1.heap.size=c:=om;have hcn3:c < w1.heap.size:=om;have hws1:w.heap.size < w1.heap.size:=om)
  | (go_at_call 218;refine (HX.out _ om (by exact ⟨gs,gs⟩) (by exact Zt2 (Zt0 Zt1) _ _ HR.out) (by exact Zua (Zt0 Zt1) _ _ HV.out)).mono ?_;rw [HR2.out];rintro e1 w2 ⟨hb2,rfl⟩))
 exact ⟨rfl,Zt1,rfl⟩):p:=h
set_option maxRecDepth 100000
theorem ZiJ (c S f:Nat) (hS:S≤1099511627776) (hfu:f≤1099511627776) (ih:Qj c S f) (t:GT) (e:Env) (k n:Int) (w:World) (x:TA) (a:Option Addr) (hg:Zp (!e.isEmpty) t) (ox:okT t) (hs:Zb t≤S) (he:Ye S e)
  (hk:1≤k∧k≤65536) (hn:0≤n∧n≤4096) (hf:4098≤f+1+n) (hc:c < w.heap.size) (hl:Ctr w c n) (hr:RT w (fun b=>b≠c) t x) (hv:REnv w (fun b=>b≠c) e a) (h1:¬t.k=1) (h10:¬t.k=10) (h11:¬t.k=11) (n':Int) (hn':n'=n+k) (hn2:n'≤4096) (hsp:Zu n k=some n') (h3:t.k=3∨t.k=9):
  Calls prog 139 #[.pointer (some ⟨c,0,none⟩),TV t x,.pointer a,.int .i64 k] w (WkR c w (wkT (f+1) t e k n)):=by
 obtain ⟨ma,mb,mc,md,me,mf,mg,mh,mi,mj,mk,ml⟩:=x
 obtain ⟨hnd,_,hgs⟩:=Zk.1 hg
 obtain ⟨⟨x1,x2⟩,ov,⟨ovl,ovs⟩,⟨l1,l2⟩,⟨l3,l4⟩,⟨owl,ow⟩,op,oal,oa⟩:=Ze.1 ox
 have HR:=hid hr
 have HV:=hid hv
 have OVS:=hid ovs
 obtain ⟨k0,k1⟩:=hk
 obtain ⟨n0,n1⟩:=hn
 obtain ⟨c1,c2⟩:=hl
 have hcn:¬w.heap.size=c:=om
 have hk1:(t.k==1)=false:=by simp [h1]
 have hk10:(t.k==10)=false:=by simp [h10]
 have hk11:(t.k==11)=false:=by simp [h11]
 have HX:=hid (fun (W:World) (h1:c < W.heap.size) (h2:Ctr W c n') (h3:RT W (fun b=>b≠c) t ⟨ma,mb,mc,md,me,mf,mg,mh,mi,mj,mk,ml⟩) (h4:REnv W (fun b=>b≠c) e a)=>QI c S f hS hfu ih t e k n' W ⟨ma,mb,mc,md,me,mf,mg,mh,mi,mj,mk,ml⟩ a hgs h10 ox hs he ⟨k0,k1⟩ om om h1 h2 h3 h4)
 have hE:wkT (f+1) t e k n=Zx (fun n x=>wkT f x e k n) t.a 0 n':=by rcases h3 with h|h<;>simp [wkT,h,hsp]
 rw [hE]
 have HSP:=hid hsp
 have hk2:(t.k==2)=false:=by simp;omega
 have hk4:(t.k==4)=false:=by simp;omega
 have hk6:(t.k==6)=false:=by simp;omega
 have H3:=hid h3
 clear hsp hE h3
 clear ih hg ox he hr hv ov ovs ow op oa hnd hgs h1 h10 h11
 rcases hR:Zx (fun n x=>wkT f x e k n) t.a 0 n' with _|⟨d,n2⟩
 ·have HR2:=hid hR
  clear hR
  cases hk3:(t.k==3)
  ·have hk9:(t.k==9)=true:=by have h:=H3.out;simp at hk3;simp;omega
   exact ZoQ
  exact ZoQ
 have HR2:=hid hR
 clear hR
 cases hk3:(t.k==3)
 ·have hk9:(t.k==9)=true:=by have h:=H3.out;simp at hk3;simp;omega
  exact ZlE
 exact ZlE
end Go.Proofs.YtkdffbdnjfgpeaaGreat
