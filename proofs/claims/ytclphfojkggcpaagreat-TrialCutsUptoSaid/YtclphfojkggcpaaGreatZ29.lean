/- What the proofs of the Trial statements need: part 30. -/
import Derived.Deep.RegionHeld3
import Derived.Deep.RegionWith
import Derived.IntWalk
import Derived.RegionDies
import Derived.Test.YtclphfojkggcpaaGreatZ9
import Derived.Test.YtclphfojkggcpaaGreatZTk
set_option linter.unusedVariables false
set_option linter.unusedSimpArgs false
namespace Go.Proofs.YtclphfojkggcpaaGreat
open Go.Lib (hid)
open Go Go.RowKit
def wkLe (D:Nat) (n:Int) (r:Option (Int×Int)):Prop:=∀d n',r=some (d,n')→0≤d∧d≤D∧n≤n'∧n'≤4096
theorem spendN_some {n k n':Int} (h:spendN n k=some n'):n'=n+k∧n'≤4096:=by
 unfold spendN at h;split at h
 ·cases h
 ·cases h;omega
theorem REnv.push {W:World} {A:Nat→Prop} {t:GT} {m:Int} {e:Env} {a:Option Addr} {x:TA} {b:Nat} (hA:A b) (hat:At W b 0 [.int .u8 t.k,.int .u8 t.v.k,.int .i64 t.v.n,.slice (TA.va x) t.v.l.length (TA.vc x),.slice (TA.vsa x) t.vs.length (TA.vsc x),.int .i64 t.lo,.int .i64 t.hi,
    .slice (TA.wa x) t.w.length (TA.wc x),.int .u8 t.p.k,.int .u8 t.p.v.k,.int .i64 t.p.v.n,.slice (TA.pva x) t.p.v.l.length (TA.pvc x),.int .i64 t.p.n,.slice (TA.pa x) t.p.a.length (TA.pc x),.slice (TA.a x) t.a.length (TA.c x),.int .i64 m,.pointer a])
  (hr:RT W A t x) (hv:REnv W A e a):REnv W A ((t,m)::e) (some ⟨b,0,none⟩):=⟨b,x,a,rfl,hA,hat,hr,hv⟩
def WkIH (c S f:Nat):Prop:=∀(t:GT) (e:Env) (k n:Int) (w:World) (m:TA) (a:Option Addr),goodT (!e.isEmpty) t→okT t→sizeT t≤S→envOk S e→(1≤k∧k≤65536)→(0≤n∧n≤4096)→4098≤f+n →
 c < w.heap.size→Ctr w c n→RT w (fun b=>b≠c) t m→REnv w (fun b=>b≠c) e a→wkLe (S+f) n (wkT f t e k n) ∧
 Calls Tryz.prog 87 #[.pointer (some ⟨c,0,none⟩),TV t m,.pointer a,.int .i64 k] w (WkR c w (wkT f t e k n))
set_option maxRecDepth 100000 in
set_option maxHeartbeats 2000000 in
theorem sized_0 (c S f:Nat) (hS:S≤1099511627776) (ih:WkIH c S f) (t:GT) (m:Int) (e:Env) (k n:Int) (w:World) (x:TA) (a:Option Addr) (hg:goodT (!e.isEmpty) t) (h10:t.k=10) (ox:okT t) (hs:sizeT t≤S) (he:envOk S e)
  (hm:0≤m∧m≤8) (hk:1≤k∧k≤65536) (hn:0≤n∧n≤4096) (hf:4098≤f+1+n) (hc:c < w.heap.size) (hl:Ctr w c n) (hr:RT w (fun b=>b≠c) t x) (hv:REnv w (fun b=>b≠c) e a) (n':Int) (hn':n'=n+k) (hn2:n'≤4096) (hsp:spendN n k=some n') (hm0:m=0):
  Calls Tryz.prog 130 #[.pointer (some ⟨c,0,none⟩),TV t x,.int .i64 m,.pointer a,.int .i64 k] w (WkR c w (match t.a[0]? with|some x=>wkT f x e k n'|none=>none)):=by
 obtain ⟨ma,mb,mc,md,me,mf,mg,mh,mi,mj,mk,ml⟩:=x
 have IH:=hid ih
 have HL:=hid (RT_iff.1 hr).2.2.2.2
 have HR:=hid hr
 have HV:=hid hv
 have HE:=hid he
 have HG:=hid hg
 have OX:=hid ox
 obtain ⟨⟨x1,x2⟩,ov,⟨ovl,ovs⟩,⟨l1,l2⟩,⟨l3,l4⟩,⟨owl,ow⟩,op,oal,oa⟩:=okT_iff.1 ox
 have O:=hid oa
 obtain ⟨hnd,_,hgs⟩:=goodT_eq.1 hg
 have HGS:=hid hgs
 obtain ⟨ha,_,_⟩:=node_sized hnd h10
 obtain ⟨m0,m1⟩:=hm
 obtain ⟨k0,k1⟩:=hk
 obtain ⟨n0,n1⟩:=hn
 obtain ⟨c1,c2⟩:=hl
 have hse:=sizeT_eq t
 have hcn:¬w.heap.size=c:=by omega
 have CT:=hid (show Ctr w c n from ⟨c1,c2⟩)
 clear ih hr hv he hg ox oa ov ovs ow op hnd hgs
 have HSP:=hid hsp
 clear hsp
 subst hm0
 obtain ⟨b,o,mj',hja,hA,hbs,g0,gx⟩:=HL.out.get 0 (by omega)
 have h0:t.a[0]? =some t.a[0]:=List.getElem?_eq_getElem (by omega)
 simp only [h0]
 have hq1:=sizeTs_get t.a 0 (by omega)
 have hgx:goodT (!e.isEmpty) t.a[0]:=by have h:=HGS.out.get 0 (by omega);simpa [stepB] using h
 have HGX:=hid hgx
 subst hja
 obtain ⟨j0,j1,j2,j3,j4,j5,j6,j7,j8,j9,ja,jb,jc,jd,je⟩:=At15.1 (show At w b o _ by simpa using g0)
 have hbc:¬b=c:=hA
 clear hgx g0 h0
 rcases hW:wkT f t.a[0] e k n' with _|⟨d,n2⟩
 ·have HW:=hid hW
  clear hW
  go_enter Tryz.func130,Tryz.ntmps130
  go_wp2_with (first
   | (go_at_call 128;refine (spend_any c n k _ (by simp;omega) (by omega) (by omega) (by exact ⟨by go_simp,by go_simp⟩)).mono ?_;rw [HSP.out];rintro e1 w1 ⟨hb1,rfl,hx1,hx2⟩;obtain ⟨hc1,hf1⟩:=ccells hb1;have hz1:=hb1.size;simp at hz1;have hcn1:¬c=w1.heap.size:=(by omega);have hcn2:¬w1.heap.size=c:=(by omega);have hcn3:c < w1.heap.size:=(by omega);have hbs1:b < w1.heap.size:=(by omega);have hws1:w.heap.size < w1.heap.size:=(by omega))
   | (go_at_call 87;refine (IH.out t.a[0] e k n' _ mj' a HGX.out (O.out.get 0 (by omega)) (by omega) HE.out (by omega) (by omega) (by omega) (by simp at *;omega) (by exact ⟨by go_simp,by go_simp⟩) (by exact RT.ext (Agree.but But.z) _ _ gx) (by exact REnv.ext (Agree.but But.z) _ _ HV.out)).2.mono ?_;rw [HW.out];rintro e1 w2 ⟨hb2,rfl⟩))
  exact ⟨rfl,But.z,rfl⟩
 ·have HW:=hid hW
  clear hW
  go_enter Tryz.func130,Tryz.ntmps130
  go_wp2_with (first
   | (go_at_call 128;refine (spend_any c n k _ (by simp;omega) (by omega) (by omega) (by exact ⟨by go_simp,by go_simp⟩)).mono ?_;rw [HSP.out];rintro e1 w1 ⟨hb1,rfl,hx1,hx2⟩;obtain ⟨hc1,hf1⟩:=ccells hb1;have hz1:=hb1.size;simp at hz1;have hcn1:¬c=w1.heap.size:=(by omega);have hcn2:¬w1.heap.size=c:=(by omega);have hcn3:c < w1.heap.size:=(by omega);have hbs1:b < w1.heap.size:=(by omega);have hws1:w.heap.size < w1.heap.size:=(by omega))
   | (go_at_call 87;refine (IH.out t.a[0] e k n' _ mj' a HGX.out (O.out.get 0 (by omega)) (by omega) HE.out (by omega) (by omega) (by omega) (by simp at *;omega) (by exact ⟨by go_simp,by go_simp⟩) (by exact RT.ext (Agree.but But.z) _ _ gx) (by exact REnv.ext (Agree.but But.z) _ _ HV.out)).2.mono ?_;rw [HW.out];rintro e1 w2 ⟨hb2,rfl,hx3,hx4⟩))
  go_ret
  exact ⟨But.z,rfl,by go_simp,by go_simp⟩
set_option maxRecDepth 100000 in
set_option maxHeartbeats 2000000 in
theorem sized_n (c S f:Nat) (hS:S≤1099511627776) (ih:WkIH c S f) (t:GT) (m:Int) (e:Env) (k n:Int) (w:World) (x:TA) (a:Option Addr) (hg:goodT (!e.isEmpty) t) (h10:t.k=10) (ox:okT t) (hs:sizeT t≤S) (he:envOk S e)
  (hm:0≤m∧m≤8) (hk:1≤k∧k≤65536) (hn:0≤n∧n≤4096) (hf:4098≤f+1+n) (hc:c < w.heap.size) (hl:Ctr w c n) (hr:RT w (fun b=>b≠c) t x) (hv:REnv w (fun b=>b≠c) e a) (n':Int) (hn':n'=n+k) (hn2:n'≤4096) (hsp:spendN n k=some n') (hm0:¬m=0) (y:GT) (hx:t.a[1]? =some y) (hW:wkT f y ((t,m - 1)::e) k n'=none):
  Calls Tryz.prog 130 #[.pointer (some ⟨c,0,none⟩),TV t x,.int .i64 m,.pointer a,.int .i64 k] w (WkR c w none):=by
 obtain ⟨ma,mb,mc,md,me,mf,mg,mh,mi,mj,mk,ml⟩:=x
 have IH:=hid ih
 have HL:=hid (RT_iff.1 hr).2.2.2.2
 have HR:=hid hr
 have HV:=hid hv
 have HE:=hid he
 have HG:=hid hg
 have OX:=hid ox
 obtain ⟨⟨x1,x2⟩,ov,⟨ovl,ovs⟩,⟨l1,l2⟩,⟨l3,l4⟩,⟨owl,ow⟩,op,oal,oa⟩:=okT_iff.1 ox
 have O:=hid oa
 obtain ⟨hnd,_,hgs⟩:=goodT_eq.1 hg
 have HGS:=hid hgs
 obtain ⟨ha,_,_⟩:=node_sized hnd h10
 obtain ⟨m0,m1⟩:=hm
 obtain ⟨k0,k1⟩:=hk
 obtain ⟨n0,n1⟩:=hn
 obtain ⟨c1,c2⟩:=hl
 have hse:=sizeT_eq t
 have hcn:¬w.heap.size=c:=by omega
 have CT:=hid (show Ctr w c n from ⟨c1,c2⟩)
 clear ih hr hv he hg ox oa ov ovs ow op hnd hgs
 have HSP:=hid hsp
 clear hsp
 obtain ⟨b,o,mj',hja,hA,hbs,g0,gx⟩:=HL.out.get 1 (by omega)
 have h0:t.a[1]? =some t.a[1]:=List.getElem?_eq_getElem (by omega)
 have hq1:=sizeTs_get t.a 1 (by omega)
 have hxe:y=t.a[1]:=Option.some.inj (hx.symm.trans h0)
 subst hxe
 clear hx
 have hgx:goodT true t.a[1]:=by have h:=HGS.out.get 1 (by omega);simpa [stepB,h10] using h
 have HGX:=hid hgx
 have hm0':(m==0)=false:=by simp [hm0]
 have HM:=hid hm0
 subst hja
 obtain ⟨j0,j1,j2,j3,j4,j5,j6,j7,j8,j9,ja,jb,jc,jd,je⟩:=At15.1 (show At w b (o+15) _ by simpa using g0)
 have hbc:¬b=c:=hA
 have HE2:=hid (show envOk S ((t,m - 1)::e) from ⟨HG.out,h10,OX.out,hs,by omega,by omega,HE.out⟩)
 clear hgx g0 h0 hm0
 have hwm:IntKind.i64.wrap (m - 1)=m - 1:=IntWalk.i64_in _ (by omega)
 have HW:=hid hW
 clear hW
 go_enter Tryz.func130,Tryz.ntmps130
 go_wp2_with (go_at_call 128;refine (spend_any c n k _ (by simp;omega) (by omega) (by omega) (by exact ⟨by go_simp,by go_simp⟩)).mono ?_;rw [HSP.out];rintro e1 w1 ⟨hb1,rfl,hx1,hx2⟩;obtain ⟨hc1,hf1⟩:=ccells hb1;have hz1:=hb1.size;simp at hz1;have hcn1:¬c=w1.heap.size:=(by omega);have hcn2:¬w1.heap.size=c:=(by omega);have hcn3:c < w1.heap.size:=(by omega);have hbs1:b < w1.heap.size:=(by omega);have hws1:w.heap.size < w1.heap.size:=(by omega))
 refine wp_region_any (by kernel_rfl) ?_
 try (change wpAny _ _ _ _ _ _ _ (World.drew _))
 refine ty 0 ?_
 refine ty 1 ?_
 refine ty 6 ?_
 refine ty 7 ?_
 refine ty 8 ?_
 refine ty 11 ?_
 refine wr [2,5] ?_
 refine rc (fun K hK=>?_) ?_
 ·go_simp
  refine hK _ _ ?_
  clear hK K
  refine ty 3 ?_
  refine wr [4,5] ?_
  refine rc (fun K hK=>?_) ?_
  ·go_simp
   refine hK _ _ ?_
   clear hK K
   refine wr1 5 fun K hK=>?_
   go_simp
   refine hK _ _ ?_
   clear hK K
   refine ty 9 ?_
   refine wr1 10 fun K hK=>?_
   go_simp
   refine hK _ _ ?_
   clear hK K
   refine wr1 12 fun K hK=>?_
   go_simp
   go_wp2_with (go_at_call 87;refine (IH.out t.a[1] ((t,m - 1)::e) k n' _ mj' _ HGX.out (O.out.get 1 (by omega)) (by omega) HE2.out (by omega) (by omega) (by omega) (by simp at *;omega) (by exact ⟨by go_simp,by go_simp⟩) (by exact RT.ext (Agree.but But.z) _ _ gx) (by exact REnv.push (x:=⟨ma,mb,mc,md,me,mf,mg,mh,mi,mj,some ⟨b,o,none⟩,ml⟩) (a:=a) (by omega) (At17.2 (by refine ⟨?_,?_,?_,?_,?_,?_,?_,?_,?_,?_,?_,?_,?_,?_,?_,?_,?_⟩<;>go_simp)) (by exact RT.ext (Agree.but But.z) _ _ HR.out) (by exact REnv.ext (Agree.but But.z) _ _ HV.out))).2.mono ?_;rw [HW.out];rintro e1 w2 ⟨hb2,rfl⟩)
   exact ⟨rfl,But.z,rfl⟩
  refine rc (fun K hK=>?_) ?_
  ·go_simp
   refine hK _ _ ?_
   clear hK K
   refine ty 9 ?_
   refine wr [4,10] ?_
   refine rc (fun K hK=>?_) ?_
   ·go_simp
    refine hK _ _ ?_
    clear hK K
    refine wr1 10 fun K hK=>?_
    go_simp
    refine hK _ _ ?_
    clear hK K
    refine wr1 12 fun K hK=>?_
    go_simp
    go_wp2_with (go_at_call 87;refine (IH.out t.a[1] ((t,m - 1)::e) k n' _ mj' _ HGX.out (O.out.get 1 (by omega)) (by omega) HE2.out (by omega) (by omega) (by omega) (by simp at *;omega) (by exact ⟨by go_simp,by go_simp⟩) (by exact RT.ext (Agree.but But.z) _ _ gx) (by exact REnv.push (x:=⟨ma,mb,mc,md,me,mf,mg,mh,mi,mj,some ⟨b,o,none⟩,ml⟩) (a:=a) (by omega) (At17.2 (by refine ⟨?_,?_,?_,?_,?_,?_,?_,?_,?_,?_,?_,?_,?_,?_,?_,?_,?_⟩<;>go_simp)) (by exact RT.ext (Agree.but But.z) _ _ HR.out) (by exact REnv.ext (Agree.but But.z) _ _ HV.out))).2.mono ?_;rw [HW.out];rintro e1 w2 ⟨hb2,rfl⟩)
    exact ⟨rfl,But.z,rfl⟩
   refine rc (fun K hK=>?_) ?_
   ·go_simp
    refine hK _ _ ?_
    clear hK K
    refine wr1 4 fun K hK=>?_
    go_simp
    refine hK _ _ ?_
    clear hK K
    refine wr1 12 fun K hK=>?_
    go_simp
    go_wp2_with (go_at_call 87;refine (IH.out t.a[1] ((t,m - 1)::e) k n' _ mj' _ HGX.out (O.out.get 1 (by omega)) (by omega) HE2.out (by omega) (by omega) (by omega) (by simp at *;omega) (by exact ⟨by go_simp,by go_simp⟩) (by exact RT.ext (Agree.but But.z) _ _ gx) (by exact REnv.push (x:=⟨ma,mb,mc,md,me,mf,mg,mh,mi,mj,some ⟨b,o,none⟩,ml⟩) (a:=a) (by omega) (At17.2 (by refine ⟨?_,?_,?_,?_,?_,?_,?_,?_,?_,?_,?_,?_,?_,?_,?_,?_,?_⟩<;>go_simp)) (by exact RT.ext (Agree.but But.z) _ _ HR.out) (by exact REnv.ext (Agree.but But.z) _ _ HV.out))).2.mono ?_;rw [HW.out];rintro e1 w2 ⟨hb2,rfl⟩)
    exact ⟨rfl,But.z,rfl⟩
   exact AllReady.nil
  exact AllReady.nil
 refine rc (fun K hK=>?_) ?_
 ·go_simp
  refine hK _ _ ?_
  clear hK K
  refine ty 9 ?_
  refine wr [2,10] ?_
  refine rc (fun K hK=>?_) ?_
  ·go_simp
   refine hK _ _ ?_
   clear hK K
   refine ty 3 ?_
   refine wr [4,10] ?_
   refine rc (fun K hK=>?_) ?_
   ·go_simp
    refine hK _ _ ?_
    clear hK K
    refine wr1 10 fun K hK=>?_
    go_simp
    refine hK _ _ ?_
    clear hK K
    refine wr1 12 fun K hK=>?_
    go_simp
    go_wp2_with (go_at_call 87;refine (IH.out t.a[1] ((t,m - 1)::e) k n' _ mj' _ HGX.out (O.out.get 1 (by omega)) (by omega) HE2.out (by omega) (by omega) (by omega) (by simp at *;omega) (by exact ⟨by go_simp,by go_simp⟩) (by exact RT.ext (Agree.but But.z) _ _ gx) (by exact REnv.push (x:=⟨ma,mb,mc,md,me,mf,mg,mh,mi,mj,some ⟨b,o,none⟩,ml⟩) (a:=a) (by omega) (At17.2 (by refine ⟨?_,?_,?_,?_,?_,?_,?_,?_,?_,?_,?_,?_,?_,?_,?_,?_,?_⟩<;>go_simp)) (by exact RT.ext (Agree.but But.z) _ _ HR.out) (by exact REnv.ext (Agree.but But.z) _ _ HV.out))).2.mono ?_;rw [HW.out];rintro e1 w2 ⟨hb2,rfl⟩)
    exact ⟨rfl,But.z,rfl⟩
   refine rc (fun K hK=>?_) ?_
   ·go_simp
    refine hK _ _ ?_
    clear hK K
    refine wr1 4 fun K hK=>?_
    go_simp
    refine hK _ _ ?_
    clear hK K
    refine wr1 12 fun K hK=>?_
    go_simp
    go_wp2_with (go_at_call 87;refine (IH.out t.a[1] ((t,m - 1)::e) k n' _ mj' _ HGX.out (O.out.get 1 (by omega)) (by omega) HE2.out (by omega) (by omega) (by omega) (by simp at *;omega) (by exact ⟨by go_simp,by go_simp⟩) (by exact RT.ext (Agree.but But.z) _ _ gx) (by exact REnv.push (x:=⟨ma,mb,mc,md,me,mf,mg,mh,mi,mj,some ⟨b,o,none⟩,ml⟩) (a:=a) (by omega) (At17.2 (by refine ⟨?_,?_,?_,?_,?_,?_,?_,?_,?_,?_,?_,?_,?_,?_,?_,?_,?_⟩<;>go_simp)) (by exact RT.ext (Agree.but But.z) _ _ HR.out) (by exact REnv.ext (Agree.but But.z) _ _ HV.out))).2.mono ?_;rw [HW.out];rintro e1 w2 ⟨hb2,rfl⟩)
    exact ⟨rfl,But.z,rfl⟩
   exact AllReady.nil
  refine rc (fun K hK=>?_) ?_
  ·go_simp
   refine hK _ _ ?_
   clear hK K
   refine wr1 2 fun K hK=>?_
   go_simp
   refine hK _ _ ?_
   clear hK K
   refine ty 3 ?_
   refine wr1 4 fun K hK=>?_
   go_simp
   refine hK _ _ ?_
   clear hK K
   refine wr1 12 fun K hK=>?_
   go_simp
   go_wp2_with (go_at_call 87;refine (IH.out t.a[1] ((t,m - 1)::e) k n' _ mj' _ HGX.out (O.out.get 1 (by omega)) (by omega) HE2.out (by omega) (by omega) (by omega) (by simp at *;omega) (by exact ⟨by go_simp,by go_simp⟩) (by exact RT.ext (Agree.but But.z) _ _ gx) (by exact REnv.push (x:=⟨ma,mb,mc,md,me,mf,mg,mh,mi,mj,some ⟨b,o,none⟩,ml⟩) (a:=a) (by omega) (At17.2 (by refine ⟨?_,?_,?_,?_,?_,?_,?_,?_,?_,?_,?_,?_,?_,?_,?_,?_,?_⟩<;>go_simp)) (by exact RT.ext (Agree.but But.z) _ _ HR.out) (by exact REnv.ext (Agree.but But.z) _ _ HV.out))).2.mono ?_;rw [HW.out];rintro e1 w2 ⟨hb2,rfl⟩)
   exact ⟨rfl,But.z,rfl⟩
  exact AllReady.nil
 exact AllReady.nil
set_option maxRecDepth 100000 in
set_option maxHeartbeats 2000000 in
theorem sized_s (c S f:Nat) (hS:S≤1099511627776) (ih:WkIH c S f) (t:GT) (m:Int) (e:Env) (k n:Int) (w:World) (x:TA) (a:Option Addr) (hg:goodT (!e.isEmpty) t) (h10:t.k=10) (ox:okT t) (hs:sizeT t≤S) (he:envOk S e)
  (hm:0≤m∧m≤8) (hk:1≤k∧k≤65536) (hn:0≤n∧n≤4096) (hf:4098≤f+1+n) (hc:c < w.heap.size) (hl:Ctr w c n) (hr:RT w (fun b=>b≠c) t x) (hv:REnv w (fun b=>b≠c) e a) (n':Int) (hn':n'=n+k) (hn2:n'≤4096) (hsp:spendN n k=some n') (hm0:¬m=0) (y:GT) (hx:t.a[1]? =some y) (d n2:Int) (hW:wkT f y ((t,m - 1)::e) k n'=some (d,n2)):
  Calls Tryz.prog 130 #[.pointer (some ⟨c,0,none⟩),TV t x,.int .i64 m,.pointer a,.int .i64 k] w (WkR c w (some (d,n2))):=by
 obtain ⟨ma,mb,mc,md,me,mf,mg,mh,mi,mj,mk,ml⟩:=x
 have IH:=hid ih
 have HL:=hid (RT_iff.1 hr).2.2.2.2
 have HR:=hid hr
 have HV:=hid hv
 have HE:=hid he
 have HG:=hid hg
 have OX:=hid ox
 obtain ⟨⟨x1,x2⟩,ov,⟨ovl,ovs⟩,⟨l1,l2⟩,⟨l3,l4⟩,⟨owl,ow⟩,op,oal,oa⟩:=okT_iff.1 ox
 have O:=hid oa
 obtain ⟨hnd,_,hgs⟩:=goodT_eq.1 hg
 have HGS:=hid hgs
 obtain ⟨ha,_,_⟩:=node_sized hnd h10
 obtain ⟨m0,m1⟩:=hm
 obtain ⟨k0,k1⟩:=hk
 obtain ⟨n0,n1⟩:=hn
 obtain ⟨c1,c2⟩:=hl
 have hse:=sizeT_eq t
 have hcn:¬w.heap.size=c:=by omega
 have CT:=hid (show Ctr w c n from ⟨c1,c2⟩)
 clear ih hr hv he hg ox oa ov ovs ow op hnd hgs
 have HSP:=hid hsp
 clear hsp
 obtain ⟨b,o,mj',hja,hA,hbs,g0,gx⟩:=HL.out.get 1 (by omega)
 have h0:t.a[1]? =some t.a[1]:=List.getElem?_eq_getElem (by omega)
 have hq1:=sizeTs_get t.a 1 (by omega)
 have hxe:y=t.a[1]:=Option.some.inj (hx.symm.trans h0)
 subst hxe
 clear hx
 have hgx:goodT true t.a[1]:=by have h:=HGS.out.get 1 (by omega);simpa [stepB,h10] using h
 have HGX:=hid hgx
 have hm0':(m==0)=false:=by simp [hm0]
 have HM:=hid hm0
 subst hja
 obtain ⟨j0,j1,j2,j3,j4,j5,j6,j7,j8,j9,ja,jb,jc,jd,je⟩:=At15.1 (show At w b (o+15) _ by simpa using g0)
 have hbc:¬b=c:=hA
 have HE2:=hid (show envOk S ((t,m - 1)::e) from ⟨HG.out,h10,OX.out,hs,by omega,by omega,HE.out⟩)
 clear hgx g0 h0 hm0
 have hwm:IntKind.i64.wrap (m - 1)=m - 1:=IntWalk.i64_in _ (by omega)
 have HW:=hid hW
 clear hW
 go_enter Tryz.func130,Tryz.ntmps130
 go_wp2_with (go_at_call 128;refine (spend_any c n k _ (by simp;omega) (by omega) (by omega) (by exact ⟨by go_simp,by go_simp⟩)).mono ?_;rw [HSP.out];rintro e1 w1 ⟨hb1,rfl,hx1,hx2⟩;obtain ⟨hc1,hf1⟩:=ccells hb1;have hz1:=hb1.size;simp at hz1;have hcn1:¬c=w1.heap.size:=(by omega);have hcn2:¬w1.heap.size=c:=(by omega);have hcn3:c < w1.heap.size:=(by omega);have hbs1:b < w1.heap.size:=(by omega);have hws1:w.heap.size < w1.heap.size:=(by omega))
 go_region_with (go_at_call 87;refine (IH.out t.a[1] ((t,m - 1)::e) k n' _ mj' _ HGX.out (O.out.get 1 (by omega)) (by omega) HE2.out (by omega) (by omega) (by omega) (by simp at *;omega) (by exact ⟨by go_simp,by go_simp⟩) (by exact RT.ext (Agree.but But.z) _ _ gx) (by exact REnv.push (x:=⟨ma,mb,mc,md,me,mf,mg,mh,mi,mj,some ⟨b,o,none⟩,ml⟩) (a:=a) (by omega) (At17.2 (by refine ⟨?_,?_,?_,?_,?_,?_,?_,?_,?_,?_,?_,?_,?_,?_,?_,?_,?_⟩<;>go_simp)) (by exact RT.ext (Agree.but But.z) _ _ HR.out) (by exact REnv.ext (Agree.but But.z) _ _ HV.out))).2.mono ?_;rw [HW.out];rintro e1 w2 ⟨hb2,rfl,hx3,hx4⟩)
 all_goals go_wp2_with fail
 all_goals go_ret
 all_goals exact ⟨But.z,rfl,by go_simp,by go_simp⟩
set_option maxRecDepth 100000 in
set_option maxHeartbeats 2000000 in
theorem sized_x (c S f:Nat) (hS:S≤1099511627776) (ih:WkIH c S f) (t:GT) (m:Int) (e:Env) (k n:Int) (w:World) (x:TA) (a:Option Addr) (hg:goodT (!e.isEmpty) t) (h10:t.k=10) (ox:okT t) (hs:sizeT t≤S) (he:envOk S e)
  (hm:0≤m∧m≤8) (hk:1≤k∧k≤65536) (hn:0≤n∧n≤4096) (hf:4098≤f+1+n) (hc:c < w.heap.size) (hl:Ctr w c n) (hr:RT w (fun b=>b≠c) t x) (hv:REnv w (fun b=>b≠c) e a) (hsp:spendN n k=none):
  Calls Tryz.prog 130 #[.pointer (some ⟨c,0,none⟩),TV t x,.int .i64 m,.pointer a,.int .i64 k] w (WkR c w none):=by
 obtain ⟨ma,mb,mc,md,me,mf,mg,mh,mi,mj,mk,ml⟩:=x
 have IH:=hid ih
 have HL:=hid (RT_iff.1 hr).2.2.2.2
 have HR:=hid hr
 have HV:=hid hv
 have HE:=hid he
 have HG:=hid hg
 have OX:=hid ox
 obtain ⟨⟨x1,x2⟩,ov,⟨ovl,ovs⟩,⟨l1,l2⟩,⟨l3,l4⟩,⟨owl,ow⟩,op,oal,oa⟩:=okT_iff.1 ox
 have O:=hid oa
 obtain ⟨hnd,_,hgs⟩:=goodT_eq.1 hg
 have HGS:=hid hgs
 obtain ⟨ha,_,_⟩:=node_sized hnd h10
 obtain ⟨m0,m1⟩:=hm
 obtain ⟨k0,k1⟩:=hk
 obtain ⟨n0,n1⟩:=hn
 obtain ⟨c1,c2⟩:=hl
 have hse:=sizeT_eq t
 have hcn:¬w.heap.size=c:=by omega
 have CT:=hid (show Ctr w c n from ⟨c1,c2⟩)
 clear ih hr hv he hg ox oa ov ovs ow op hnd hgs
 have HSP:=hid hsp
 clear hsp
 go_enter Tryz.func130,Tryz.ntmps130
 go_wp2_with (go_at_call 128;refine (spend_any c n k _ (by simp;omega) (by omega) (by omega) (by exact ⟨by go_simp,by go_simp⟩)).mono ?_;rw [HSP.out];rintro e1 w1 ⟨hb1,rfl⟩)
 exact ⟨rfl,But.z,rfl⟩
theorem sized_any (c S f:Nat) (hS:S≤1099511627776) (ih:WkIH c S f) (t:GT) (m:Int) (e:Env) (k n:Int) (w:World) (x:TA) (a:Option Addr) (hg:goodT (!e.isEmpty) t) (h10:t.k=10) (ox:okT t) (hs:sizeT t≤S) (he:envOk S e)
  (hm:0≤m∧m≤8) (hk:1≤k∧k≤65536) (hn:0≤n∧n≤4096) (hf:4098≤f+1+n) (hc:c < w.heap.size) (hl:Ctr w c n) (hr:RT w (fun b=>b≠c) t x) (hv:REnv w (fun b=>b≠c) e a):
  Calls Tryz.prog 130 #[.pointer (some ⟨c,0,none⟩),TV t x,.int .i64 m,.pointer a,.int .i64 k] w (WkR c w (stepS (wkT f) t m e k n)):=by
 unfold stepS
 cases hsp:spendN n k with
 | none=>exact sized_x c S f hS ih t m e k n w x a hg h10 ox hs he hm hk hn hf hc hl hr hv hsp
 | some n'=>
  obtain ⟨hn',hn2⟩:=spendN_some hsp
  obtain ⟨hnd,_,_⟩:=goodT_eq.1 hg
  obtain ⟨ha,_,_⟩:=node_sized hnd h10
  by_cases hm0:m=0
  ·simp only [if_pos hm0]
   exact sized_0 c S f hS ih t m e k n w x a hg h10 ox hs he hm hk hn hf hc hl hr hv n' hn' hn2 hsp hm0
  ·simp only [if_neg hm0]
   cases hx:t.a[1]? with
   | none=>rw [List.getElem?_eq_none_iff] at hx;omega
   | some y=>
    rcases hW:wkT f y ((t,m - 1)::e) k n' with _|⟨d,n2⟩
    ·simp only [hW];exact sized_n c S f hS ih t m e k n w x a hg h10 ox hs he hm hk hn hf hc hl hr hv n' hn' hn2 hsp hm0 y hx hW
    ·simp only [hW];exact sized_s c S f hS ih t m e k n w x a hg h10 ox hs he hm hk hn hf hc hl hr hv n' hn' hn2 hsp hm0 y hx d n2 hW
set_option maxRecDepth 100000 in
set_option maxHeartbeats 2000000 in
theorem term_1 (c S f:Nat) (hS:S≤1099511627776) (t:GT) (e:Env) (k n:Int) (w:World) (x:TA) (a:Option Addr) (ox:okT t) (hs:sizeT t≤S)
  (hk:1≤k∧k≤65536) (hn:0≤n∧n≤4096) (hc:c < w.heap.size) (hl:Ctr w c n) (hr:RT w (fun b=>b≠c) t x) (h1:t.k=1):
  Calls Tryz.prog 87 #[.pointer (some ⟨c,0,none⟩),TV t x,.pointer a,.int .i64 k] w (WkR c w (wkT (f+1) t e k n)):=by
 obtain ⟨ma,mb,mc,md,me,mf,mg,mh,mi,mj,mk,ml⟩:=x
 have HV:=hid (RV_iff.1 (RT_iff.1 hr).1)
 obtain ⟨⟨x1,x2⟩,ov,⟨ovl,ovs⟩,⟨l1,l2⟩,⟨l3,l4⟩,⟨owl,ow⟩,op,oal,oa⟩:=okT_iff.1 ox
 have OV:=hid ov
 obtain ⟨k0,k1⟩:=hk
 obtain ⟨n0,n1⟩:=hn
 obtain ⟨c1,c2⟩:=hl
 have hse:=sizeT_eq t
 have hsv:=sizeV_pos t.v
 have hsv2:sizeV t.v≤1099511627776:=by omega
 have hcn:¬w.heap.size=c:=by omega
 have hk1:(t.k==1)=true:=by simp [h1]
 have hm1:0≤k*(sizeV t.v:Int):=Int.mul_nonneg (by omega) (by omega)
 have hm2:k*(sizeV t.v:Int)≤65536*1099511627776:=Int.mul_le_mul k1 (by omega) (by omega) (by omega)
 have hmw:IntKind.i64.wrap (k*(sizeV t.v:Int))=k*(sizeV t.v:Int):=IntWalk.i64_in _ (by omega)
 generalize hR:wkT (f+1) t e k n=R
 simp only [wkT,if_pos h1] at hR
 clear ox oa ov ovs ow op h1 hr
 have HX:∀(W:World),Ctr W c n→c < W.heap.size→Calls Tryz.prog 128 #[.pointer (some ⟨c,0,none⟩),.int .i64 (k*(sizeV t.v:Int))] W (SpR c W (spendN n (k*(sizeV t.v:Int)))):=fun W h h2=>spend_any c n _ W h2 (by omega) (by omega) h
 have HX':=hid HX
 clear HX
 cases hsp:spendN n (k*(sizeV t.v:Int)) with
 | none=>
  simp only [hsp] at hR
  have HR:=hid hR
  have HSP:=hid hsp
  clear hsp hR
  go_enter Tryz.func87,Tryz.ntmps87
  go_wp2_with (first
   | (go_at_call 84;refine (size_any t.v _ ⟨ma,mb⟩ _ OV.out hsv2 (by exact RVs.ext (Agree.but But.z) _ _ HV.out)).mono ?_;rintro e1 w1 ⟨rfl,hb1⟩;obtain ⟨hc1,hf1⟩:=bcells hb1;have hz1:=hb1.size;simp at hz1;have hcz:c < w1.heap.size:=(by omega))
   | (go_at_call 128;refine (HX'.out _ (by exact ⟨by go_simp,by go_simp⟩) (by omega)).mono ?_;rw [HSP.out];rintro e1 w2 ⟨hb2,rfl⟩))
  rw [←HR.out]
  exact ⟨rfl,But.z,rfl⟩
 | some n'=>
  simp only [hsp] at hR
  have HR:=hid hR
  have HSP:=hid hsp
  clear hsp hR
  go_enter Tryz.func87,Tryz.ntmps87
  go_wp2_with (first
   | (go_at_call 84;refine (size_any t.v _ ⟨ma,mb⟩ _ OV.out hsv2 (by exact RVs.ext (Agree.but But.z) _ _ HV.out)).mono ?_;rintro e1 w1 ⟨rfl,hb1⟩;obtain ⟨hc1,hf1⟩:=bcells hb1;have hz1:=hb1.size;simp at hz1;have hcz:c < w1.heap.size:=(by omega);have hwz:w.heap.size < w1.heap.size:=(by omega))
   | (go_at_call 128;refine (HX'.out _ (by exact ⟨by go_simp,by go_simp⟩) (by omega)).mono ?_;rw [HSP.out];rintro e1 w2 ⟨hb2,rfl,hx1,hx2⟩;obtain ⟨hc2,hf2⟩:=ccells hb2;have hz2:=hb2.size;have hcz2:c < w2.heap.size:=(by omega))
   | (go_at_call 129;refine (deep_any t.v _ ⟨ma,mb⟩ _ OV.out hsv2 (by exact RVs.ext (Agree.but But.z) _ _ HV.out)).mono ?_;rintro e1 w3 ⟨rfl,hb3⟩;obtain ⟨hc3,hf3⟩:=bcells hb3))
  go_ret
  rw [←HR.out]
  exact ⟨But.z,rfl,by go_simp,by go_simp⟩
set_option maxRecDepth 100000 in
set_option maxHeartbeats 2000000 in
theorem term_10 (c S f:Nat) (hS:S≤1099511627776) (ih:WkIH c S f) (t:GT) (e:Env) (k n:Int) (w:World) (x:TA) (a:Option Addr) (hg:goodT (!e.isEmpty) t) (ox:okT t) (hs:sizeT t≤S) (he:envOk S e)
  (hk:1≤k∧k≤65536) (hn:0≤n∧n≤4096) (hf:4098≤f+1+n) (hc:c < w.heap.size) (hl:Ctr w c n) (hr:RT w (fun b=>b≠c) t x) (hv:REnv w (fun b=>b≠c) e a) (h10:t.k=10):
  Calls Tryz.prog 87 #[.pointer (some ⟨c,0,none⟩),TV t x,.pointer a,.int .i64 k] w (WkR c w (wkT (f+1) t e k n)):=by
 obtain ⟨ma,mb,mc,md,me,mf,mg,mh,mi,mj,mk,ml⟩:=x
 have hnd:=(goodT_eq.1 hg).1
 obtain ⟨hla,hlo,hlo8⟩:=node_sized hnd h10
 clear hla
 have HX:=hid (fun (W:World) (h1:c < W.heap.size) (h2:Ctr W c n) (h3:RT W (fun b=>b≠c) t ⟨ma,mb,mc,md,me,mf,mg,mh,mi,mj,mk,ml⟩) (h4:REnv W (fun b=>b≠c) e a)=>sized_any c S f hS ih t t.lo e k n W ⟨ma,mb,mc,md,me,mf,mg,mh,mi,mj,mk,ml⟩ a hg h10 ox hs he ⟨hlo,hlo8⟩ hk hn hf h1 h2 h3 h4)
 have HR:=hid hr
 have HV:=hid hv
 obtain ⟨c1,c2⟩:=hl
 have hcn:¬w.heap.size=c:=by omega
 have hk1:(t.k==1)=false:=by simp [h10]
 have hk11:(t.k==11)=false:=by simp [h10]
 have hk10:(t.k==10)=true:=by simp [h10]
 have hE:wkT (f+1) t e k n=stepS (wkT f) t t.lo e k n:=by simp [wkT,h10]
 rw [hE]
 clear ih hg ox he hr hv hE h10 hnd
 rcases hR:stepS (wkT f) t t.lo e k n with _|⟨d,n2⟩
 ·have HR2:=hid hR
  clear hR
  go_enter Tryz.func87,Tryz.ntmps87
  go_wp2_with (go_at_call 130;refine (HX.out _ (by simp;omega) (by exact ⟨by go_simp,by go_simp⟩) (by exact RT.ext (Agree.but But.z) _ _ HR.out) (by exact REnv.ext (Agree.but But.z) _ _ HV.out)).mono ?_;rw [HR2.out];rintro e1 w2 ⟨hb2,rfl⟩)
  exact ⟨rfl,But.z,rfl⟩
 ·have HR2:=hid hR
  clear hR
  go_enter Tryz.func87,Tryz.ntmps87
  go_wp2_with (go_at_call 130;refine (HX.out _ (by simp;omega) (by exact ⟨by go_simp,by go_simp⟩) (by exact RT.ext (Agree.but But.z) _ _ HR.out) (by exact REnv.ext (Agree.but But.z) _ _ HV.out)).mono ?_;rw [HR2.out];rintro e1 w2 ⟨hb2,rfl,hx1,hx2⟩)
  go_ret
  exact ⟨But.z,rfl,hx1,hx2⟩
set_option maxRecDepth 100000 in
set_option maxHeartbeats 2000000 in
theorem term_11 (c S f:Nat) (hS:S≤1099511627776) (ih:WkIH c S f) (t:GT) (e:Env) (k n:Int) (w:World) (x:TA) (a:Option Addr) (hg:goodT (!e.isEmpty) t) (he:envOk S e)
  (hk:1≤k∧k≤65536) (hn:0≤n∧n≤4096) (hf:4098≤f+1+n) (hc:c < w.heap.size) (hl:Ctr w c n) (hv:REnv w (fun b=>b≠c) e a) (h11:t.k=11):
  Calls Tryz.prog 87 #[.pointer (some ⟨c,0,none⟩),TV t x,.pointer a,.int .i64 k] w (WkR c w (wkT (f+1) t e k n)):=by
 obtain ⟨ma,mb,mc,md,me,mf,mg,mh,mi,mj,mk,ml⟩:=x
 obtain ⟨hnd,hin,_⟩:=goodT_eq.1 hg
 match e,he,hv,hin h11 with
 | (s,m)::up,he,hv,_=>
 obtain ⟨b,⟨xa,xb,xc,xd,xe,xf,xg,xh,xi,xj,xk,xl⟩,a',rfl,hA,hat,hrs,hup⟩:=hv
 obtain ⟨hgs,hs10,hso,hss,hm0,hm8,hue⟩:=he
 have HX:=hid (fun (W:World) (h1:c < W.heap.size) (h2:Ctr W c n) (h3:RT W (fun b=>b≠c) s ⟨xa,xb,xc,xd,xe,xf,xg,xh,xi,xj,xk,xl⟩) (h4:REnv W (fun b=>b≠c) up a')=>sized_any c S f hS ih s m up k n W _ a' hgs hs10 hso hss hue ⟨hm0,hm8⟩ hk hn hf h1 h2 h3 h4)
 obtain ⟨z0,z1,z2,z3,z4,z5,z6,z7,z8,z9,za,zb,zc,zd,ze,zf,zg⟩:=At17.1 hat
 have HR:=hid hrs
 have HV:=hid hup
 obtain ⟨c1,c2⟩:=hl
 have hbl:b < w.heap.size:=World.block_lt_of_cell? _ _ z0
 have hcn:¬w.heap.size=c:=by omega
 have hk1:(t.k==1)=false:=by simp [h11]
 have hk11:(t.k==11)=true:=by simp [h11]
 have hE:wkT (f+1) t ((s,m)::up) k n=stepS (wkT f) s m up k n:=by simp [wkT,h11]
 rw [hE]
 clear ih hg hE h11 hnd hgs hs10 hso hue hat hrs hup hin
 rcases hR:stepS (wkT f) s m up k n with _|⟨d,n2⟩
 ·have HR2:=hid hR
  clear hR
  go_enter Tryz.func87,Tryz.ntmps87
  go_wp2_with fail
  refine wp_tail 14 (by kernel_rfl) (by kernel_rfl) ?_
  simp only [List.take_succ_cons,List.take_zero,List.drop_succ_cons,List.drop_zero]
  repeat still_step
  refine wpStill_nil ?_
  go_wp2_with (go_at_call 130;refine (HX.out _ (by simp;omega) (by exact ⟨by go_simp,by go_simp⟩) (by exact RT.ext (Agree.but But.z) _ _ HR.out) (by exact REnv.ext (Agree.but But.z) _ _ HV.out)).mono ?_;rw [HR2.out];rintro e1 w2 ⟨hb2,rfl⟩)
  exact ⟨rfl,But.z,rfl⟩
 ·have HR2:=hid hR
  clear hR
  go_enter Tryz.func87,Tryz.ntmps87
  go_wp2_with fail
  refine wp_tail 14 (by kernel_rfl) (by kernel_rfl) ?_
  simp only [List.take_succ_cons,List.take_zero,List.drop_succ_cons,List.drop_zero]
  repeat still_step
  refine wpStill_nil ?_
  go_wp2_with (go_at_call 130;refine (HX.out _ (by simp;omega) (by exact ⟨by go_simp,by go_simp⟩) (by exact RT.ext (Agree.but But.z) _ _ HR.out) (by exact REnv.ext (Agree.but But.z) _ _ HV.out)).mono ?_;rw [HR2.out];rintro e1 w2 ⟨hb2,rfl,hx1,hx2⟩)
  go_ret
  exact ⟨But.z,rfl,hx1,hx2⟩
end Go.Proofs.YtclphfojkggcpaaGreat
