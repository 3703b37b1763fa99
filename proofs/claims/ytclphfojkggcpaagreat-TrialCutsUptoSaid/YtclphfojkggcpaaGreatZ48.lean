/- What the proofs of the Trial statements need: part 49. -/
import Derived.Deep.RegionHeld2
import Derived.Test.YtclphfojkggcpaaGreatZ16
import Derived.Test.YtclphfojkggcpaaGreatZ29
import Derived.Test.YtclphfojkggcpaaGreatZTk
set_option linter.unusedVariables false
set_option linter.unusedSimpArgs false
namespace Go.Proofs.YtclphfojkggcpaaGreat
open Go.Lib (hid)
open Go Go.RowKit
set_option maxRecDepth 100000 in
set_option maxHeartbeats 2000000 in
theorem sam_sized0 (c:Nat) (s:ByteArray) (S f:Nat) (ih:SamIH c s S f) (t:GT) (e:Env) (i:Nat) (w:World) (x:TA) (a:Option Addr) (hg:goodT (!e.isEmpty) t) (h10:t.k=10) (ox:okT t) (hs:sizeT t≤S) (he:envOk S e) (hi:i≤s.size)
  (hwk:∀y,t.a[0]? =some y→∃k n,wkT f y e k n≠none) (hc:Cur w c s i false) (hr:RT w (fun b=>b≠c) t x) (hv:REnv w (fun b=>b≠c) e a):
  Calls Tryz.prog 105 #[.agg #[.pointer (some ⟨c,0,none⟩)],TV t x,.int .i64 0,.pointer a] w (SamR c s (atD (fun y=>sampT s f y e) t.a 0 i) w):=by
 obtain ⟨ma,mb,mc,md,me,mf,mg,mh,mi,mj,mk,ml⟩:=x
 have IH:=hid ih
 have HL:=hid (RT_iff.1 hr).2.2.2.2
 have HV:=hid hv
 have HE:=hid he
 have HC:=hid hc
 have hcs:c < w.heap.size:=World.block_lt_of_cell? _ _ hc.1.1
 obtain ⟨⟨x1,x2⟩,ov,⟨ovl,ovs⟩,⟨l1,l2⟩,⟨l3,l4⟩,⟨owl,ow⟩,op,oal,oa⟩:=okT_iff.1 ox
 have O:=hid oa
 obtain ⟨hnd,_,hgs⟩:=goodT_eq.1 hg
 have HGS:=hid hgs
 obtain ⟨ha,_,_⟩:=node_sized hnd h10
 have hal:0 < t.a.length:=by omega
 have hse:=sizeT_eq t
 have h0:t.a[0]? =some t.a[0]:=List.getElem?_eq_getElem (by omega)
 have HWK:=hid (hwk _ h0)
 have hat:atD (fun y=>sampT s f y e) t.a 0 i=sampT s f t.a[0] e i:=by unfold atD;rw [h0]
 rw [hat]
 have hq1:=sizeTs_get t.a 0 (by omega)
 have hgx:goodT (!e.isEmpty) t.a[0]:=by have h:=HGS.out.get 0 (by omega);simpa [stepB] using h
 have HGX:=hid hgx
 obtain ⟨b,o,mj',hja,hA,hbs,g0,gx⟩:=HL.out.get 0 (by omega)
 subst hja
 obtain ⟨j0,j1,j2,j3,j4,j5,j6,j7,j8,j9,ja,jb,jc,jd,je⟩:=At15.1 (show At w b o _ by simpa using g0)
 have hbc:¬b=c:=hA
 have hbs1:b < w.heap.size+1:=by omega
 have hbs2:b < w.heap.size+1+1:=by omega
 clear ih hr hv he hg ox oa ov ovs ow op hnd hgs hwk hc h0 hat hgx g0 ha h10
 rcases hW:sampT s f t.a[0] e i with ⟨v,q⟩|⟨k⟩
 ·have HW:=hid hW
  clear hW
  go_enter Tryz.func105,Tryz.ntmps105
  go_wp2_with fail
  refine wp_tail 6 (by kernel_rfl) (by kernel_rfl) ?_
  simp only [List.take_succ_cons,List.take_zero,List.drop_succ_cons,List.drop_zero]
  repeat still_step
  refine wpStill_nil ?_
  go_wp2_with (go_at_call 64;refine (IH.out t.a[0] e i _ mj' a HGX.out (O.out.get 0 (by omega)) (by omega) HE.out hi HWK.out (by exact Cur.below (B:=w.heap.size) Below.z hcs HC.out) (by exact RT.ext (Agree.but But.z) _ _ gx) (by exact REnv.ext (Agree.but But.z) _ _ HV.out)).mono ?_;rw [HW.out];(rintro e1 w2 ⟨hb2,⟨m2,rfl,hrv⟩,hc2⟩;have HRV:=hid hrv;have HC2:=hid hc2;clear hrv hc2;have hz2:=hb2.size;(try simp at hz2);have hbb:But c w.heap.size w w2:=But.z;have rq0:w2.cell? ⟨w.heap.size+1+1,0,none⟩=some (.int .u8 0):=(hb2.cell so (by simp;omega)).trans (by go_simp);have rq1:w2.cell? ⟨w.heap.size+1+1,1,none⟩=some (.int .i64 0):=(hb2.cell so (by simp;omega)).trans (by go_simp);have rq2:w2.cell? ⟨w.heap.size+1+1,2,none⟩=some (.slice none 0 0):=(hb2.cell so (by simp;omega)).trans (by go_simp);have rf0:w2.frozen? ⟨w.heap.size+1+1,0,none⟩=false:=(hb2.frozen so (by simp;omega)).trans (by go_simp);have rf1:w2.frozen? ⟨w.heap.size+1+1,1,none⟩=false:=(hb2.frozen so (by simp;omega)).trans (by go_simp);have rf2:w2.frozen? ⟨w.heap.size+1+1,2,none⟩=false:=(hb2.frozen so (by simp;omega)).trans (by go_simp);have hz3:w.heap.size+1+1 < w2.heap.size:=(by omega)))
  refine bodyPost_ret (v:=VV v m2) (by first|(simp [results,Tryz.f105,go_sem];done)|(simp [results,Tryz.f105,go_sem,rq0,rq1,rq2,rf0,rf1,rf2,hz3];done)) rfl ?_
  exact ⟨But.z,⟨m2,rfl,RV.mono (fun b hb _=>by (try simp at hb);omega) _ _ (RV.ext (((Agree.set so).trans (Agree.set so)).trans (Agree.set so)) _ _ HRV.out)⟩,Cur.below (B:=w.heap.size) Below.z hcs HC2.out⟩
 ·have HW:=hid hW
  clear hW
  go_enter Tryz.func105,Tryz.ntmps105
  go_wp2_with fail
  refine wp_tail 6 (by kernel_rfl) (by kernel_rfl) ?_
  simp only [List.take_succ_cons,List.take_zero,List.drop_succ_cons,List.drop_zero]
  repeat still_step
  refine wpStill_nil ?_
  go_wp2_with (go_at_call 64;refine (IH.out t.a[0] e i _ mj' a HGX.out (O.out.get 0 (by omega)) (by omega) HE.out hi HWK.out (by exact Cur.below (B:=w.heap.size) Below.z hcs HC.out) (by exact RT.ext (Agree.but But.z) _ _ gx) (by exact REnv.ext (Agree.but But.z) _ _ HV.out)).mono ?_;rw [HW.out];rintro e1 w2 ⟨hb2,rfl⟩)
  exact ⟨rfl,But.z,rfl⟩
set_option maxRecDepth 100000 in
set_option maxHeartbeats 16000000 in
theorem sam_sized1 (c:Nat) (s:ByteArray) (S f:Nat) (ih:SamIH c s S f) (t:GT) (e:Env) (i:Nat) (w:World) (x:TA) (a:Option Addr) (hg:goodT (!e.isEmpty) t) (h10:t.k=10) (ox:okT t) (hs:sizeT t≤S) (he:envOk S e) (hi:i≤s.size) (m:Int) (hm:0≤m∧m≤8) (hm0:¬m=0)
  (hwk:∀y,t.a[1]? =some y→∃k n,wkT f y ((t,m - 1)::e) k n≠none) (hc:Cur w c s i false) (hr:RT w (fun b=>b≠c) t x) (hv:REnv w (fun b=>b≠c) e a) (v:GV) (q:Nat) (hat:atD (fun y=>sampT s f y ((t,m - 1)::e)) t.a 1 i=.ok v q):
  Calls Tryz.prog 105 #[.agg #[.pointer (some ⟨c,0,none⟩)],TV t x,.int .i64 m,.pointer a] w (SamR c s (.ok v q) w):=by
 obtain ⟨ma,mb,mc,md,me,mf,mg,mh,mi,mj,mk,ml⟩:=x
 have IH:=hid ih
 have HL:=hid (RT_iff.1 hr).2.2.2.2
 have HR:=hid hr
 have HV:=hid hv
 have HE:=hid he
 have HC:=hid hc
 have hcs:c < w.heap.size:=World.block_lt_of_cell? _ _ hc.1.1
 obtain ⟨⟨x1,x2⟩,ov,⟨ovl,ovs⟩,⟨l1,l2⟩,⟨l3,l4⟩,⟨owl,ow⟩,op,oal,oa⟩:=okT_iff.1 ox
 have O:=hid oa
 obtain ⟨hnd,_,hgs⟩:=goodT_eq.1 hg
 have HGS:=hid hgs
 obtain ⟨ha,_,_⟩:=node_sized hnd h10
 have hal:1 < t.a.length:=by omega
 have halI:(1:Int) < (t.a.length:Int):=by omega
 have hse:=sizeT_eq t
 have h0:t.a[1]? =some t.a[1]:=List.getElem?_eq_getElem (by omega)
 have HWK:=hid (hwk _ h0)
 have hW:sampT s f t.a[1] ((t,m - 1)::e) i=.ok v q:=by unfold atD at hat;rw [h0] at hat;exact hat
 have hq1:=sizeTs_get t.a 1 (by omega)
 have hgx:goodT true t.a[1]:=by have h:=HGS.out.get 1 (by omega);simpa [stepB,h10] using h
 have HGX:=hid hgx
 obtain ⟨b,o,mj',hja,hA,hbs,g0,gx⟩:=HL.out.get 1 (by omega)
 subst hja
 obtain ⟨j0,j1,j2,j3,j4,j5,j6,j7,j8,j9,ja,jb,jc,jd,je⟩:=At15.1 (show At w b (o+15) _ by simpa using g0)
 have hbc:¬b=c:=hA
 have hbs1:b < w.heap.size+1:=by omega
 have hbs2:b < w.heap.size+1+1:=by omega
 have HE2:=hid (show envOk S ((t,m - 1)::e) from ⟨hg,h10,ox,hs,by omega,by omega,he⟩)
 have hm0':(m==0)=false:=by simp [hm0]
 have hwm:IntKind.i64.wrap (m - 1)=m - 1:=IntWalk.i64_in _ (by omega)
 obtain ⟨m0,m1⟩:=hm
 clear hm0
 clear ih hr hv he hg ox oa ov ovs ow op hnd hgs hwk hc h0 hat hgx g0 ha h10
 have HW:=hid hW
 clear hW
 go_enter Tryz.func105,Tryz.ntmps105
 go_wp2_with fail
 refine wp_region_held_drew (S:=(fun W=>W.cell? ⟨w.heap.size,0,none⟩=some (.pointer (some ⟨c,0,none⟩))∧W.cell? ⟨w.heap.size+1,14,none⟩=some (.slice (some ⟨b,o,none⟩) t.a.length ml))) (by kernel_rfl) ?_ (fun hHeld=>?_)
 ·((try dsimp only);(refine ⟨?_,?_⟩<;>go_simp))
 refine tzh 0 ?_
 try simp only [Act.put,sl,s0,ss]
 refine tzh 1 ?_
 try simp only [Act.put,sl,s0,ss]
 refine tzh 2 ?_
 try simp only [Act.put,sl,s0,ss]
 refine tzh 3 ?_
 try simp only [Act.put,sl,s0,ss]
 refine tzh 6 ?_
 try simp only [Act.put,sl,s0,ss]
 refine tzh 7 ?_
 try simp only [Act.put,sl,s0,ss]
 refine tzh 8 ?_
 try simp only [Act.put,sl,s0,ss]
 refine wrh [4,5] ?_
 refine rch (fun K hK=>?_) ?_
 ·go_simp
  refine hK.out _ _ ?_ (fun hHeld=>?_)
  ·((try dsimp only);(refine ⟨?_,?_⟩<;>go_simp))
  clear hK K
  refine wrh1 5 fun K hK=>?_
  go_simp
  refine hK.out _ _ ?_ (fun hHeld=>?_)
  ·((try dsimp only);(refine ⟨?_,?_⟩<;>go_simp))
  clear hK K
  refine tzh 9 ?_
  try simp only [Act.put,sl,s0,ss]
  refine wrh1 10 fun K hK=>?_
  go_simp
  refine hK.out _ _ ?_ (fun hHeld=>?_)
  ·((try dsimp only);(refine ⟨?_,?_⟩<;>go_simp))
  clear hK K
  refine wrh1 11 fun K hK=>?_
  go_simp
  go_wp2_with (go_at_call 64;refine (IH.out t.a[1] ((t,m - 1)::e) i _ mj' _ HGX.out (O.out.get 1 (by omega)) (by omega) HE2.out hi HWK.out (by exact Cur.below (B:=w.heap.size) Below.z hcs HC.out) (by exact RT.ext (Agree.but But.z) _ _ gx) (by exact REnv.push (x:=⟨ma,mb,mc,md,me,mf,mg,mh,mi,mj,some ⟨b,o,none⟩,ml⟩) (a:=a) (by omega) (At17.2 (by refine ⟨?_,?_,?_,?_,?_,?_,?_,?_,?_,?_,?_,?_,?_,?_,?_,?_,?_⟩<;>go_simp)) (by exact RT.ext (Agree.but But.z) _ _ HR.out) (by exact REnv.ext (Agree.but But.z) _ _ HV.out))).mono ?_;rw [HW.out];(rintro e1 w2 ⟨hb2,⟨m2,rfl,hrv⟩,hc2⟩;have HRV:=hid hrv;have HC2:=hid hc2;clear hrv hc2;have hz2:=hb2.size;(try simp at hz2);have hbb:But c w.heap.size w w2:=But.z;have rq0:w2.cell? ⟨w.heap.size+1+1,0,none⟩=some (.int .u8 0):=(hb2.cell so (by simp;omega)).trans (by go_simp);have rq1:w2.cell? ⟨w.heap.size+1+1,1,none⟩=some (.int .i64 0):=(hb2.cell so (by simp;omega)).trans (by go_simp);have rq2:w2.cell? ⟨w.heap.size+1+1,2,none⟩=some (.slice none 0 0):=(hb2.cell so (by simp;omega)).trans (by go_simp);have rf0:w2.frozen? ⟨w.heap.size+1+1,0,none⟩=false:=(hb2.frozen so (by simp;omega)).trans (by go_simp);have rf1:w2.frozen? ⟨w.heap.size+1+1,1,none⟩=false:=(hb2.frozen so (by simp;omega)).trans (by go_simp);have rf2:w2.frozen? ⟨w.heap.size+1+1,2,none⟩=false:=(hb2.frozen so (by simp;omega)).trans (by go_simp);have hz3:w.heap.size+1+1 < w2.heap.size:=(by omega));have s20:w2.cell? ⟨w.heap.size,0,none⟩=some (.pointer (some ⟨c,0,none⟩)):=(hb2.cell so (by simp;omega)).trans (by go_simp);have s214:w2.cell? ⟨w.heap.size+1,14,none⟩=some (.slice (some ⟨b,o,none⟩) t.a.length ml):=(hb2.cell so (by simp;omega)).trans (by go_simp))
  refine hK.out _ _ ?_ (fun hHeld=>?_)
  ·((try dsimp only);(refine ⟨?_,?_⟩<;>go_simp))
  clear hK K
  refine wrh1 12 fun K hK=>?_
  go_simp
  refine hK.out _ _ ?_ (fun hHeld=>?_)
  ·((try dsimp only);(refine ⟨?_,?_⟩<;>go_simp))
  clear hK K
  refine wpAnyH_done (by kernel_rfl) ?_ _
  (go_wp2_with fail;refine bodyPost_ret (v:=VV v m2) (by first|(simp [results,Tryz.f105,go_sem];done)|(simp [results,Tryz.f105,go_sem,rq0,rq1,rq2,rf0,rf1,rf2,hz3];done)) rfl ?_;exact ⟨But.z,⟨m2,rfl,RV.mono (fun b hb _=>by (try simp at hb);omega) _ _ (RV.ext (((Agree.set so).trans (Agree.set so)).trans (Agree.set so)) _ _ HRV.out)⟩,Cur.below (B:=w.heap.size) Below.z hcs HC2.out⟩)
 refine rch (fun K hK=>?_) ?_
 ·go_simp
  refine hK.out _ _ ?_ (fun hHeld=>?_)
  ·((try dsimp only);(refine ⟨?_,?_⟩<;>go_simp))
  clear hK K
  refine tzh 9 ?_
  try simp only [Act.put,sl,s0,ss]
  refine wrh [4,10] ?_
  refine rch (fun K hK=>?_) ?_
  ·go_simp
   refine hK.out _ _ ?_ (fun hHeld=>?_)
   ·((try dsimp only);(refine ⟨?_,?_⟩<;>go_simp))
   clear hK K
   refine wrh1 10 fun K hK=>?_
   go_simp
   refine hK.out _ _ ?_ (fun hHeld=>?_)
   ·((try dsimp only);(refine ⟨?_,?_⟩<;>go_simp))
   clear hK K
   refine wrh1 11 fun K hK=>?_
   go_simp
   go_wp2_with (go_at_call 64;refine (IH.out t.a[1] ((t,m - 1)::e) i _ mj' _ HGX.out (O.out.get 1 (by omega)) (by omega) HE2.out hi HWK.out (by exact Cur.below (B:=w.heap.size) Below.z hcs HC.out) (by exact RT.ext (Agree.but But.z) _ _ gx) (by exact REnv.push (x:=⟨ma,mb,mc,md,me,mf,mg,mh,mi,mj,some ⟨b,o,none⟩,ml⟩) (a:=a) (by omega) (At17.2 (by refine ⟨?_,?_,?_,?_,?_,?_,?_,?_,?_,?_,?_,?_,?_,?_,?_,?_,?_⟩<;>go_simp)) (by exact RT.ext (Agree.but But.z) _ _ HR.out) (by exact REnv.ext (Agree.but But.z) _ _ HV.out))).mono ?_;rw [HW.out];(rintro e1 w2 ⟨hb2,⟨m2,rfl,hrv⟩,hc2⟩;have HRV:=hid hrv;have HC2:=hid hc2;clear hrv hc2;have hz2:=hb2.size;(try simp at hz2);have hbb:But c w.heap.size w w2:=But.z;have rq0:w2.cell? ⟨w.heap.size+1+1,0,none⟩=some (.int .u8 0):=(hb2.cell so (by simp;omega)).trans (by go_simp);have rq1:w2.cell? ⟨w.heap.size+1+1,1,none⟩=some (.int .i64 0):=(hb2.cell so (by simp;omega)).trans (by go_simp);have rq2:w2.cell? ⟨w.heap.size+1+1,2,none⟩=some (.slice none 0 0):=(hb2.cell so (by simp;omega)).trans (by go_simp);have rf0:w2.frozen? ⟨w.heap.size+1+1,0,none⟩=false:=(hb2.frozen so (by simp;omega)).trans (by go_simp);have rf1:w2.frozen? ⟨w.heap.size+1+1,1,none⟩=false:=(hb2.frozen so (by simp;omega)).trans (by go_simp);have rf2:w2.frozen? ⟨w.heap.size+1+1,2,none⟩=false:=(hb2.frozen so (by simp;omega)).trans (by go_simp);have hz3:w.heap.size+1+1 < w2.heap.size:=(by omega));have s20:w2.cell? ⟨w.heap.size,0,none⟩=some (.pointer (some ⟨c,0,none⟩)):=(hb2.cell so (by simp;omega)).trans (by go_simp);have s214:w2.cell? ⟨w.heap.size+1,14,none⟩=some (.slice (some ⟨b,o,none⟩) t.a.length ml):=(hb2.cell so (by simp;omega)).trans (by go_simp))
   refine hK.out _ _ ?_ (fun hHeld=>?_)
   ·((try dsimp only);(refine ⟨?_,?_⟩<;>go_simp))
   clear hK K
   refine wrh1 12 fun K hK=>?_
   go_simp
   refine hK.out _ _ ?_ (fun hHeld=>?_)
   ·((try dsimp only);(refine ⟨?_,?_⟩<;>go_simp))
   clear hK K
   refine wpAnyH_done (by kernel_rfl) ?_ _
   (go_wp2_with fail;refine bodyPost_ret (v:=VV v m2) (by first|(simp [results,Tryz.f105,go_sem];done)|(simp [results,Tryz.f105,go_sem,rq0,rq1,rq2,rf0,rf1,rf2,hz3];done)) rfl ?_;exact ⟨But.z,⟨m2,rfl,RV.mono (fun b hb _=>by (try simp at hb);omega) _ _ (RV.ext (((Agree.set so).trans (Agree.set so)).trans (Agree.set so)) _ _ HRV.out)⟩,Cur.below (B:=w.heap.size) Below.z hcs HC2.out⟩)
  refine rch (fun K hK=>?_) ?_
  ·go_simp
   refine hK.out _ _ ?_ (fun hHeld=>?_)
   ·((try dsimp only);(refine ⟨?_,?_⟩<;>go_simp))
   clear hK K
   refine wrh1 4 fun K hK=>?_
   go_simp
   refine hK.out _ _ ?_ (fun hHeld=>?_)
   ·((try dsimp only);(refine ⟨?_,?_⟩<;>go_simp))
   clear hK K
   refine wrh1 11 fun K hK=>?_
   go_simp
   go_wp2_with (go_at_call 64;refine (IH.out t.a[1] ((t,m - 1)::e) i _ mj' _ HGX.out (O.out.get 1 (by omega)) (by omega) HE2.out hi HWK.out (by exact Cur.below (B:=w.heap.size) Below.z hcs HC.out) (by exact RT.ext (Agree.but But.z) _ _ gx) (by exact REnv.push (x:=⟨ma,mb,mc,md,me,mf,mg,mh,mi,mj,some ⟨b,o,none⟩,ml⟩) (a:=a) (by omega) (At17.2 (by refine ⟨?_,?_,?_,?_,?_,?_,?_,?_,?_,?_,?_,?_,?_,?_,?_,?_,?_⟩<;>go_simp)) (by exact RT.ext (Agree.but But.z) _ _ HR.out) (by exact REnv.ext (Agree.but But.z) _ _ HV.out))).mono ?_;rw [HW.out];(rintro e1 w2 ⟨hb2,⟨m2,rfl,hrv⟩,hc2⟩;have HRV:=hid hrv;have HC2:=hid hc2;clear hrv hc2;have hz2:=hb2.size;(try simp at hz2);have hbb:But c w.heap.size w w2:=But.z;have rq0:w2.cell? ⟨w.heap.size+1+1,0,none⟩=some (.int .u8 0):=(hb2.cell so (by simp;omega)).trans (by go_simp);have rq1:w2.cell? ⟨w.heap.size+1+1,1,none⟩=some (.int .i64 0):=(hb2.cell so (by simp;omega)).trans (by go_simp);have rq2:w2.cell? ⟨w.heap.size+1+1,2,none⟩=some (.slice none 0 0):=(hb2.cell so (by simp;omega)).trans (by go_simp);have rf0:w2.frozen? ⟨w.heap.size+1+1,0,none⟩=false:=(hb2.frozen so (by simp;omega)).trans (by go_simp);have rf1:w2.frozen? ⟨w.heap.size+1+1,1,none⟩=false:=(hb2.frozen so (by simp;omega)).trans (by go_simp);have rf2:w2.frozen? ⟨w.heap.size+1+1,2,none⟩=false:=(hb2.frozen so (by simp;omega)).trans (by go_simp);have hz3:w.heap.size+1+1 < w2.heap.size:=(by omega));have s20:w2.cell? ⟨w.heap.size,0,none⟩=some (.pointer (some ⟨c,0,none⟩)):=(hb2.cell so (by simp;omega)).trans (by go_simp);have s214:w2.cell? ⟨w.heap.size+1,14,none⟩=some (.slice (some ⟨b,o,none⟩) t.a.length ml):=(hb2.cell so (by simp;omega)).trans (by go_simp))
   refine hK.out _ _ ?_ (fun hHeld=>?_)
   ·((try dsimp only);(refine ⟨?_,?_⟩<;>go_simp))
   clear hK K
   refine wrh1 12 fun K hK=>?_
   go_simp
   refine hK.out _ _ ?_ (fun hHeld=>?_)
   ·((try dsimp only);(refine ⟨?_,?_⟩<;>go_simp))
   clear hK K
   refine wpAnyH_done (by kernel_rfl) ?_ _
   (go_wp2_with fail;refine bodyPost_ret (v:=VV v m2) (by first|(simp [results,Tryz.f105,go_sem];done)|(simp [results,Tryz.f105,go_sem,rq0,rq1,rq2,rf0,rf1,rf2,hz3];done)) rfl ?_;exact ⟨But.z,⟨m2,rfl,RV.mono (fun b hb _=>by (try simp at hb);omega) _ _ (RV.ext (((Agree.set so).trans (Agree.set so)).trans (Agree.set so)) _ _ HRV.out)⟩,Cur.below (B:=w.heap.size) Below.z hcs HC2.out⟩)
  exact AllReadyH.nil
 exact AllReadyH.nil
set_option maxRecDepth 100000 in
set_option maxHeartbeats 16000000 in
theorem sam_sized2 (c:Nat) (s:ByteArray) (S f:Nat) (ih:SamIH c s S f) (t:GT) (e:Env) (i:Nat) (w:World) (x:TA) (a:Option Addr) (hg:goodT (!e.isEmpty) t) (h10:t.k=10) (ox:okT t) (hs:sizeT t≤S) (he:envOk S e) (hi:i≤s.size) (m:Int) (hm:0≤m∧m≤8) (hm0:¬m=0)
  (hwk:∀y,t.a[1]? =some y→∃k n,wkT f y ((t,m - 1)::e) k n≠none) (hc:Cur w c s i false) (hr:RT w (fun b=>b≠c) t x) (hv:REnv w (fun b=>b≠c) e a) (k:Nat) (hat:atD (fun y=>sampT s f y ((t,m - 1)::e)) t.a 1 i=.no k):
  Calls Tryz.prog 105 #[.agg #[.pointer (some ⟨c,0,none⟩)],TV t x,.int .i64 m,.pointer a] w (SamR c s (.no k) w):=by
 obtain ⟨ma,mb,mc,md,me,mf,mg,mh,mi,mj,mk,ml⟩:=x
 have IH:=hid ih
 have HL:=hid (RT_iff.1 hr).2.2.2.2
 have HR:=hid hr
 have HV:=hid hv
 have HE:=hid he
 have HC:=hid hc
 have hcs:c < w.heap.size:=World.block_lt_of_cell? _ _ hc.1.1
 obtain ⟨⟨x1,x2⟩,ov,⟨ovl,ovs⟩,⟨l1,l2⟩,⟨l3,l4⟩,⟨owl,ow⟩,op,oal,oa⟩:=okT_iff.1 ox
 have O:=hid oa
 obtain ⟨hnd,_,hgs⟩:=goodT_eq.1 hg
 have HGS:=hid hgs
 obtain ⟨ha,_,_⟩:=node_sized hnd h10
 have hal:1 < t.a.length:=by omega
 have halI:(1:Int) < (t.a.length:Int):=by omega
 have hse:=sizeT_eq t
 have h0:t.a[1]? =some t.a[1]:=List.getElem?_eq_getElem (by omega)
 have HWK:=hid (hwk _ h0)
 have hW:sampT s f t.a[1] ((t,m - 1)::e) i=.no k:=by unfold atD at hat;rw [h0] at hat;exact hat
 have hq1:=sizeTs_get t.a 1 (by omega)
 have hgx:goodT true t.a[1]:=by have h:=HGS.out.get 1 (by omega);simpa [stepB,h10] using h
 have HGX:=hid hgx
 obtain ⟨b,o,mj',hja,hA,hbs,g0,gx⟩:=HL.out.get 1 (by omega)
 subst hja
 obtain ⟨j0,j1,j2,j3,j4,j5,j6,j7,j8,j9,ja,jb,jc,jd,je⟩:=At15.1 (show At w b (o+15) _ by simpa using g0)
 have hbc:¬b=c:=hA
 have hbs1:b < w.heap.size+1:=by omega
 have hbs2:b < w.heap.size+1+1:=by omega
 have HE2:=hid (show envOk S ((t,m - 1)::e) from ⟨hg,h10,ox,hs,by omega,by omega,he⟩)
 have hm0':(m==0)=false:=by simp [hm0]
 have hwm:IntKind.i64.wrap (m - 1)=m - 1:=IntWalk.i64_in _ (by omega)
 obtain ⟨m0,m1⟩:=hm
 clear hm0
 clear ih hr hv he hg ox oa ov ovs ow op hnd hgs hwk hc h0 hat hgx g0 ha h10
 have HW:=hid hW
 clear hW
 go_enter Tryz.func105,Tryz.ntmps105
 go_wp2_with fail
 refine wp_region_held_drew (S:=(fun W=>W.cell? ⟨w.heap.size,0,none⟩=some (.pointer (some ⟨c,0,none⟩))∧W.cell? ⟨w.heap.size+1,14,none⟩=some (.slice (some ⟨b,o,none⟩) t.a.length ml))) (by kernel_rfl) ?_ (fun hHeld=>?_)
 ·((try dsimp only);(refine ⟨?_,?_⟩<;>go_simp))
 refine tzh 0 ?_
 try simp only [Act.put,sl,s0,ss]
 refine tzh 1 ?_
 try simp only [Act.put,sl,s0,ss]
 refine tzh 2 ?_
 try simp only [Act.put,sl,s0,ss]
 refine tzh 3 ?_
 try simp only [Act.put,sl,s0,ss]
 refine tzh 6 ?_
 try simp only [Act.put,sl,s0,ss]
 refine tzh 7 ?_
 try simp only [Act.put,sl,s0,ss]
 refine tzh 8 ?_
 try simp only [Act.put,sl,s0,ss]
 refine wrh [4,5] ?_
 refine rch (fun K hK=>?_) ?_
 ·go_simp
  refine hK.out _ _ ?_ (fun hHeld=>?_)
  ·((try dsimp only);(refine ⟨?_,?_⟩<;>go_simp))
  clear hK K
  refine wrh1 5 fun K hK=>?_
  go_simp
  refine hK.out _ _ ?_ (fun hHeld=>?_)
  ·((try dsimp only);(refine ⟨?_,?_⟩<;>go_simp))
  clear hK K
  refine tzh 9 ?_
  try simp only [Act.put,sl,s0,ss]
  refine wrh1 10 fun K hK=>?_
  go_simp
  refine hK.out _ _ ?_ (fun hHeld=>?_)
  ·((try dsimp only);(refine ⟨?_,?_⟩<;>go_simp))
  clear hK K
  refine wrh1 11 fun K hK=>?_
  go_simp
  go_wp2_with (go_at_call 64;refine (IH.out t.a[1] ((t,m - 1)::e) i _ mj' _ HGX.out (O.out.get 1 (by omega)) (by omega) HE2.out hi HWK.out (by exact Cur.below (B:=w.heap.size) Below.z hcs HC.out) (by exact RT.ext (Agree.but But.z) _ _ gx) (by exact REnv.push (x:=⟨ma,mb,mc,md,me,mf,mg,mh,mi,mj,some ⟨b,o,none⟩,ml⟩) (a:=a) (by omega) (At17.2 (by refine ⟨?_,?_,?_,?_,?_,?_,?_,?_,?_,?_,?_,?_,?_,?_,?_,?_,?_⟩<;>go_simp)) (by exact RT.ext (Agree.but But.z) _ _ HR.out) (by exact REnv.ext (Agree.but But.z) _ _ HV.out))).mono ?_;rw [HW.out];rintro e1 w2 ⟨hb2,rfl⟩)
  exact ⟨rfl,But.z,rfl⟩
 refine rch (fun K hK=>?_) ?_
 ·go_simp
  refine hK.out _ _ ?_ (fun hHeld=>?_)
  ·((try dsimp only);(refine ⟨?_,?_⟩<;>go_simp))
  clear hK K
  refine tzh 9 ?_
  try simp only [Act.put,sl,s0,ss]
  refine wrh [4,10] ?_
  refine rch (fun K hK=>?_) ?_
  ·go_simp
   refine hK.out _ _ ?_ (fun hHeld=>?_)
   ·((try dsimp only);(refine ⟨?_,?_⟩<;>go_simp))
   clear hK K
   refine wrh1 10 fun K hK=>?_
   go_simp
   refine hK.out _ _ ?_ (fun hHeld=>?_)
   ·((try dsimp only);(refine ⟨?_,?_⟩<;>go_simp))
   clear hK K
   refine wrh1 11 fun K hK=>?_
   go_simp
   go_wp2_with (go_at_call 64;refine (IH.out t.a[1] ((t,m - 1)::e) i _ mj' _ HGX.out (O.out.get 1 (by omega)) (by omega) HE2.out hi HWK.out (by exact Cur.below (B:=w.heap.size) Below.z hcs HC.out) (by exact RT.ext (Agree.but But.z) _ _ gx) (by exact REnv.push (x:=⟨ma,mb,mc,md,me,mf,mg,mh,mi,mj,some ⟨b,o,none⟩,ml⟩) (a:=a) (by omega) (At17.2 (by refine ⟨?_,?_,?_,?_,?_,?_,?_,?_,?_,?_,?_,?_,?_,?_,?_,?_,?_⟩<;>go_simp)) (by exact RT.ext (Agree.but But.z) _ _ HR.out) (by exact REnv.ext (Agree.but But.z) _ _ HV.out))).mono ?_;rw [HW.out];rintro e1 w2 ⟨hb2,rfl⟩)
   exact ⟨rfl,But.z,rfl⟩
  refine rch (fun K hK=>?_) ?_
  ·go_simp
   refine hK.out _ _ ?_ (fun hHeld=>?_)
   ·((try dsimp only);(refine ⟨?_,?_⟩<;>go_simp))
   clear hK K
   refine wrh1 4 fun K hK=>?_
   go_simp
   refine hK.out _ _ ?_ (fun hHeld=>?_)
   ·((try dsimp only);(refine ⟨?_,?_⟩<;>go_simp))
   clear hK K
   refine wrh1 11 fun K hK=>?_
   go_simp
   go_wp2_with (go_at_call 64;refine (IH.out t.a[1] ((t,m - 1)::e) i _ mj' _ HGX.out (O.out.get 1 (by omega)) (by omega) HE2.out hi HWK.out (by exact Cur.below (B:=w.heap.size) Below.z hcs HC.out) (by exact RT.ext (Agree.but But.z) _ _ gx) (by exact REnv.push (x:=⟨ma,mb,mc,md,me,mf,mg,mh,mi,mj,some ⟨b,o,none⟩,ml⟩) (a:=a) (by omega) (At17.2 (by refine ⟨?_,?_,?_,?_,?_,?_,?_,?_,?_,?_,?_,?_,?_,?_,?_,?_,?_⟩<;>go_simp)) (by exact RT.ext (Agree.but But.z) _ _ HR.out) (by exact REnv.ext (Agree.but But.z) _ _ HV.out))).mono ?_;rw [HW.out];rintro e1 w2 ⟨hb2,rfl⟩)
   exact ⟨rfl,But.z,rfl⟩
  exact AllReadyH.nil
 exact AllReadyH.nil
end Go.Proofs.YtclphfojkggcpaaGreat
