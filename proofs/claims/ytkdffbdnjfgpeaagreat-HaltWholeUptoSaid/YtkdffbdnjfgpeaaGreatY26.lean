/- Part 27. -/
import Derived.Deep.RegionHeld2
import Derived.Test.YtkdffbdnjfgpeaaGreatY16
import Derived.Test.YtkdffbdnjfgpeaaGreatY18
import Derived.Test.YtkdffbdnjfgpeaaGreatYTk
set_option linter.all false
namespace Go.Proofs.YtkdffbdnjfgpeaaGreat
open Go.Lib (hid)
open Go Go.RowKit Go.Proofs.Tryz
set_option maxRecDepth 100000
set_option maxHeartbeats 2000000
theorem ZfY (c:Nat) (s:ByteArray) (S f:Nat) (ih:Vn c s S f) (t:GT) (e:Env) (i:Nat) (w:World) (x:TA) (a:Option Addr) (hg:Zp (!e.isEmpty) t) (h10:t.k=10) (ox:okT t) (hs:Zb t≤S) (he:Ye S e) (hi:i≤s.size)
  (hwk:∀y,t.a[0]? =some y→∃k n,wkT f y e k n≠none) (hc:Cur w c s i false) (hr:RT w (fun b=>b≠c) t x) (hv:REnv w (fun b=>b≠c) e a):
  Calls prog 157 #[.agg #[.pointer (some ⟨c,0,none⟩)],TV t x,.int .i64 0,.pointer a] w (UH c s (atD (fun y=>Zd s f y e) t.a 0 i) w):=by
 obtain ⟨ma,mb,mc,md,me,mf,mg,mh,mi,mj,mk,ml⟩:=x
 have IH:=hid ih
 have HL:=hid (Zo.1 hr).2.2.2.2
 have HV:=hid hv
 have HE:=hid he
 have HC:=hid hc
 have hcs:c < w.heap.size:=World.block_lt_of_cell? _ _ hc.1.1
 obtain ⟨⟨x1,x2⟩,ov,⟨ovl,ovs⟩,⟨l1,l2⟩,⟨l3,l4⟩,⟨owl,ow⟩,op,oal,oa⟩:=Ze.1 ox
 have O:=hid oa
 obtain ⟨hnd,_,hgs⟩:=Zk.1 hg
 have HGS:=hid hgs
 obtain ⟨ha,_,_⟩:=Yl hnd h10
 have hal:0 < t.a.length:=om
 have hse:=Zq t
 have h0:t.a[0]? =some t.a[0]:=List.getElem?_eq_getElem om
 have HWK:=hid (hwk _ h0)
 have hat:atD (fun y=>Zd s f y e) t.a 0 i=Zd s f t.a[0] e i:=by unfold atD;rw [h0]
 rw [hat]
 have hq1:=ZD t.a 0 om
 have hgx:Zp (!e.isEmpty) t.a[0]:=by have h:=HGS.out.get 0 om;simpa [ZU] using h
 have HGX:=hid hgx
 obtain ⟨b,o,mj',hja,hA,hbs,g0,gx⟩:=HL.out.get 0 om
 subst hja
 obtain ⟨j0,j1,j2,j3,j4,j5,j6,j7,j8,j9,ja,jb,jc,jd,je⟩:=Yp.1 (show At w b o _ by simpa using g0)
 have hbc:¬b=c:=hA
 have hbs1:b < w.heap.size+1:=om
 have hbs2:b < w.heap.size+1+1:=om
 clear ih hr hv he hg ox oa ov ovs ow op hnd hgs hwk hc h0 hat hgx g0 ha h10
 rcases hW:Zd s f t.a[0] e i with ⟨v,q⟩|⟨k⟩
 ·have HW:=hid hW
  clear hW
  go_enter func157,ntmps157
  go_wp2_with fail
  refine Z0 6 kr kr ?_
  simp only [List.take_succ_cons,List.take_zero,List.drop_succ_cons,List.drop_zero]
  repeat still_step
  refine wpStill_nil ?_
  go_wp2_with (go_at_call 94;refine (IH.out t.a[0] e i _ mj' a HGX.out (O.out.get 0 om) om HE.out hi HWK.out (by exact Zt3 (B:=w.heap.size) ZtX hcs HC.out) (by exact Zt2 (Zt0 Zt1) _ _ gx) (by exact Zua (Zt0 Zt1) _ _ HV.out)).mono ?_;rw [HW.out];(rintro e1 w2 ⟨hb2,⟨m2,rfl,hrv⟩,hc2⟩;have HRV:=hid hrv;have HC2:=hid hc2;clear hrv hc2;have hz2:=hb2.size;(try simp at hz2);have hbb:But c w.heap.size w w2:=Zt1;have rq0:w2.cell? ⟨w.heap.size+1+1,0,none⟩=some (.int .u8 0):=(hb2.cell so (by simp;omega)).trans gs;have rq1:w2.cell? ⟨w.heap.size+1+1,1,none⟩=some (.int .i64 0):=(hb2.cell so (by simp;omega)).trans gs;have rq2:w2.cell? ⟨w.heap.size+1+1,2,none⟩=some (.slice none 0 0):=(hb2.cell so (by simp;omega)).trans gs;have rf0:w2.frozen? ⟨w.heap.size+1+1,0,none⟩=false:=(hb2.frozen so (by simp;omega)).trans gs;have rf1:w2.frozen? ⟨w.heap.size+1+1,1,none⟩=false:=(hb2.frozen so (by simp;omega)).trans gs;have rf2:w2.frozen? ⟨w.heap.size+1+1,2,none⟩=false:=(hb2.frozen so (by simp;omega)).trans gs;have hz3:w.heap.size+1+1 < w2.heap.size:=om))
  refine bodyPost_ret (v:=VV v m2) (by first|(simp [results,Tryz.f157,go_sem];done)|(simp [results,Tryz.f157,go_sem,rq0,rq1,rq2,rf0,rf1,rf2,hz3];done)) rfl ?_
  exact ⟨Zt1,⟨m2,rfl,Zt9 (fun b hb _=>by (try simp at hb);omega) _ _ (Zt5 (((Zt4 so).trans (Zt4 so)).trans (Zt4 so)) _ _ HRV.out)⟩,Zt3 (B:=w.heap.size) ZtX hcs HC2.out⟩
 have HW:=hid hW
 clear hW
 go_enter func157,ntmps157
 go_wp2_with fail
 refine Z0 6 kr kr ?_
 simp only [List.take_succ_cons,List.take_zero,List.drop_succ_cons,List.drop_zero]
 repeat still_step
 refine wpStill_nil ?_
 go_wp2_with (go_at_call 94;refine (IH.out t.a[0] e i _ mj' a HGX.out (O.out.get 0 om) om HE.out hi HWK.out (by exact Zt3 (B:=w.heap.size) ZtX hcs HC.out) (by exact Zt2 (Zt0 Zt1) _ _ gx) (by exact Zua (Zt0 Zt1) _ _ HV.out)).mono ?_;rw [HW.out];rintro e1 w2 ⟨hb2,rfl⟩)
 exact ⟨rfl,Zt1,rfl⟩
set_option maxRecDepth 512
theorem ZnQ {p:Prop} (h:p:=by
 go_simp
 refine hK.out _ _ ?_ (fun hHeld=>?_)
 ·((try dsimp only);(refine ⟨?_,?_⟩<;>go_simp))
 clear hK K
 refine wrh1 11 fun K hK=>?_
 go_simp
 go_wp2_with (go_at_call 94;refine (IH.out t.a[1] ((t,m - 1)::e) i _ mj' _ HGX.out (O.out.get 1 om) om HE2.out hi HWK.out (by exact Zt3 (B:=w.heap.size) ZtX hcs HC.out) (by exact Zt2 (Zt0 Zt1) _ _ gx) (by exact REnv.push (x:=⟨ma,mb,mc,md,me,mf,mg,mh,mi,mj,some ⟨b,o,none⟩,ml⟩) (a:=a) om (Ko.2 (by refine ⟨?_,?_,?_,?_,?_,?_,?_,?_,?_,?_,?_,?_,?_,?_,?_,?_,?_⟩<;>go_simp)) (by exact Zt2 (Zt0 Zt1) _ _ HR.out) (by exact Zua (Zt0 Zt1) _ _ HV.out))).mono ?_;rw [HW.out];(rintro e1 w2 ⟨hb2,⟨m2,rfl,hrv⟩,hc2⟩;have HRV:=hid hrv;have HC2:=hid hc2;clear hrv hc2;have hz2:=hb2.size;(try simp at hz2);have hbb:But c w.heap.size w w2:=Zt1;have rq0:w2.cell? ⟨w.heap.size+1+1,0,none⟩=some (.int .u8 0):=(hb2.cell so (by simp;omega)).trans gs;have rq1:w2.cell? ⟨w.heap.size+1+1,1,none⟩=some (.int .i64 0):=(hb2.cell so (by simp;omega)).trans gs;have rq2:w2.cell? ⟨w.heap.size+1+1,2,none⟩=some (.slice none 0 0):=(hb2.cell so (by simp;omega)).trans gs;have rf0:w2.frozen? ⟨w.heap.size+1+1,0,none⟩=false:=(hb2.frozen so (by simp;omega)).trans gs;have rf1:w2.frozen? ⟨w.heap.size+1+1,1,none⟩=false:=(hb2.frozen so (by simp;omega)).trans gs;have rf2:w2.frozen? ⟨w.heap.size+1+1,2,none⟩=false:=(hb2.frozen so (by simp;omega)).trans gs;have hz3:w.heap.size+1+1 < w2.heap.size:=om);have s20:w2.cell? ⟨w.heap.size,0,none⟩=some (.pointer (some ⟨c,0,none⟩)):=(hb2.cell so (by simp;omega)).trans gs;have s214:w2.cell? ⟨w.heap.size+1,14,none⟩=some (.slice (some ⟨b,o,none⟩) t.a.length ml):=(hb2.cell so (by simp;omega)).trans gs)
 refine hK.out _ _ ?_ (fun hHeld=>?_)
 ·((try dsimp only);(refine ⟨?_,?_⟩<;>go_simp))
 clear hK K
 refine wrh1 12 fun K hK=>?_
 go_simp
 refine hK.out _ _ ?_ (fun hHeld=>?_)
 ·((try dsimp only);(refine ⟨?_,?_⟩<;>go_simp))
 clear hK K
 refine wpAnyH_done kr ?_ _
 (go_wp2_with fail;refine bodyPost_ret (v:=VV v m2) (by first|(simp [results,Tryz.f157,go_sem];done)|(simp [results,Tryz.f157,go_sem,rq0,rq1,rq2,rf0,rf1,rf2,hz3];done)) rfl ?_;exact ⟨Zt1,⟨m2,rfl,Zt9 (fun b hb _=>by (try simp at hb);omega) _ _ (Zt5 (((Zt4 so).trans (Zt4 so)).trans (Zt4 so)) _ _ HRV.out)⟩,Zt3 (B:=w.heap.size) ZtX hcs HC2.out⟩)):p:=h
set_option maxRecDepth 100000
set_option maxHeartbeats 16000000
theorem ZfZ (c:Nat) (s:ByteArray) (S f:Nat) (ih:Vn c s S f) (t:GT) (e:Env) (i:Nat) (w:World) (x:TA) (a:Option Addr) (hg:Zp (!e.isEmpty) t) (h10:t.k=10) (ox:okT t) (hs:Zb t≤S) (he:Ye S e) (hi:i≤s.size) (m:Int) (hm:0≤m∧m≤8) (hm0:¬m=0)
  (hwk:∀y,t.a[1]? =some y→∃k n,wkT f y ((t,m - 1)::e) k n≠none) (hc:Cur w c s i false) (hr:RT w (fun b=>b≠c) t x) (hv:REnv w (fun b=>b≠c) e a) (v:GV) (q:Nat) (hat:atD (fun y=>Zd s f y ((t,m - 1)::e)) t.a 1 i=.ok v q):
  Calls prog 157 #[.agg #[.pointer (some ⟨c,0,none⟩)],TV t x,.int .i64 m,.pointer a] w (UH c s (.ok v q) w):=by
 obtain ⟨ma,mb,mc,md,me,mf,mg,mh,mi,mj,mk,ml⟩:=x
 have IH:=hid ih
 have HL:=hid (Zo.1 hr).2.2.2.2
 have HR:=hid hr
 have HV:=hid hv
 have HE:=hid he
 have HC:=hid hc
 have hcs:c < w.heap.size:=World.block_lt_of_cell? _ _ hc.1.1
 obtain ⟨⟨x1,x2⟩,ov,⟨ovl,ovs⟩,⟨l1,l2⟩,⟨l3,l4⟩,⟨owl,ow⟩,op,oal,oa⟩:=Ze.1 ox
 have O:=hid oa
 obtain ⟨hnd,_,hgs⟩:=Zk.1 hg
 have HGS:=hid hgs
 obtain ⟨ha,_,_⟩:=Yl hnd h10
 have hal:1 < t.a.length:=om
 have halI:(1:Int) < (t.a.length:Int):=om
 have hse:=Zq t
 have h0:t.a[1]? =some t.a[1]:=List.getElem?_eq_getElem om
 have HWK:=hid (hwk _ h0)
 have hW:Zd s f t.a[1] ((t,m - 1)::e) i=.ok v q:=by unfold atD at hat;rw [h0] at hat;exact hat
 have hq1:=ZD t.a 1 om
 have hgx:Zp true t.a[1]:=by have h:=HGS.out.get 1 om;simpa [ZU,h10] using h
 have HGX:=hid hgx
 obtain ⟨b,o,mj',hja,hA,hbs,g0,gx⟩:=HL.out.get 1 om
 subst hja
 obtain ⟨j0,j1,j2,j3,j4,j5,j6,j7,j8,j9,ja,jb,jc,jd,je⟩:=Yp.1 (show At w b (o+15) _ by simpa using g0)
 have hbc:¬b=c:=hA
 have hbs1:b < w.heap.size+1:=om
 have hbs2:b < w.heap.size+1+1:=om
 have HE2:=hid (show Ye S ((t,m - 1)::e) from ⟨hg,h10,ox,hs,om,om,he⟩)
 have hm0':(m==0)=false:=by simp [hm0]
 have hwm:IntKind.i64.wrap (m - 1)=m - 1:=IntWalk.i64_in _ om
 obtain ⟨m0,m1⟩:=hm
 clear hm0
 clear ih hr hv he hg ox oa ov ovs ow op hnd hgs hwk hc h0 hat hgx g0 ha h10
 have HW:=hid hW
 clear hW
 go_enter func157,ntmps157
 go_wp2_with fail
 refine wp_region_held_drew (S:=(fun W=>W.cell? ⟨w.heap.size,0,none⟩=some (.pointer (some ⟨c,0,none⟩))∧W.cell? ⟨w.heap.size+1,14,none⟩=some (.slice (some ⟨b,o,none⟩) t.a.length ml))) kr ?_ (fun hHeld=>?_)
 ·((try dsimp only);(refine ⟨?_,?_⟩<;>go_simp))
 refine tzh 0 ?_
 try simp only [Act.put,sl,s0,ss]
 refine tzh 1 ?_
 try simp only [Act.put,sl,s0,ss]
 refine tzh 2 ?_
 try simp only [Act.put,sl,s0,ss]
 refine tzh 3 ?_
 try simp only [Act.put,sl,s0,ss]
 refine tzh 6 ?_
 try simp only [Act.put,sl,s0,ss]
 refine tzh 7 ?_
 try simp only [Act.put,sl,s0,ss]
 refine tzh 8 ?_
 try simp only [Act.put,sl,s0,ss]
 refine wrh [4,5] ?_
 refine rch (fun K hK=>?_) ?_
 ·go_simp
  refine hK.out _ _ ?_ (fun hHeld=>?_)
  ·((try dsimp only);(refine ⟨?_,?_⟩<;>go_simp))
  clear hK K
  refine wrh1 5 fun K hK=>?_
  go_simp
  refine hK.out _ _ ?_ (fun hHeld=>?_)
  ·((try dsimp only);(refine ⟨?_,?_⟩<;>go_simp))
  clear hK K
  refine tzh 9 ?_
  try simp only [Act.put,sl,s0,ss]
  refine wrh1 10 fun K hK=>?_
  exact ZnQ
 refine rch (fun K hK=>?_) ?_
 ·go_simp
  refine hK.out _ _ ?_ (fun hHeld=>?_)
  ·((try dsimp only);(refine ⟨?_,?_⟩<;>go_simp))
  clear hK K
  refine tzh 9 ?_
  try simp only [Act.put,sl,s0,ss]
  refine wrh [4,10] ?_
  refine rch (fun K hK=>?_) ?_
  ·go_simp
   refine hK.out _ _ ?_ (fun hHeld=>?_)
   ·((try dsimp only);(refine ⟨?_,?_⟩<;>go_simp))
   clear hK K
   refine wrh1 10 fun K hK=>?_
   exact ZnQ
  refine rch (fun K hK=>?_) ?_
  ·go_simp
   refine hK.out _ _ ?_ (fun hHeld=>?_)
   ·((try dsimp only);(refine ⟨?_,?_⟩<;>go_simp))
   clear hK K
   refine wrh1 4 fun K hK=>?_
   exact ZnQ
  exact AllReadyH.nil
 exact AllReadyH.nil
set_option maxRecDepth 512
theorem Znw {p:Prop} (h:p:=by
 go_simp
 refine hK.out _ _ ?_ (fun hHeld=>?_)
 ·((try dsimp only);(refine ⟨?_,?_⟩<;>go_simp))
 clear hK K
 refine wrh1 11 fun K hK=>?_
 go_simp
 go_wp2_with (go_at_call 94;refine (IH.out t.a[1] ((t,m - 1)::e) i _ mj' _ HGX.out (O.out.get 1 om) om HE2.out hi HWK.out (by exact Zt3 (B:=w.heap.size) ZtX hcs HC.out) (by exact Zt2 (Zt0 Zt1) _ _ gx) (by exact REnv.push (x:=⟨ma,mb,mc,md,me,mf,mg,mh,mi,mj,some ⟨b,o,none⟩,ml⟩) (a:=a) om (Ko.2 (by refine ⟨?_,?_,?_,?_,?_,?_,?_,?_,?_,?_,?_,?_,?_,?_,?_,?_,?_⟩<;>go_simp)) (by exact Zt2 (Zt0 Zt1) _ _ HR.out) (by exact Zua (Zt0 Zt1) _ _ HV.out))).mono ?_;rw [HW.out];rintro e1 w2 ⟨hb2,rfl⟩)
 exact ⟨rfl,Zt1,rfl⟩):p:=h
set_option maxRecDepth 100000
theorem Zf0 (c:Nat) (s:ByteArray) (S f:Nat) (ih:Vn c s S f) (t:GT) (e:Env) (i:Nat) (w:World) (x:TA) (a:Option Addr) (hg:Zp (!e.isEmpty) t) (h10:t.k=10) (ox:okT t) (hs:Zb t≤S) (he:Ye S e) (hi:i≤s.size) (m:Int) (hm:0≤m∧m≤8) (hm0:¬m=0)
  (hwk:∀y,t.a[1]? =some y→∃k n,wkT f y ((t,m - 1)::e) k n≠none) (hc:Cur w c s i false) (hr:RT w (fun b=>b≠c) t x) (hv:REnv w (fun b=>b≠c) e a) (k:Nat) (hat:atD (fun y=>Zd s f y ((t,m - 1)::e)) t.a 1 i=.no k):
  Calls prog 157 #[.agg #[.pointer (some ⟨c,0,none⟩)],TV t x,.int .i64 m,.pointer a] w (UH c s (.no k) w):=by
 obtain ⟨ma,mb,mc,md,me,mf,mg,mh,mi,mj,mk,ml⟩:=x
 have IH:=hid ih
 have HL:=hid (Zo.1 hr).2.2.2.2
 have HR:=hid hr
 have HV:=hid hv
 have HE:=hid he
 have HC:=hid hc
 have hcs:c < w.heap.size:=World.block_lt_of_cell? _ _ hc.1.1
 obtain ⟨⟨x1,x2⟩,ov,⟨ovl,ovs⟩,⟨l1,l2⟩,⟨l3,l4⟩,⟨owl,ow⟩,op,oal,oa⟩:=Ze.1 ox
 have O:=hid oa
 obtain ⟨hnd,_,hgs⟩:=Zk.1 hg
 have HGS:=hid hgs
 obtain ⟨ha,_,_⟩:=Yl hnd h10
 have hal:1 < t.a.length:=om
 have halI:(1:Int) < (t.a.length:Int):=om
 have hse:=Zq t
 have h0:t.a[1]? =some t.a[1]:=List.getElem?_eq_getElem om
 have HWK:=hid (hwk _ h0)
 have hW:Zd s f t.a[1] ((t,m - 1)::e) i=.no k:=by unfold atD at hat;rw [h0] at hat;exact hat
 have hq1:=ZD t.a 1 om
 have hgx:Zp true t.a[1]:=by have h:=HGS.out.get 1 om;simpa [ZU,h10] using h
 have HGX:=hid hgx
 obtain ⟨b,o,mj',hja,hA,hbs,g0,gx⟩:=HL.out.get 1 om
 subst hja
 obtain ⟨j0,j1,j2,j3,j4,j5,j6,j7,j8,j9,ja,jb,jc,jd,je⟩:=Yp.1 (show At w b (o+15) _ by simpa using g0)
 have hbc:¬b=c:=hA
 have hbs1:b < w.heap.size+1:=om
 have hbs2:b < w.heap.size+1+1:=om
 have HE2:=hid (show Ye S ((t,m - 1)::e) from ⟨hg,h10,ox,hs,om,om,he⟩)
 have hm0':(m==0)=false:=by simp [hm0]
 have hwm:IntKind.i64.wrap (m - 1)=m - 1:=IntWalk.i64_in _ om
 obtain ⟨m0,m1⟩:=hm
 clear hm0
 clear ih hr hv he hg ox oa ov ovs ow op hnd hgs hwk hc h0 hat hgx g0 ha h10
 have HW:=hid hW
 clear hW
 go_enter func157,ntmps157
 go_wp2_with fail
 refine wp_region_held_drew (S:=(fun W=>W.cell? ⟨w.heap.size,0,none⟩=some (.pointer (some ⟨c,0,none⟩))∧W.cell? ⟨w.heap.size+1,14,none⟩=some (.slice (some ⟨b,o,none⟩) t.a.length ml))) kr ?_ (fun hHeld=>?_)
 ·((try dsimp only);(refine ⟨?_,?_⟩<;>go_simp))
 refine tzh 0 ?_
 try simp only [Act.put,sl,s0,ss]
 refine tzh 1 ?_
 try simp only [Act.put,sl,s0,ss]
 refine tzh 2 ?_
 try simp only [Act.put,sl,s0,ss]
 refine tzh 3 ?_
 try simp only [Act.put,sl,s0,ss]
 refine tzh 6 ?_
 try simp only [Act.put,sl,s0,ss]
 refine tzh 7 ?_
 try simp only [Act.put,sl,s0,ss]
 refine tzh 8 ?_
 try simp only [Act.put,sl,s0,ss]
 refine wrh [4,5] ?_
 refine rch (fun K hK=>?_) ?_
 ·go_simp
  refine hK.out _ _ ?_ (fun hHeld=>?_)
  ·((try dsimp only);(refine ⟨?_,?_⟩<;>go_simp))
  clear hK K
  refine wrh1 5 fun K hK=>?_
  go_simp
  refine hK.out _ _ ?_ (fun hHeld=>?_)
  ·((try dsimp only);(refine ⟨?_,?_⟩<;>go_simp))
  clear hK K
  refine tzh 9 ?_
  try simp only [Act.put,sl,s0,ss]
  refine wrh1 10 fun K hK=>?_
  exact Znw
 refine rch (fun K hK=>?_) ?_
 ·go_simp
  refine hK.out _ _ ?_ (fun hHeld=>?_)
  ·((try dsimp only);(refine ⟨?_,?_⟩<;>go_simp))
  clear hK K
  refine tzh 9 ?_
  try simp only [Act.put,sl,s0,ss]
  refine wrh [4,10] ?_
  refine rch (fun K hK=>?_) ?_
  ·go_simp
   refine hK.out _ _ ?_ (fun hHeld=>?_)
   ·((try dsimp only);(refine ⟨?_,?_⟩<;>go_simp))
   clear hK K
   refine wrh1 10 fun K hK=>?_
   exact Znw
  refine rch (fun K hK=>?_) ?_
  ·go_simp
   refine hK.out _ _ ?_ (fun hHeld=>?_)
   ·((try dsimp only);(refine ⟨?_,?_⟩<;>go_simp))
   clear hK K
   refine wrh1 4 fun K hK=>?_
   exact Znw
  exact AllReadyH.nil
 exact AllReadyH.nil
end Go.Proofs.YtkdffbdnjfgpeaaGreat
