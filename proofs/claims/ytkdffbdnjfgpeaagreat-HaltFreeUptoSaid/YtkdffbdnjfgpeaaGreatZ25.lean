/- Part 26. -/
import Derived.Test.YtkdffbdnjfgpeaaGreatZ21
import Derived.Test.YtkdffbdnjfgpeaaGreatZ24
set_option linter.all false
namespace Go.Proofs.YtkdffbdnjfgpeaaGreat
open Go.Lib (hid)
open Go Go.RowKit Go.Proofs.Tryz
theorem JA (c:Nat) (s:ByteArray) (S f:Nat) (ih:Vn c s S f) (t:GT) (m:Int) (e:Env) (i:Nat) (w:World) (x:TA) (a:Option Addr) (hg:Zp (!e.isEmpty) t) (h10:t.k=10) (ox:okT t) (hs:Zb t≤S) (he:Ye S e) (hi:i≤s.size) (hm:0≤m∧m≤8)
  (hwk:∃k n,Xx (wkT f) t m e k n≠none) (hc:Cur w c s i false) (hr:RT w (fun b=>b≠c) t x) (hv:REnv w (fun b=>b≠c) e a):
  Calls prog 157 #[.agg #[.pointer (some ⟨c,0,none⟩)],TV t x,.int .i64 m,.pointer a] w (UH c s (Wd (Zd s f) t m e i) w):=by
 obtain ⟨k,n,hwk⟩:=hwk
 unfold Xx at hwk
 cases hs1:Zu n k with
 | none=>rw [hs1] at hwk;exact absurd rfl hwk
 | some n1=>
  rw [hs1] at hwk
  simp only [] at hwk
  unfold Wd
  by_cases hm0:m=0
  ·subst hm0
   rw [if_pos rfl] at hwk ⊢
   refine ZfY c s S f ih t e i w x a hg h10 ox hs he hi (fun y hy=>⟨k,n1,?_⟩) hc hr hv
   rw [hy] at hwk;exact hwk
  rw [if_neg hm0] at hwk ⊢
  have hw:∀y,t.a[1]? =some y→∃k n,wkT f y ((t,m - 1)::e) k n≠none:=fun y hy=>⟨k,n1,by rw [hy] at hwk;exact hwk⟩
  cases hat:atD (fun y=>Zd s f y ((t,m - 1)::e)) t.a 1 i with
  | ok v q=>exact ZfZ c s S f ih t e i w x a hg h10 ox hs he hi m hm hm0 hw hc hr hv v q hat
  | no j=>exact Zf0 c s S f ih t e i w x a hg h10 ox hs he hi m hm hm0 hw hc hr hv j hat
theorem Zma {p:Prop} (h:p:=by
 refine bodyPost_ret (v:=VV v m2) (by first|(simp [results,Tryz.f94,go_sem];done)|(simp [results,Tryz.f94,go_sem,rq0,rq1,rq2,rf0,rf1,rf2,hz3];done)) rfl ?_
 exact ⟨Zt1,⟨m2,rfl,Zt9 (fun b hb _=>by (try simp at hb);omega) _ _ (Zt5 (((Zt4 so).trans (Zt4 so)).trans (Zt4 so)) _ _ HRV.out)⟩,Zt3 (B:=w.heap.size) ZtX hcs HC2.out⟩):p:=h
set_option maxRecDepth 100000
set_option maxHeartbeats 2000000
theorem Zkx (c:Nat) (s:ByteArray) (S f:Nat) (hS:S≤1099511627776) (ih:Vn c s S f) (t:GT) (e:Env) (i:Nat) (w:World) (x:TA) (a:Option Addr) (hb:Zc s=true) (hg:Zp (!e.isEmpty) t) (ox:okT t) (hs:Zb t≤S) (he:Ye S e) (hi:i≤s.size) (hwk:∃k n,wkT (f+1) t e k n≠none) (hk:t.k=10) (hc:Cur w c s i false) (hr:RT w (fun b=>b≠c) t x) (hv:REnv w (fun b=>b≠c) e a):
  Calls prog 94 #[.agg #[.pointer (some ⟨c,0,none⟩)],TV t x,.pointer a] w (UH c s (Zd s (f+1) t e i) w):=by
 rw [ZdC _ _ _ _ _ om om om om om om om om om om]
 have hm:=Yl (Zk.1 hg).1 hk
 have hw2:∃k n,Xx (wkT f) t t.lo e k n≠none:=by
  obtain ⟨k,n,h⟩:=hwk
  exact ⟨k,n,by simpa [wkT,hk] using h⟩
 have HX:=hid (fun (W:World) (y:TA) h1 h2 h3=>JA c s S f ih t t.lo e i W y a hg hk ox hs he hi ⟨hm.2.1,hm.2.2⟩ hw2 h1 h2 h3)
 obtain ⟨ma,mb,mc,md,me,mf,mg,mh,mi,mj,mk,ml⟩:=x
 have hcs:c < w.heap.size:=World.block_lt_of_cell? _ _ hc.1.1
 have HC:=hid hc
 have HB:=hid hb
 obtain ⟨hrv1,hrv2,hrv3,hrv4,hrv5⟩:=Zo.1 hr
 have HR:=hid hr
 have H1:=hid hrv1
 have H2:=hid hrv2
 have H3:=hid hrv3
 have H4:=hid hrv4
 have HL:=hid hrv5
 obtain ⟨⟨x1,x2⟩,ov,⟨ovl,ovs⟩,⟨l1,l2⟩,⟨l3,l4⟩,⟨owl,ow⟩,op,oal,oa⟩:=Ze.1 ox
 have OX:=hid ox
 have OV:=hid ov
 have OVS:=hid ovs
 have OW:=hid ow
 have OP:=hid op
 have O:=hid oa
 have HND:=hid (Zk.1 hg).1
 have hse:=Zq t
 dsimp only at H1 H2 H3 H4 HL
 have HV:=hid hv
 have hk1:(t.k==1)=false:=by simp [hk]
 have hk2:(t.k==2)=false:=by simp [hk]
 have hk3:(t.k==3)=false:=by simp [hk]
 have hk4:(t.k==4)=false:=by simp [hk]
 have hk5:(t.k==5)=false:=by simp [hk]
 have hk6:(t.k==6)=false:=by simp [hk]
 have hk7:(t.k==7)=false:=by simp [hk]
 have hk8:(t.k==8)=false:=by simp [hk]
 have hk9:(t.k==9)=false:=by simp [hk]
 have hk11:(t.k==11)=false:=by simp [hk]
 clear hg ox hr hc hb hrv1 hrv2 hrv3 hrv4 hrv5 ov ovs ow op oa hk hv he ih hwk hm hw2
 rcases hN:Wd (Zd s f) t t.lo e i with ⟨v,j⟩|⟨k⟩
 ·have HN:=hid hN
  clear hN
  go_enter func94,ntmps94
  go_wp2_with (go_at_call 157;refine (HX.out _ ⟨ma,mb,mc,md,me,mf,mg,mh,mi,mj,mk,ml⟩ (by exact Zt3 (B:=w.heap.size) ZtX hcs HC.out) (by exact Zt2 (Zt0 Zt1) _ _ HR.out) (by exact Zua (Zt0 Zt1) _ _ HV.out)).mono ?_;rw [HN.out];rintro e1 w2 ⟨hb2,⟨m2,rfl,hrv⟩,hc2⟩;have HRV:=hid hrv;have HC2:=hid hc2;clear hrv hc2;have hbb2:=hb2;have hz2:=hb2.size;(try simp at hz2);have hbb:But c w.heap.size w w2:=Zt1;have rq0:w2.cell? ⟨w.heap.size+1+1,0,none⟩=some (.int .u8 0):=(hbb2.cell so so).trans gs;have rq1:w2.cell? ⟨w.heap.size+1+1,1,none⟩=some (.int .i64 0):=(hbb2.cell so so).trans gs;have rq2:w2.cell? ⟨w.heap.size+1+1,2,none⟩=some (.slice none 0 0):=(hbb2.cell so so).trans gs;have rf0:w2.frozen? ⟨w.heap.size+1+1,0,none⟩=false:=(hbb2.frozen so so).trans gs;have rf1:w2.frozen? ⟨w.heap.size+1+1,1,none⟩=false:=(hbb2.frozen so so).trans gs;have rf2:w2.frozen? ⟨w.heap.size+1+1,2,none⟩=false:=(hbb2.frozen so so).trans gs;have hz3:w.heap.size+1+1 < w2.heap.size:=om)
  exact Zma
 have HN:=hid hN
 clear hN
 go_enter func94,ntmps94
 go_wp2_with (go_at_call 157;refine (HX.out _ ⟨ma,mb,mc,md,me,mf,mg,mh,mi,mj,mk,ml⟩ (by exact Zt3 (B:=w.heap.size) ZtX hcs HC.out) (by exact Zt2 (Zt0 Zt1) _ _ HR.out) (by exact Zua (Zt0 Zt1) _ _ HV.out)).mono ?_;rw [HN.out];rintro e1 w2 ⟨hb2,rfl⟩)
 exact ⟨rfl,Zt1,rfl⟩
theorem Zky (c:Nat) (s:ByteArray) (S f:Nat) (hS:S≤1099511627776) (ih:Vn c s S f) (t:GT) (e:Env) (i:Nat) (w:World) (x:TA) (a:Option Addr) (hg:Zp (!e.isEmpty) t) (he:Ye S e) (hi:i≤s.size) (hwk:∃k n,wkT (f+1) t e k n≠none) (h11:t.k=11) (hc:Cur w c s i false) (hv:REnv w (fun b=>b≠c) e a):
  Calls prog 94 #[.agg #[.pointer (some ⟨c,0,none⟩)],TV t x,.pointer a] w (UH c s (Zd s (f+1) t e i) w):=by
 rw [ZbR _ _ _ _ _ h11]
 obtain ⟨hnd,hin,_⟩:=Zk.1 hg
 match e,he,hv,hin h11,hwk with
 | (t',m)::up,he,hv,_,hwk=>
 have hw2:∃k n,Xx (wkT f) t' m up k n≠none:=by
  obtain ⟨k,n,h⟩:=hwk
  exact ⟨k,n,by simpa [wkT,h11] using h⟩
 obtain ⟨b,⟨xa,xb,xc,xd,xe,xf,xg,xh,xi,xj,xk,xl⟩,a',rfl,hA,hat,hrs,hup⟩:=hv
 obtain ⟨hgs,hs10,hso,hss,hm0,hm8,hue⟩:=he
 have hcs:c < w.heap.size:=World.block_lt_of_cell? _ _ hc.1.1
 have HC:=hid hc
 have HX:=hid (fun (W:World) (y:TA) h1 h2 h3=>JA c s S f ih t' m up i W y a' hgs hs10 hso hss hue hi ⟨hm0,hm8⟩ hw2 h1 h2 h3)
 obtain ⟨z0,z1,z2,z3,z4,z5,z6,z7,z8,z9,za,zb,zc,zd,ze,zf,zg⟩:=Ko.1 hat
 have HR:=hid hrs
 have HV:=hid hup
 have hbl:b < w.heap.size:=World.block_lt_of_cell? _ _ z0
 have hbs1:b < w.heap.size+1:=om
 have hbs2:b < w.heap.size+1+1:=om
 have hk1:(t.k==1)=false:=by simp [h11]
 have hk2:(t.k==2)=false:=by simp [h11]
 have hk3:(t.k==3)=false:=by simp [h11]
 have hk4:(t.k==4)=false:=by simp [h11]
 have hk5:(t.k==5)=false:=by simp [h11]
 have hk6:(t.k==6)=false:=by simp [h11]
 have hk7:(t.k==7)=false:=by simp [h11]
 have hk8:(t.k==8)=false:=by simp [h11]
 have hk9:(t.k==9)=false:=by simp [h11]
 have hk11:(t.k==11)=true:=by simp [h11]
 obtain ⟨ma,mb,mc,md,me,mf,mg,mh,mi,mj,mk,ml⟩:=x
 change Calls _ _ _ _ (UH c s (Wd (Zd s f) t' m up i) w)
 clear ih hg h11 hnd hgs hs10 hso hue hat hrs hup hin hc hwk hw2
 rcases hN:Wd (Zd s f) t' m up i with ⟨v,j⟩|⟨k⟩
 ·have HN:=hid hN
  clear hN
  go_enter func94,ntmps94
  go_wp2_with fail
  refine Z0 13 kr kr ?_
  simp only [List.take_succ_cons,List.take_zero,List.drop_succ_cons,List.drop_zero]
  repeat still_step
  refine wpStill_nil ?_
  go_wp2_with (go_at_call 157;refine (HX.out _ ⟨xa,xb,xc,xd,xe,xf,xg,xh,xi,xj,xk,xl⟩ (by exact Zt3 (B:=w.heap.size) ZtX hcs HC.out) (by exact Zt2 (Zt0 Zt1) _ _ HR.out) (by exact Zua (Zt0 Zt1) _ _ HV.out)).mono ?_;rw [HN.out];rintro e1 w2 ⟨hb2,⟨m2,rfl,hrv⟩,hc2⟩;have HRV:=hid hrv;have HC2:=hid hc2;clear hrv hc2;have hbb2:=hb2;have hz2:=hb2.size;(try simp at hz2);have hbb:But c w.heap.size w w2:=Zt1;have rq0:w2.cell? ⟨w.heap.size+1+1,0,none⟩=some (.int .u8 0):=(hbb2.cell so so).trans gs;have rq1:w2.cell? ⟨w.heap.size+1+1,1,none⟩=some (.int .i64 0):=(hbb2.cell so so).trans gs;have rq2:w2.cell? ⟨w.heap.size+1+1,2,none⟩=some (.slice none 0 0):=(hbb2.cell so so).trans gs;have rf0:w2.frozen? ⟨w.heap.size+1+1,0,none⟩=false:=(hbb2.frozen so so).trans gs;have rf1:w2.frozen? ⟨w.heap.size+1+1,1,none⟩=false:=(hbb2.frozen so so).trans gs;have rf2:w2.frozen? ⟨w.heap.size+1+1,2,none⟩=false:=(hbb2.frozen so so).trans gs;have hz3:w.heap.size+1+1 < w2.heap.size:=om)
  exact Zma
 have HN:=hid hN
 clear hN
 go_enter func94,ntmps94
 go_wp2_with fail
 refine Z0 13 kr kr ?_
 simp only [List.take_succ_cons,List.take_zero,List.drop_succ_cons,List.drop_zero]
 repeat still_step
 refine wpStill_nil ?_
 go_wp2_with (go_at_call 157;refine (HX.out _ ⟨xa,xb,xc,xd,xe,xf,xg,xh,xi,xj,xk,xl⟩ (by exact Zt3 (B:=w.heap.size) ZtX hcs HC.out) (by exact Zt2 (Zt0 Zt1) _ _ HR.out) (by exact Zua (Zt0 Zt1) _ _ HV.out)).mono ?_;rw [HN.out];rintro e1 w2 ⟨hb2,rfl⟩)
 exact ⟨rfl,Zt1,rfl⟩
end Go.Proofs.YtkdffbdnjfgpeaaGreat
