/- Part 20. -/
import Derived.ChangeAlike
import Derived.Defers
import Derived.Recover
import Derived.RegionTactic
import Derived.Test.YtkdffbdnjfgpeaaGreatY18
set_option linter.all false
namespace Go.Proofs.YtkdffbdnjfgpeaaGreat
open Go.Lib (hid)
open Go Go.RowKit Go.Proofs.Tryz
set_option maxRecDepth 100000
set_option maxHeartbeats 2000000
theorem ZkD (c S f:Nat) (hS:S≤1099511627776) (hfu:f≤1099511627776) (ih:Qj c S f) (t:GT) (e:Env) (k n:Int) (w:World) (x:TA) (a:Option Addr) (hg:Zp (!e.isEmpty) t) (ox:okT t) (hs:Zb t≤S) (he:Ye S e)
  (hk:1≤k∧k≤65536) (hn:0≤n∧n≤4096) (hf:4098≤f+1+n) (hc:c < w.heap.size) (hl:Ctr w c n) (hr:RT w (fun b=>b≠c) t x) (hv:REnv w (fun b=>b≠c) e a) (h1:¬t.k=1) (h10:¬t.k=10) (h11:¬t.k=11) (n':Int) (hn':n'=n+k) (hn2:n'≤4096) (hsp:Zu n k=some n') (h2:¬t.k=2) (h4:¬t.k=4) (h6:¬t.k=6) (h3:¬t.k=3) (h9:¬t.k=9) (hd:∀d q,Zx (fun n x=>wkT f x e k n) t.a 0 n'=some (d,q)→0≤d∧d≤S+f):
  Calls prog 139 #[.pointer (some ⟨c,0,none⟩),TV t x,.pointer a,.int .i64 k] w (WkR c w (wkT (f+1) t e k n)):=by
 obtain ⟨ma,mb,mc,md,me,mf,mg,mh,mi,mj,mk,ml⟩:=x
 obtain ⟨hnd,_,hgs⟩:=Zk.1 hg
 obtain ⟨⟨x1,x2⟩,ov,⟨ovl,ovs⟩,⟨l1,l2⟩,⟨l3,l4⟩,⟨owl,ow⟩,op,oal,oa⟩:=Ze.1 ox
 have HR:=hid hr
 have HV:=hid hv
 have OVS:=hid ovs
 obtain ⟨k0,k1⟩:=hk
 obtain ⟨n0,n1⟩:=hn
 obtain ⟨c1,c2⟩:=hl
 have hcn:¬w.heap.size=c:=om
 have hk1:(t.k==1)=false:=by simp [h1]
 have hk10:(t.k==10)=false:=by simp [h10]
 have hk11:(t.k==11)=false:=by simp [h11]
 have HX:=hid (fun (W:World) (h1:c < W.heap.size) (h2:Ctr W c n') (h3:RT W (fun b=>b≠c) t ⟨ma,mb,mc,md,me,mf,mg,mh,mi,mj,mk,ml⟩) (h4:REnv W (fun b=>b≠c) e a)=>QI c S f hS hfu ih t e k n' W ⟨ma,mb,mc,md,me,mf,mg,mh,mi,mj,mk,ml⟩ a hgs h10 ox hs he ⟨k0,k1⟩ om om h1 h2 h3 h4)
 have hE:wkT (f+1) t e k n=ZcE (Zx (fun n x=>wkT f x e k n) t.a 0 n'):=by simp [wkT,h1,h2,h3,h4,h6,h9,h10,h11,hsp]
 rw [hE]
 have HSP:=hid hsp
 have hk2:(t.k==2)=false:=by simp [h2]
 have hk4:(t.k==4)=false:=by simp [h4]
 have hk6:(t.k==6)=false:=by simp [h6]
 have hk3:(t.k==3)=false:=by simp [h3]
 have hk9:(t.k==9)=false:=by simp [h9]
 clear hsp hE h2 h3 h4 h6 h9
 clear ih hg ox he hr hv ov ovs ow op oa hnd hgs h1 h10 h11
 rcases hR:Zx (fun n x=>wkT f x e k n) t.a 0 n' with _|⟨d,n2⟩
 ·have HR2:=hid hR
  clear hR hd
  go_enter func139,ntmps139
  go_wp2_with (first
   | (go_at_call 215;refine (ZW c n k _ (by simp;omega) om om (by exact ⟨gs,gs⟩)).mono ?_;rw [HSP.out];rintro e1 w1 ⟨hb1,rfl,hx1,hx2⟩;obtain ⟨hc1,hf1⟩:=ZE hb1;have hz1:=hb1.size;simp at hz1;have hcn1:¬c=w1.heap.size:=om;have hcn2:¬w1.heap.size=c:=om;have hcn3:c < w1.heap.size:=om;have hws1:w.heap.size < w1.heap.size:=om)
   | (go_at_call 218;refine (HX.out _ om (by exact ⟨gs,gs⟩) (by exact Zt2 (Zt0 Zt1) _ _ HR.out) (by exact Zua (Zt0 Zt1) _ _ HV.out)).mono ?_;rw [HR2.out];rintro e1 w2 ⟨hb2,rfl⟩))
  exact ⟨rfl,Zt1,rfl⟩
 have HR2:=hid hR
 obtain ⟨hd0,hd1⟩:=hd _ _ hR
 clear hR hd
 go_enter func139,ntmps139
 go_wp2_with (first
  | (go_at_call 215;refine (ZW c n k _ (by simp;omega) om om (by exact ⟨gs,gs⟩)).mono ?_;rw [HSP.out];rintro e1 w1 ⟨hb1,rfl,hx1,hx2⟩;obtain ⟨hc1,hf1⟩:=ZE hb1;have hz1:=hb1.size;simp at hz1;have hcn1:¬c=w1.heap.size:=om;have hcn2:¬w1.heap.size=c:=om;have hcn3:c < w1.heap.size:=om;have hws1:w.heap.size < w1.heap.size:=om)
  | (go_at_call 218;refine (HX.out _ om (by exact ⟨gs,gs⟩) (by exact Zt2 (Zt0 Zt1) _ _ HR.out) (by exact Zua (Zt0 Zt1) _ _ HV.out)).mono ?_;rw [HR2.out];rintro e1 w2 ⟨hb2,rfl,hx3,hx4⟩))
 go_ret
 exact ⟨Zt1,rfl,hx3,hx4⟩
set_option maxRecDepth 512
theorem Znq {p:Prop} (h:p:=by
 simp only [hR] at hE
 have HE:=hid hE
 have HR2:=hid hR
 clear hR hd hE
 go_enter func139,ntmps139
 go_wp2_with (first
  | (go_at_call 215;refine (ZW c n k _ (by simp;omega) om om (by exact ⟨gs,gs⟩)).mono ?_;rw [HSP.out];rintro e1 w1 ⟨hb1,rfl,hx1,hx2⟩;obtain ⟨hc1,hf1⟩:=ZE hb1;have hz1:=hb1.size;simp at hz1;have hcn1:¬c=w1.heap.size:=om;have hcn2:¬w1.heap.size=c:=om;have hcn3:c < w1.heap.size:=om;have hws1:w.heap.size < w1.heap.size:=om)
  | (go_at_call 218;refine (HX.out _ om (by exact ⟨gs,gs⟩) (by exact Zt2 (Zt0 Zt1) _ _ HR.out) (by exact Zua (Zt0 Zt1) _ _ HV.out)).mono ?_;rw [HR2.out];rintro e1 w2 ⟨hb2,rfl⟩))
 rw [←HE.out]
 exact ⟨rfl,Zt1,rfl⟩):p:=h
theorem Znt {p:Prop} (h:p:=by
 generalize hE:wkT (f+1) t e k n=R
 simp only [wkT,if_neg h1,if_neg h10,if_neg h11,hsp,h6,hmm] at hE
 simp [hh] at hE
 clear hsp h6 hmm hh hlo hlh hhi
 clear ih hg ox he hr hv ov ovs ow op oa hnd hgs h1 h10 h11
 rcases hR:Zx (fun n x=>wkT f x e k n) t.a 0 n' with _|⟨d,n2⟩
 ·exact Znq
 simp only [hR] at hE
 have HE:=hid hE
 have HR2:=hid hR
 obtain ⟨hd0,hd1⟩:=hd _ _ hR
 clear hR hd hE
 go_enter func139,ntmps139
 go_wp2_with (first
  | (go_at_call 215;refine (ZW c n k _ (by simp;omega) om om (by exact ⟨gs,gs⟩)).mono ?_;rw [HSP.out];rintro e1 w1 ⟨hb1,rfl,hx1,hx2⟩;obtain ⟨hc1,hf1⟩:=ZE hb1;have hz1:=hb1.size;simp at hz1;have hcn1:¬c=w1.heap.size:=om;have hcn2:¬w1.heap.size=c:=om;have hcn3:c < w1.heap.size:=om;have hws1:w.heap.size < w1.heap.size:=om)
  | (go_at_call 218;refine (HX.out _ om (by exact ⟨gs,gs⟩) (by exact Zt2 (Zt0 Zt1) _ _ HR.out) (by exact Zua (Zt0 Zt1) _ _ HV.out)).mono ?_;rw [HR2.out];rintro e1 w2 ⟨hb2,rfl,hx3,hx4⟩;obtain ⟨hc2,hf2⟩:=ZE hb2))
 go_ret
 rw [←HE.out]
 exact ⟨Zt1,rfl,hx3,hx4⟩):p:=h
set_option maxRecDepth 100000
theorem ZjG (c S f:Nat) (hS:S≤1099511627776) (hfu:f≤1099511627776) (ih:Qj c S f) (t:GT) (e:Env) (k n:Int) (w:World) (x:TA) (a:Option Addr) (hg:Zp (!e.isEmpty) t) (ox:okT t) (hs:Zb t≤S) (he:Ye S e)
  (hk:1≤k∧k≤65536) (hn:0≤n∧n≤4096) (hf:4098≤f+1+n) (hc:c < w.heap.size) (hl:Ctr w c n) (hr:RT w (fun b=>b≠c) t x) (hv:REnv w (fun b=>b≠c) e a) (h1:¬t.k=1) (h10:¬t.k=10) (h11:¬t.k=11) (n':Int) (hn':n'=n+k) (hn2:n'≤4096) (hsp:Zu n k=some n') (h6:t.k=6) (hh:t.hi=0) (hd:∀d q,Zx (fun n x=>wkT f x e k n) t.a 0 n'=some (d,q)→0≤d∧d≤S+f):
  Calls prog 139 #[.pointer (some ⟨c,0,none⟩),TV t x,.pointer a,.int .i64 k] w (WkR c w (wkT (f+1) t e k n)):=by
 obtain ⟨ma,mb,mc,md,me,mf,mg,mh,mi,mj,mk,ml⟩:=x
 obtain ⟨hnd,_,hgs⟩:=Zk.1 hg
 obtain ⟨⟨x1,x2⟩,ov,⟨ovl,ovs⟩,⟨l1,l2⟩,⟨l3,l4⟩,⟨owl,ow⟩,op,oal,oa⟩:=Ze.1 ox
 have HR:=hid hr
 have HV:=hid hv
 have OVS:=hid ovs
 obtain ⟨k0,k1⟩:=hk
 obtain ⟨n0,n1⟩:=hn
 obtain ⟨c1,c2⟩:=hl
 have hcn:¬w.heap.size=c:=om
 have hk1:(t.k==1)=false:=by simp [h1]
 have hk10:(t.k==10)=false:=by simp [h10]
 have hk11:(t.k==11)=false:=by simp [h11]
 obtain ⟨hla,hlo,hlh,hhi⟩:=WO hnd h6
 clear hla
 have hmm:k*max 1 t.hi=k:=by rw [show max 1 t.hi=1 by omega,Int.mul_one]
 have HX:=hid (fun (W:World) (h1:c < W.heap.size) (h2:Ctr W c n') (h3:RT W (fun b=>b≠c) t ⟨ma,mb,mc,md,me,mf,mg,mh,mi,mj,mk,ml⟩) (h4:REnv W (fun b=>b≠c) e a)=>QI c S f hS hfu ih t e k n' W ⟨ma,mb,mc,md,me,mf,mg,mh,mi,mj,mk,ml⟩ a hgs h10 ox hs he ⟨k0,k1⟩ om om h1 h2 h3 h4)
 have HSP:=hid hsp
 have hk2:(t.k==2)=false:=by simp [h6]
 have hk4:(t.k==4)=false:=by simp [h6]
 have hk6:(t.k==6)=true:=by simp [h6]
 have hh1:¬1≤t.hi:=om
 have hh2:(t.hi==0)=true:=by simp [hh]
 exact Znt
theorem ZjI (c S f:Nat) (hS:S≤1099511627776) (hfu:f≤1099511627776) (ih:Qj c S f) (t:GT) (e:Env) (k n:Int) (w:World) (x:TA) (a:Option Addr) (hg:Zp (!e.isEmpty) t) (ox:okT t) (hs:Zb t≤S) (he:Ye S e)
  (hk:1≤k∧k≤65536) (hn:0≤n∧n≤4096) (hf:4098≤f+1+n) (hc:c < w.heap.size) (hl:Ctr w c n) (hr:RT w (fun b=>b≠c) t x) (hv:REnv w (fun b=>b≠c) e a) (h1:¬t.k=1) (h10:¬t.k=10) (h11:¬t.k=11) (n':Int) (hn':n'=n+k) (hn2:n'≤4096) (hsp:Zu n k=some n') (h6:t.k=6) (hh:1 < t.hi) (hd:∀d q,Zx (fun n x=>wkT f x e (k*t.hi) n) t.a 0 n'=some (d,q)→0≤d∧d≤S+f):
  Calls prog 139 #[.pointer (some ⟨c,0,none⟩),TV t x,.pointer a,.int .i64 k] w (WkR c w (wkT (f+1) t e k n)):=by
 obtain ⟨ma,mb,mc,md,me,mf,mg,mh,mi,mj,mk,ml⟩:=x
 obtain ⟨hnd,_,hgs⟩:=Zk.1 hg
 obtain ⟨⟨x1,x2⟩,ov,⟨ovl,ovs⟩,⟨l1,l2⟩,⟨l3,l4⟩,⟨owl,ow⟩,op,oal,oa⟩:=Ze.1 ox
 have HR:=hid hr
 have HV:=hid hv
 have OVS:=hid ovs
 obtain ⟨k0,k1⟩:=hk
 obtain ⟨n0,n1⟩:=hn
 obtain ⟨c1,c2⟩:=hl
 have hcn:¬w.heap.size=c:=om
 have hk1:(t.k==1)=false:=by simp [h1]
 have hk10:(t.k==10)=false:=by simp [h10]
 have hk11:(t.k==11)=false:=by simp [h11]
 obtain ⟨hla,hlo,hlh,hhi⟩:=WO hnd h6
 clear hla
 have hmm:k*max 1 t.hi=k*t.hi:=by rw [show max 1 t.hi=t.hi by omega]
 have hkm:1≤k*t.hi:=Int.mul_le_mul (a:=1) (b:=1) k0 om om om
 have hkn:k*t.hi≤4096*16:=Int.mul_le_mul om hhi om om
 have hmw:IntKind.i64.wrap (k*t.hi)=k*t.hi:=IntWalk.i64_in _ om
 have hmw2:wrap64 (k*t.hi)=k*t.hi:=by rw [←IntWalk.i64_left];exact hmw
 have HX:=hid (fun (W:World) (h1:c < W.heap.size) (h2:Ctr W c n') (h3:RT W (fun b=>b≠c) t ⟨ma,mb,mc,md,me,mf,mg,mh,mi,mj,mk,ml⟩) (h4:REnv W (fun b=>b≠c) e a)=>QI c S f hS hfu ih t e (k*t.hi) n' W ⟨ma,mb,mc,md,me,mf,mg,mh,mi,mj,mk,ml⟩ a hgs h10 ox hs he ⟨hkm,om⟩ om om h1 h2 h3 h4)
 have HSP:=hid hsp
 have hk2:(t.k==2)=false:=by simp [h6]
 have hk4:(t.k==4)=false:=by simp [h6]
 have hk6:(t.k==6)=true:=by simp [h6]
 have hh2:(t.hi==0)=false:=by simp;omega
 generalize hE:wkT (f+1) t e k n=R
 simp only [wkT,if_neg h1,if_neg h10,if_neg h11,hsp,h6,hmm] at hE
 simp [show ¬t.hi=0 by omega] at hE
 clear hsp h6 hmm hlo hlh hhi
 clear ih hg ox he hr hv ov ovs ow op oa hnd hgs h1 h10 h11
 rcases hR:Zx (fun n x=>wkT f x e (k*t.hi) n) t.a 0 n' with _|⟨d,n2⟩
 ·exact Znq
 simp only [hR] at hE
 have HE:=hid hE
 have HR2:=hid hR
 obtain ⟨hd0,hd1⟩:=hd _ _ hR
 clear hR hd hE
 go_enter func139,ntmps139
 go_wp2_with (first
  | (go_at_call 215;refine (ZW c n k _ (by simp;omega) om om (by exact ⟨gs,gs⟩)).mono ?_;rw [HSP.out];rintro e1 w1 ⟨hb1,rfl,hx1,hx2⟩;obtain ⟨hc1,hf1⟩:=ZE hb1;have hz1:=hb1.size;simp at hz1;have hcn1:¬c=w1.heap.size:=om;have hcn2:¬w1.heap.size=c:=om;have hcn3:c < w1.heap.size:=om;have hws1:w.heap.size < w1.heap.size:=om)
  | (go_at_call 218;refine (HX.out _ om (by exact ⟨gs,gs⟩) (by exact Zt2 (Zt0 Zt1) _ _ HR.out) (by exact Zua (Zt0 Zt1) _ _ HV.out)).mono ?_;rw [HR2.out];rintro e1 w2 ⟨hb2,rfl,hx3,hx4⟩;obtain ⟨hc2,hf2⟩:=ZE hb2))
 go_ret
 rw [←HE.out]
 exact ⟨Zt1,rfl,hx3,hx4⟩
set_option maxRecDepth 512
theorem ZdV {k:Int} (l:List GV) (j:Nat) (h:j < l.length) (d n:Int):YB k (l.drop j) d n=match Zu n (k*Zg l[j]) with
  | none=>none
  | some n'=>YB k (l.drop (j+1)) (max d (Yx l[j])) n':=by
 rw [List.drop_eq_getElem_cons h];rfl
set_option maxRecDepth 100000
theorem ZkC (c S f:Nat) (hS:S≤1099511627776) (hfu:f≤1099511627776) (ih:Qj c S f) (t:GT) (e:Env) (k n:Int) (w:World) (x:TA) (a:Option Addr) (hg:Zp (!e.isEmpty) t) (ox:okT t) (hs:Zb t≤S) (he:Ye S e)
  (hk:1≤k∧k≤65536) (hn:0≤n∧n≤4096) (hf:4098≤f+1+n) (hc:c < w.heap.size) (hl:Ctr w c n) (hr:RT w (fun b=>b≠c) t x) (hv:REnv w (fun b=>b≠c) e a) (h1:¬t.k=1) (h10:¬t.k=10) (h11:¬t.k=11) (n':Int) (hn':n'=n+k) (hn2:n'≤4096) (hsp:Zu n k=some n') (h4:t.k=4):
  Calls prog 139 #[.pointer (some ⟨c,0,none⟩),TV t x,.pointer a,.int .i64 k] w (WkR c w (wkT (f+1) t e k n)):=by
 obtain ⟨ma,mb,mc,md,me,mf,mg,mh,mi,mj,mk,ml⟩:=x
 obtain ⟨hnd,_,hgs⟩:=Zk.1 hg
 obtain ⟨⟨x1,x2⟩,ov,⟨ovl,ovs⟩,⟨l1,l2⟩,⟨l3,l4⟩,⟨owl,ow⟩,op,oal,oa⟩:=Ze.1 ox
 have HR:=hid hr
 have HV:=hid hv
 have OVS:=hid ovs
 obtain ⟨k0,k1⟩:=hk
 obtain ⟨n0,n1⟩:=hn
 obtain ⟨c1,c2⟩:=hl
 have hcn:¬w.heap.size=c:=om
 have hk1:(t.k==1)=false:=by simp [h1]
 have hk10:(t.k==10)=false:=by simp [h10]
 have hk11:(t.k==11)=false:=by simp [h11]
 have HVS:=hid (Zo.1 hr).2.1
 have hE:wkT (f+1) t e k n=YB k t.vs 0 n':=by simp [wkT,h4,hsp]
 rw [hE]
 generalize hR:YB k t.vs 0 n'=R
 have HR2:=hid hR
 have HSP:=hid hsp
 have hse:=Zq t
 have hk2:(t.k==2)=false:=by simp [h4]
 have hk4:(t.k==4)=true:=by simp [h4]
 clear hsp hE h4 hR
 clear ih hg ox he hr hv ov ovs ow op oa hnd hgs h1 h10 h11
 go_enter func139,ntmps139
 go_wp2_with (go_at_call 215;refine (ZW c n k _ (by simp;omega) om om (by exact ⟨gs,gs⟩)).mono ?_;rw [HSP.out];rintro e1 w1 ⟨hb1,rfl,hx1,hx2⟩;obtain ⟨hc1,hf1⟩:=ZE hb1;have hz1:=hb1.size;simp at hz1;have hcn1:¬c=w1.heap.size:=om;have hcn2:¬w1.heap.size=c:=om;have hcn3:c < w1.heap.size:=om;have hws1:w.heap.size < w1.heap.size:=om)
 go_loopg [9,65] (t.vs.length) (fun gk t9 i wr=>∃(j:Nat) (d q:Int),gk+j=t.vs.length∧i=.int .i64 j∧t9=.int .i64 d∧Hid (YB k (t.vs.drop j) d q=R)∧(0≤d∧d≤1099511627776)∧(0≤q∧q≤4096)∧But c w.heap.size w wr∧w.heap.size < wr.heap.size ∧
  (wr.cell? ⟨c,0,none⟩=some (.int .i64 q)∧wr.frozen? ⟨c,0,none⟩=false))
 case atStart=>exact ⟨0,0,n',om,rfl,rfl,by show YB _ _ _ _=R;simpa using HR2.out,om,om,Zt1,om,hx1,hx2⟩
 case round=>
  obtain ⟨j,d,q,hj,rfl,rfl,HF,⟨d0,d1⟩,⟨q0,q1⟩,hb,hz,hy1,hy2⟩:=hrel
  have hcr:c < wr.heap.size:=om
  have hcr2:¬wr.heap.size=c:=om
  by_cases hlt:j < t.vs.length
  ·obtain ⟨b,o,mj',rfl,hA,hbs,g0,gx⟩:=HVS.out.get j hlt
   obtain ⟨z0,z1,z2⟩:=At3.1 (g0.ext (Zt0 hb) hA)
   have hs1:b < wr.heap.size:=om
   have hq1:=ZX t.vs j hlt
   have hdl:=Vb t.vs[j]
   have hsv2:Zg t.vs[j]≤1099511627776:=om
   have hm1:0≤k*(Zg t.vs[j]:Int):=Int.mul_nonneg om om
   have hm2:k*(Zg t.vs[j]:Int)≤65536*1099511627776:=Int.mul_le_mul k1 om om om
   have hmw:IntKind.i64.wrap (k*(Zg t.vs[j]:Int))=k*(Zg t.vs[j]:Int):=IntWalk.i64_in _ om
   have hd:=HF.out
   rw [ZdV _ j hlt] at hd
   have HX:=hid (fun (W:World) (h:Ctr W c q) (h2:c < W.heap.size)=>ZW c q (k*(Zg t.vs[j]:Int)) W h2 ⟨q0,q1⟩ ⟨hm1,om⟩ h)
   clear g0
   cases hsp:Zu q (k*(Zg t.vs[j]:Int)) with
   | none=>
    simp only [hsp] at hd
    have HW:=hid hsp
    have HD:=hid hd
    clear hsp hd
    go_wp2_with (first
     | (go_at_call 39;refine (V3 t.vs[j] _ mj' _ (OVS.out.get j hlt) hsv2 (by exact Zl.1 (Zt5 (Zt0 Zt1) _ _ gx))).mono ?_;rintro e1 w2 ⟨rfl,hb2⟩;obtain ⟨hc2,hf2⟩:=Za hb2;have hz2:=hb2.size;simp at hz2)
     | (go_at_call 215;refine (HX.out _ (by exact ⟨gs,gs⟩) om).mono ?_;rw [HW.out];rintro e1 w3 ⟨hb3,rfl⟩))
    rw [←HD.out]
    exact ⟨rfl,Zt1,rfl⟩
   | some q'=>
    obtain ⟨hq',hq2⟩:=ZC hsp
    simp only [hsp] at hd
    have HW:=hid hsp
    have HD:=hid hd
    have HQ:=hid hq'
    have hq3:0≤q':=om
    clear hsp hd hq'
    go_wp2_with (first
     | (go_at_call 39;refine (V3 t.vs[j] _ mj' _ (OVS.out.get j hlt) hsv2 (by exact Zl.1 (Zt5 (Zt0 Zt1) _ _ gx))).mono ?_;rintro e1 w2 ⟨rfl,hb2⟩;obtain ⟨hc2,hf2⟩:=Za hb2;have hz2:=hb2.size;simp at hz2;have hwz2:wr.heap.size < w2.heap.size:=om;have hcz2:c < w2.heap.size:=om)
     | (go_at_call 215;refine (HX.out _ (by exact ⟨gs,gs⟩) om).mono ?_;rw [HW.out];rintro e1 w3 ⟨hb3,rfl,hx3,hx4⟩;obtain ⟨hc3,hf3⟩:=ZE hb3;have hz3:=hb3.size;have hcz3:c < w3.heap.size:=om)
     | (go_at_call 216;refine (ZdQ t.vs[j] _ mj' _ (OVS.out.get j hlt) hsv2 (by exact Zl.1 (Zt5 (Zt0 Zt1) _ _ gx))).mono ?_;rintro e1 w4 ⟨rfl,hb4⟩;obtain ⟨hc4,hf4⟩:=Za hb4;have hz4:=hb4.size))
    all_goals go_roundg (gk - 1)
    all_goals first
     | omega
     | exact ⟨j+1,(Yx t.vs[j]:Int),q',om,by go_num,rfl,(by have h:=HD.out;rwa [show max d (Yx t.vs[j]:Int)=Yx t.vs[j] by omega] at h),om,om,Zt1,om,gs,gs⟩
     | exact ⟨j+1,d,q',om,by go_num,rfl,(by have h:=HD.out;rwa [show max d (Yx t.vs[j]:Int)=d by omega] at h),om,om,Zt1,om,gs,gs⟩
  have hjl:j=t.vs.length:=om
  have HD:=hid (show some (d,q)=R by rw [←HF.out,hjl,List.drop_length];rfl)
  go_wp2_with fail
  go_ret
  rw [←HD.out]
  exact ⟨hb,rfl,hy1,hy2⟩
theorem ZjH (c S f:Nat) (hS:S≤1099511627776) (hfu:f≤1099511627776) (ih:Qj c S f) (t:GT) (e:Env) (k n:Int) (w:World) (x:TA) (a:Option Addr) (hg:Zp (!e.isEmpty) t) (ox:okT t) (hs:Zb t≤S) (he:Ye S e)
  (hk:1≤k∧k≤65536) (hn:0≤n∧n≤4096) (hf:4098≤f+1+n) (hc:c < w.heap.size) (hl:Ctr w c n) (hr:RT w (fun b=>b≠c) t x) (hv:REnv w (fun b=>b≠c) e a) (h1:¬t.k=1) (h10:¬t.k=10) (h11:¬t.k=11) (n':Int) (hn':n'=n+k) (hn2:n'≤4096) (hsp:Zu n k=some n') (h6:t.k=6) (hh:t.hi=1) (hd:∀d q,Zx (fun n x=>wkT f x e k n) t.a 0 n'=some (d,q)→0≤d∧d≤S+f):
  Calls prog 139 #[.pointer (some ⟨c,0,none⟩),TV t x,.pointer a,.int .i64 k] w (WkR c w (wkT (f+1) t e k n)):=by
 obtain ⟨ma,mb,mc,md,me,mf,mg,mh,mi,mj,mk,ml⟩:=x
 obtain ⟨hnd,_,hgs⟩:=Zk.1 hg
 obtain ⟨⟨x1,x2⟩,ov,⟨ovl,ovs⟩,⟨l1,l2⟩,⟨l3,l4⟩,⟨owl,ow⟩,op,oal,oa⟩:=Ze.1 ox
 have HR:=hid hr
 have HV:=hid hv
 have OVS:=hid ovs
 obtain ⟨k0,k1⟩:=hk
 obtain ⟨n0,n1⟩:=hn
 obtain ⟨c1,c2⟩:=hl
 have hcn:¬w.heap.size=c:=om
 have hk1:(t.k==1)=false:=by simp [h1]
 have hk10:(t.k==10)=false:=by simp [h10]
 have hk11:(t.k==11)=false:=by simp [h11]
 obtain ⟨hla,hlo,hlh,hhi⟩:=WO hnd h6
 clear hla
 have hmm:k*max 1 t.hi=k:=by rw [show max 1 t.hi=1 by omega,Int.mul_one]
 have HX:=hid (fun (W:World) (h1:c < W.heap.size) (h2:Ctr W c n') (h3:RT W (fun b=>b≠c) t ⟨ma,mb,mc,md,me,mf,mg,mh,mi,mj,mk,ml⟩) (h4:REnv W (fun b=>b≠c) e a)=>QI c S f hS hfu ih t e k n' W ⟨ma,mb,mc,md,me,mf,mg,mh,mi,mj,mk,ml⟩ a hgs h10 ox hs he ⟨k0,k1⟩ om om h1 h2 h3 h4)
 have HSP:=hid hsp
 have hk2:(t.k==2)=false:=by simp [h6]
 have hk4:(t.k==4)=false:=by simp [h6]
 have hk6:(t.k==6)=true:=by simp [h6]
 have hh1:¬1 < t.hi:=om
 have hh2:(t.hi==0)=false:=by simp [hh]
 exact Znt
set_option maxRecDepth 512
def Zcp (S:Nat):Env→Prop
 | []=>True
 | (t,_)::up=>Zb t≤S∧Zcp S up
theorem Zbc {S:Nat}:∀{e:Env},Ye S e→Zcp S e
 | [],_=>trivial
 | (t,m)::up,h=>⟨h.2.2.2.1,Zbc h.2.2.2.2.2.2⟩
theorem Zcv {S:Nat} {k:Int} (hk:0≤k):∀(l:List GV) (d n:Int),0≤d→d≤S→n≤4096→Zi l≤S→wkLe S n (YB k l d n)
 | [],d,n,h0,h1,h2,_=>by intro d' n' h;simp only [YB] at h;cases h;omega
 | x::l,d,n,h0,h1,h2,h3=>by
  intro d' n' he
  simp only [YB] at he
  simp only [Zi] at h3
  have hdl:=Vb x
  cases hs:Zu n (k*Zg x) with
  | none=>rw [hs] at he;cases he
  | some n1=>
   rw [hs] at he
   obtain ⟨a1,a2⟩:=ZC hs
   have hm:0≤k*(Zg x:Int):=Int.mul_nonneg hk om
   obtain ⟨b1,b2,b3,b4⟩:=Zcv (S:=S) hk l (max d (Yx x)) n1 om om a2 om d' n' he
   exact ⟨b1,b2,om,b4⟩
theorem wkLe.mono {D D':Nat} {n n':Int} {r:Option (Int×Int)} (h:wkLe D n r) (hD:D≤D') (hn:n'≤n):wkLe D' n' r:=fun d q hq=>by
 obtain ⟨a,b,c,d⟩:=h d q hq
 exact ⟨a,om,om,d⟩
theorem Wa (D:Nat) (n:Int):wkLe D n none:=fun _ _ h=>by cases h
theorem ZiG {S f:Nat} {g:GT→Env→Int→Int→Option (Int×Int)} (t:GT) (m:Int) (e:Env) (k n:Int) (hs:Zb t≤S) (he:Zcp S e) (hk:1≤k) (h0:0≤n) (hf:4098≤f+1+n)
  (h:∀x e (n:Int),Zb x≤S→Zcp S e→0≤n→n≤4096→4098≤f+n→wkLe (S+f) n (g x e k n)):wkLe (S+f) n (Xx g t m e k n):=by
 unfold Xx
 have hse:=Zq t
 cases hsp:Zu n k with
 | none=>exact Wa _ _
 | some n1=>
  obtain ⟨a1,a2⟩:=ZC hsp
  simp only []
  split
  ·cases hx:t.a[0]? with
   | none=>exact Wa _ _
   | some x=>
    obtain ⟨hl,rfl⟩:=List.getElem?_eq_some_iff.1 hx
    have:=ZD t.a 0 hl
    exact (h _ e n1 om he om a2 om).mono (Nat.le_refl _) om
  cases hx:t.a[1]? with
  | none=>exact Wa _ _
  | some x=>
   obtain ⟨hl,rfl⟩:=List.getElem?_eq_some_iff.1 hx
   have:=ZD t.a 1 hl
   exact (h _ ((t,m - 1)::e) n1 om ⟨hs,he⟩ om a2 om).mono (Nat.le_refl _) om
theorem ZcS {l:List GT} {x:GT} (h:x∈l):Zb x≤Z5 l:=by
 obtain ⟨i,hi,rfl⟩:=List.getElem_of_mem h
 exact ZD l i hi
theorem ZbY (S:Nat):∀(f:Nat) (t:GT) (e:Env) (k n:Int),Zb t≤S→Zcp S e→1≤k→0≤n→n≤4096→4098≤f+n→wkLe (S+f) n (wkT f t e k n)
 | 0,t,e,k,n,_,_,_,_,_,_=>Wa _ _
 | f+1,t,e,k,n,hs,he,hk,h0,h1,hf=>by
  have hse:=Zq t
  have ih:=ZbY S f
  have hst:∀(s:GT) (m:Int) (e:Env),Zb s≤S→Zcp S e→wkLe (S+(f+1)) n (Xx (wkT f) s m e k n):=fun s m e h2 h3=>
   (ZiG s m e k n h2 h3 hk h0 om (fun x e n a b c d q=>ih x e k n a b hk c d q)).mono om (Int.le_refl _)
  unfold wkT
  split
  ·cases hsp:Zu n (k*Zg t.v) with
   | none=>exact Wa _ _
   | some n1=>
    obtain ⟨a1,a2⟩:=ZC hsp
    have hm:0≤k*(Zg t.v:Int):=Int.mul_nonneg om om
    have hdl:=Vb t.v
    intro d q hq;cases hq;omega
  split
  ·cases e with
   | nil=>exact Wa _ _
   | cons p up=>obtain ⟨s,m⟩:=p;exact hst s m up he.1 he.2
  split
  ·exact hst t t.lo e hs he
  cases hsp:Zu n k with
  | none=>exact Wa _ _
  | some n1=>
   obtain ⟨a1,a2⟩:=ZC hsp
   have hfold:∀k',1≤k'→wkLe (S+f) n1 (Zx (fun n x=>wkT f x e k' n) t.a 0 n1):=fun k' hk'=>
    Zbh t.a 0 n1 om om a2 (fun n x hx c d q=>ih x e k' n (by have:=ZcS hx;omega) he hk' c d q) om om
   simp only []
   split
   ·intro d q hq;cases hq;omega
   split
   ·exact (Zcv (S:=S) om t.vs 0 n1 om om a2 om).mono om om
   split
   ·have hm:=hfold (k*max 1 t.hi) (by have:=Int.mul_le_mul (a:=1) (b:=1) (c:=k) (d:=max 1 t.hi) hk om om om;omega)
    cases hR:Zx (fun n x=>wkT f x e (k*max 1 t.hi) n) t.a 0 n1 with
    | none=>exact Wa _ _
    | some p=>
     obtain ⟨d1,n2⟩:=p
     obtain ⟨b1,b2,b3,b4⟩:=hm d1 n2 hR
     simp only []
     split<;>(intro d q hq;cases hq;omega)
   split
   ·exact (hfold k hk).mono om om
   have hm:=hfold k hk
   cases hR:Zx (fun n x=>wkT f x e k n) t.a 0 n1 with
   | none=>exact Wa _ _
   | some p=>
    obtain ⟨d1,n2⟩:=p
    obtain ⟨b1,b2,b3,b4⟩:=hm d1 n2 hR
    intro d q hq;simp only [ZcE] at hq;cases hq;omega
theorem ZeG (c S:Nat) (hS:S≤1099511627776):∀f,f≤1099511627776→Qj c S f
 | 0,_=>by intro t e k n w m a _ _ _ _ _ _ hf;omega
 | f+1,hfu=>by
  have ih:=ZeG c S hS f om
  intro t e k n w x a hg ox hs he hk hn hf hc hl hr hv
  refine ⟨ZbY S (f+1) t e k n hs (Zbc he) hk.1 hn.1 hn.2 hf,?_⟩
  have hfu':f≤1099511627776:=om
  by_cases h1:t.k=1
  ·exact ZkA c S f hS t e k n w x a ox hs hk hn hc hl hr h1
  by_cases h11:t.k=11
  ·exact ZjF c S f hS ih t e k n w x a hg he hk hn om hc hl hv h11
  by_cases h10:t.k=10
  ·exact ZjE c S f hS ih t e k n w x a hg ox hs he hk hn om hc hl hr hv h10
  cases hsp:Zu n k with
  | none=>exact ZkE c S f hS hfu' ih t e k n w x a hg ox hs he hk hn om hc hl hr hv h1 h10 h11 hsp
  | some n1=>
   obtain ⟨a1,a2⟩:=ZC hsp
   have hse:=Zq t
   have hfold:∀k',1≤k'→∀d q,Zx (fun n x=>wkT f x e k' n) t.a 0 n1=some (d,q)→0≤d∧d≤S+f:=fun k' hk' d q h=>by
    have:=Zbh (S:=S) (f:=f) t.a 0 n1 om om a2 (fun n x hx c d q=>ZbY S f x e k' n (by have:=ZcS hx;omega) (Zbc he) hk' c d q) om om d q h
    omega
   by_cases h2:t.k=2
   ·exact ZkB c S f hS hfu' ih t e k n w x a hg ox hs he hk hn om hc hl hr hv h1 h10 h11 n1 a1 a2 hsp h2
   by_cases h4:t.k=4
   ·exact ZkC c S f hS hfu' ih t e k n w x a hg ox hs he hk hn om hc hl hr hv h1 h10 h11 n1 a1 a2 hsp h4
   by_cases h3:t.k=3
   ·exact ZiJ c S f hS hfu' ih t e k n w x a hg ox hs he hk hn om hc hl hr hv h1 h10 h11 n1 a1 a2 hsp (.inl h3)
   by_cases h9:t.k=9
   ·exact ZiJ c S f hS hfu' ih t e k n w x a hg ox hs he hk hn om hc hl hr hv h1 h10 h11 n1 a1 a2 hsp (.inr h9)
   by_cases h6:t.k=6
   ·obtain ⟨_,i1,i2,i3⟩:=WO (Zk.1 hg).1 h6
    by_cases hh0:t.hi=0
    ·exact ZjG c S f hS hfu' ih t e k n w x a hg ox hs he hk hn om hc hl hr hv h1 h10 h11 n1 a1 a2 hsp h6 hh0 (hfold k hk.1)
    by_cases hh1:t.hi=1
    ·exact ZjH c S f hS hfu' ih t e k n w x a hg ox hs he hk hn om hc hl hr hv h1 h10 h11 n1 a1 a2 hsp h6 hh1 (hfold k hk.1)
    have hkm:1≤k*t.hi:=by have:=Int.mul_le_mul (a:=1) (b:=1) (c:=k) (d:=t.hi) hk.1 om om om;omega
    exact ZjI c S f hS hfu' ih t e k n w x a hg ox hs he hk hn om hc hl hr hv h1 h10 h11 n1 a1 a2 hsp h6 om (hfold _ hkm)
   exact ZkD c S f hS hfu' ih t e k n w x a hg ox hs he hk hn om hc hl hr hv h1 h10 h11 n1 a1 a2 hsp h2 h4 h6 h3 h9 (hfold k hk.1)
theorem Zow {p:Prop} (h:p:=by
 refine callsD_of_wpS func138 rfl fun c₀ cs hu=>?_
 apply wpS_seq
 apply wpS_region
 simp [wpOpsS,go_sem,recoverD,hu,ntmps138,Exit.thenS]
 refine wpS_of_wp ?_
 simp only [Array.replicate_succ,Array.replicate_zero,List.push_toArray,List.append_toArray,List.nil_append,List.cons_append,List.setIfInBounds_toArray,List.set_cons_succ,List.set_cons_zero]
 go_wp2
 cases c₀
 simp_all [bodyPostS,results,Tryz.results138]):p:=h
set_option maxRecDepth 100000
theorem ZeY (p q:Addr) (w:World):
  CallsD prog 138 #[.pointer (some p),.pointer (some q)] .returning w fun e u' w'=>e=.returned (.tuple #[])∧u'=.returning∧w'=w:=by
 exact Zow
theorem ZaF (pb qb:Nat) (w:World) (older:List PanicEntry) (x y:Int) (hpq:¬pb=qb) (hp:w.cell? ⟨pb,0,none⟩=some (.int .i64 x)) (hq:w.cell? ⟨qb,0,none⟩=some (.int .i64 y)) (hfp:w.frozen? ⟨pb,0,none⟩=false) (hfq:w.frozen? ⟨qb,0,none⟩=false):
  CallsD prog 138 #[.pointer (some ⟨pb,0,none⟩),.pointer (some ⟨qb,0,none⟩)] (.panicking ({ v:=.iface 200 (.agg #[]),recovered:=false }::older)) w fun e u' w'=>
   e=.returned (.tuple #[])∧u'=.panicking ({ v:=.iface 200 (.agg #[]),recovered:=true }::older)∧w'=((w.setCell ⟨pb,0,none⟩ (.int .i64 4097)).setCell ⟨qb,0,none⟩ (.int .i64 0)).alloc (.cells #[] 200):=by
 have hta:∀w:World,(Instr.typeAssert (.iface 200 (.agg #[])) 20 200 true).run prog w=.ok (.tuple #[.agg #[],.bool true]) w:=fun w=>kr
 have hpl:pb < w.heap.size:=World.block_lt_of_cell? _ _ hp
 have hql:qb < w.heap.size:=World.block_lt_of_cell? _ _ hq
 have hqp:¬qb=pb:=fun h=>hpq h.symm
 exact Zow
set_option maxRecDepth 512
def Zz (t:GT):Int×Int:=
 match wkT 4098 t [] 1 0 with
 | some (d,n)=>(n,d)
 | none=>(4097,0)
theorem ZoD {p:Prop} (h:p:=by
 rintro e u' w'' ⟨rfl,rfl,rfl⟩
 simp [Leaves,settle,results,Tryz.results88,go_sem,hp1,hp2,hz3,hz4]
 have hbe:=(hb2.mono (B':=w.heap.size) (by simp;omega)).below om
 exact ZtX):p:=h
set_option maxRecDepth 100000
theorem Zd1 (t:GT) (A:Nat→Prop) (m:TA) (w:World) (hg:Zp false t) (ox:okT t) (hs:Zb t≤1099511627776) (hl:RT w A t m):
  Calls prog 88 #[TV t m] w fun e w'=>e=.returned (.tuple #[.int .i64 (Zz t).1,.int .i64 (Zz t).2])∧Below w.heap.size w w':=by
 obtain ⟨ma,mb,mc,md,me,mf,mg,mh,mi,mj,mk,ml⟩:=m
 have hmf:∀(fn:Fn) (first cap:Array Value) (w:World),(Instr.makeFunc fn first cap).run prog w=.ok (.func fn first cap) w:=fun _ _ _ _=>rfl
 have HR:=hid hl
 have HX:=hid (fun (W:World) (c:Nat) (h1:c < W.heap.size) (h2:Ctr W c 0) (h3:RT W (fun b=>b≠c) t ⟨ma,mb,mc,md,me,mf,mg,mh,mi,mj,mk,ml⟩)=>(ZeG c (Zb t) hs 4098 om t [] 1 0 W ⟨ma,mb,mc,md,me,mf,mg,mh,mi,mj,mk,ml⟩ none hg ox (Nat.le_refl _) trivial ⟨om,om⟩ ⟨om,om⟩ om h1 h2 h3 rfl).2)
 unfold Zz
 clear hg ox hl
 rcases hW:wkT 4098 t [] 1 0 with _|⟨d,n⟩
 ·have HW:=hid hW
  clear hW
  go_enter_defers func88,ntmps88
  go_wp2_with (go_at_call 139;refine (HX.out _ (w.heap.size+1+1+1) sm (by exact ⟨gs,gs⟩) (by exact Zt2 az _ _ (Zud (fun b _ h=>by show b≠_;omega) _ _ HR.out))).mono ?_;rw [HW.out];rintro e1 w2 ⟨hb2,rfl⟩;obtain ⟨hc2,hf2⟩:=ZE hb2;have hz2:=hb2.size;simp at hz2)
  have hp1:w2.cell? ⟨w.heap.size+1,0,none⟩=some (.int .i64 0):=gs
  have hp2:w2.cell? ⟨w.heap.size+1+1,0,none⟩=some (.int .i64 0):=gs
  have hp3:w2.frozen? ⟨w.heap.size+1,0,none⟩=false:=gs
  have hp4:w2.frozen? ⟨w.heap.size+1+1,0,none⟩=false:=gs
  have hz3:w.heap.size+1 < w2.heap.size:=om
  have hz4:w.heap.size+1+1 < w2.heap.size:=om
  refine leaves_cons (f:=138) (args:=#[.pointer (some ⟨w.heap.size+1,0,none⟩),.pointer (some ⟨w.heap.size+1+1,0,none⟩)]) sm (by simp [go_sem]) ?_
  refine (ZaF (w.heap.size+1) (w.heap.size+1+1) _ [] 0 0 om ?_ ?_ ?_ ?_).mono ?_
  ·go_simp
  ·go_simp
  ·go_simp
  ·go_simp
  exact ZoD
 have HW:=hid hW
 clear hW
 go_enter_defers func88,ntmps88
 go_wp2_with (go_at_call 139;refine (HX.out _ (w.heap.size+1+1+1) sm (by exact ⟨gs,gs⟩) (by exact Zt2 az _ _ (Zud (fun b _ h=>by show b≠_;omega) _ _ HR.out))).mono ?_;rw [HW.out];rintro e1 w2 ⟨hb2,rfl,hx1,hx2⟩;obtain ⟨hc2,hf2⟩:=ZE hb2;have hz2:=hb2.size;simp at hz2)
 have hp1:w2.cell? ⟨w.heap.size+1,0,none⟩=some (.int .i64 0):=gs
 have hp2:w2.cell? ⟨w.heap.size+1+1,0,none⟩=some (.int .i64 0):=gs
 have hp3:w2.frozen? ⟨w.heap.size+1,0,none⟩=false:=gs
 have hp4:w2.frozen? ⟨w.heap.size+1+1,0,none⟩=false:=gs
 have hz3:w.heap.size+1 < w2.heap.size:=om
 have hz4:w.heap.size+1+1 < w2.heap.size:=om
 go_region
 go_wp2_with fail
 refine leaves_cons (f:=138) (args:=#[.pointer (some ⟨w.heap.size+1,0,none⟩),.pointer (some ⟨w.heap.size+1+1,0,none⟩)]) sm (by simp [go_sem]) ?_
 refine (ZeY ⟨w.heap.size+1,0,none⟩ ⟨w.heap.size+1+1,0,none⟩ _).mono ?_
 exact ZoD
set_option maxRecDepth 512
def Z3 (t:GT):Int×Int:=
 if (ZF 0 1 12 false t).2≠0 then ZF 0 1 12 false t
 else if 512 < (Z8 t:Int)∨4096 < (Zz t).1 then (0,5) else if 128 < (Zz t).2 then (0,9) else (0,0)
set_option maxRecDepth 100000
theorem Ub (t:GT) (w:World) (A:Nat→Prop) (m:TA) (ox:okT t) (hs:Zb t≤1099511627776) (hl:RT w A t m):
  Calls prog 59 #[TV t m] w fun e w'=>e=.returned (.tuple #[.int .i64 (Z3 t).1,.int .i64 (Z3 t).2])∧Below w.heap.size w w':=by
 obtain ⟨ma,mb,mc,md,me,mf,mg,mh,mi,mj,mk,ml⟩:=m
 have HL:=hid hl
 have OX:=hid ox
 have hnl:=Xh t
 clear hl ox
 unfold Z3
 by_cases h1:(ZF 0 1 12 false t).2=0
 case neg=>
  have h1':((ZF 0 1 12 false t).2 != 0)=true:=by simp [h1]
  rw [if_pos h1]
  clear h1
  go_enter func59,ntmps59
  go_wp2_with (go_at_call 87;refine (Za5 _ 12 om t _ A ⟨ma,mb,mc,md,me,mf,mg,mh,mi,mj,mk,ml⟩ 0 1 false (Nat.le_refl _) OX.out om om om om (by exact Zt2 az _ _ HL.out)).mono ?_;rintro e w1 ⟨rfl,hb⟩;have hB1:=hb;clear hb;obtain ⟨hc1,hf1⟩:=Za hB1)
  go_ret2
  exact ⟨rfl,ZtX⟩
 have hg:=hid (XL 12 t 0 1 false h1)
 have h1':((ZF 0 1 12 false t).2 != 0)=false:=by simp [h1]
 rw [if_neg (by simp [h1])]
 clear h1
 generalize hF:(if 512 < (Z8 t:Int)∨4096 < (Zz t).1 then ((0:Int),(5:Int)) else if 128 < (Zz t).2 then (0,9) else (0,0))=F
 have HF:=hid hF
 clear hF
 go_enter func59,ntmps59
 go_wp2_with (first
  | (go_at_call 87;refine (Za5 _ 12 om t _ A ⟨ma,mb,mc,md,me,mf,mg,mh,mi,mj,mk,ml⟩ 0 1 false (Nat.le_refl _) OX.out om om om om (by exact Zt2 az _ _ HL.out)).mono ?_;rintro e w1 ⟨rfl,hb⟩;have hB1:=hb;clear hb;obtain ⟨hc1,hf1⟩:=Za hB1)
  | (go_at_call 88;refine (Zd1 t A ⟨ma,mb,mc,md,me,mf,mg,mh,mi,mj,mk,ml⟩ _ hg.out OX.out hs (by exact Zt2 az _ _ HL.out)).mono ?_;rintro e w2 ⟨rfl,hb⟩;have hB2:=Below.trans hB1 (Below.mono hb (Below.size hB1));clear hb;obtain ⟨hc2,hf2⟩:=Za hB2)
  | (go_at_call 89;refine (Zfj _ t _ A ⟨ma,mb,mc,md,me,mf,mg,mh,mi,mj,mk,ml⟩ (Nat.le_refl _) OX.out hs (by exact Zt2 az _ _ HL.out)).mono ?_;rintro e w3 ⟨rfl,hb⟩;have hB3:=Below.trans hB2 (Below.mono hb (Below.size hB2));clear hb;obtain ⟨hc3,hf3⟩:=Za hB3))
 all_goals go_ret2
 all_goals refine ⟨?_,ZtX⟩
 all_goals rw [←HF.out]
 all_goals (first|rfl|omega|((try simp only [beq_iff_eq,beq_eq_false_iff_ne,bne_iff_ne,bne_eq_false_iff_eq,decide_eq_true_eq,decide_eq_false_iff_not,ne_eq,Bool.and_eq_true,Bool.or_eq_true,Bool.and_eq_false_iff,Bool.or_eq_false_iff,Bool.not_eq_true',Bool.not_eq_false'] at *);(repeat' split)<;>first|rfl|omega|contradiction|(simp_all;done)|(simp_all;omega)))
set_option maxRecDepth 512
def ZtP (t:GT):Bool:=(Z3 t).2==0
end Go.Proofs.YtkdffbdnjfgpeaaGreat
