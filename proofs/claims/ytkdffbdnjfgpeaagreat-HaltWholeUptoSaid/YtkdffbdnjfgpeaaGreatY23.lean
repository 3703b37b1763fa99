/- Part 24. -/
import Derived.Test.YtkdffbdnjfgpeaaGreatY16
import Derived.Test.YtkdffbdnjfgpeaaGreatY22
set_option linter.all false
namespace Go.Proofs.YtkdffbdnjfgpeaaGreat
open Go.Lib (hid)
open Go Go.RowKit Go.Proofs.Tryz
theorem QQ (x:GV) (m:VA) (w:World) (A:Nat→Prop) (ox:okV x) (hl:RV w A x m.a):Calls prog 90 #[VV x m] w (ZhC x w):=
 Zgj x m w A ox (fun W h=>Za8 (Zi x.l) x.l W A m.a m.c (Nat.le_refl _) (ZA.1 ox).2.2.1 (ZA.1 ox).2.2.2 h) (Zl.1 hl)
set_option maxRecDepth 100000
set_option maxHeartbeats 2000000
theorem Zk5 (c:Nat) (s:ByteArray) (f:Nat) (t:GT) (e:Env) (i:Nat) (w:World) (x:TA) (a:Option Addr) (hb:Zc s=true) (hg:Zp (!e.isEmpty) t) (ox:okT t) (hk:t.k=1) (hc:Cur w c s i false) (hr:RT w (fun b=>b≠c) t x):
  Calls prog 94 #[.agg #[.pointer (some ⟨c,0,none⟩)],TV t x,.pointer a] w (UH c s (Zd s (f+1) t e i) w):=by
 rw [ZaN _ _ _ _ _ hk]
 obtain ⟨ma,mb,mc,md,me,mf,mg,mh,mi,mj,mk,ml⟩:=x
 have hcs:c < w.heap.size:=World.block_lt_of_cell? _ _ hc.1.1
 have HC:=hid hc
 have HB:=hid hb
 obtain ⟨hrv1,hrv2,hrv3,hrv4,hrv5⟩:=Zo.1 hr
 have HR:=hid hr
 have H1:=hid hrv1
 have H2:=hid hrv2
 have H3:=hid hrv3
 have H4:=hid hrv4
 have HL:=hid hrv5
 obtain ⟨⟨x1,x2⟩,ov,⟨ovl,ovs⟩,⟨l1,l2⟩,⟨l3,l4⟩,⟨owl,ow⟩,op,oal,oa⟩:=Ze.1 ox
 have OX:=hid ox
 have OV:=hid ov
 have OVS:=hid ovs
 have OW:=hid ow
 have OP:=hid op
 have O:=hid oa
 have HND:=hid (Zk.1 hg).1
 have hse:=Zq t
 dsimp only at H1 H2 H3 H4 HL
 have hk1:(t.k==1)=true:=by simp [hk]
 clear hg ox hr hc hb hrv1 hrv2 hrv3 hrv4 hrv5 ov ovs ow op oa hk
 go_enter func94,ntmps94
 go_wp2_with (go_at_call 90;refine (QQ t.v ⟨ma,mb⟩ _ (fun b=>b≠c) OV.out (by exact Zt5 az _ _ H1.out)).mono ?_;(rintro e1 w2 ⟨hb2,m2,rfl,hrv⟩;have HRV:=hid hrv;clear hrv;have hbb2:=Zue (c:=c) hb2;have hz2:=hb2.size;(try simp at hz2);have hbb:But c w.heap.size w w2:=Zt1;have rq0:w2.cell? ⟨w.heap.size+1+1,0,none⟩=some (.int .u8 0):=(hbb2.cell so so).trans gs;have rq1:w2.cell? ⟨w.heap.size+1+1,1,none⟩=some (.int .i64 0):=(hbb2.cell so so).trans gs;have rq2:w2.cell? ⟨w.heap.size+1+1,2,none⟩=some (.slice none 0 0):=(hbb2.cell so so).trans gs;have rf0:w2.frozen? ⟨w.heap.size+1+1,0,none⟩=false:=(hbb2.frozen so so).trans gs;have rf1:w2.frozen? ⟨w.heap.size+1+1,1,none⟩=false:=(hbb2.frozen so so).trans gs;have rf2:w2.frozen? ⟨w.heap.size+1+1,2,none⟩=false:=(hbb2.frozen so so).trans gs;have hz3:w.heap.size+1+1 < w2.heap.size:=om;have HC2:=hid (Zt3 (B:=w.heap.size) (w':=w2) ZtX hcs HC.out)))
 refine bodyPost_ret (v:=VV t.v m2) (by first|(simp [results,Tryz.f94,go_sem];done)|(simp [results,Tryz.f94,go_sem,rq0,rq1,rq2,rf0,rf1,rf2,hz3];done)) rfl ?_
 exact ⟨Zt1,⟨m2,rfl,Zt9 (fun b hb _=>by (try simp at hb);omega) _ _ (Zt5 (((Zt4 so).trans (Zt4 so)).trans (Zt4 so)) _ _ HRV.out)⟩,Zt3 (B:=w.heap.size) ZtX hcs HC2.out⟩
theorem Zk6 (c:Nat) (s:ByteArray) (f:Nat) (t:GT) (e:Env) (i:Nat) (w:World) (x:TA) (a:Option Addr) (hb:Zc s=true) (hg:Zp (!e.isEmpty) t) (ox:okT t) (hi:i≤s.size) (hk:t.k=2) (hc:Cur w c s i false) (hr:RT w (fun b=>b≠c) t x):
  Calls prog 94 #[.agg #[.pointer (some ⟨c,0,none⟩)],TV t x,.pointer a] w (UH c s (Zd s (f+1) t e i) w):=by
 rw [ZaO _ _ _ _ _ hk]
 obtain ⟨ma,mb,mc,md,me,mf,mg,mh,mi,mj,mk,ml⟩:=x
 have hcs:c < w.heap.size:=World.block_lt_of_cell? _ _ hc.1.1
 have HC:=hid hc
 have HB:=hid hb
 obtain ⟨hrv1,hrv2,hrv3,hrv4,hrv5⟩:=Zo.1 hr
 have HR:=hid hr
 have H1:=hid hrv1
 have H2:=hid hrv2
 have H3:=hid hrv3
 have H4:=hid hrv4
 have HL:=hid hrv5
 obtain ⟨⟨x1,x2⟩,ov,⟨ovl,ovs⟩,⟨l1,l2⟩,⟨l3,l4⟩,⟨owl,ow⟩,op,oal,oa⟩:=Ze.1 ox
 have OX:=hid ox
 have OV:=hid ov
 have OVS:=hid ovs
 have OW:=hid ow
 have OP:=hid op
 have O:=hid oa
 have HND:=hid (Zk.1 hg).1
 have hse:=Zq t
 dsimp only at H1 H2 H3 H4 HL
 obtain ⟨n1,n2,n3⟩:=Kw HND.out hk
 have hk1:(t.k==1)=false:=by simp [hk]
 have hk2:(t.k==2)=true:=by simp [hk]
 clear hg ox hr hc hb hrv1 hrv2 hrv3 hrv4 hrv5 ov ovs ow op oa hk
 rcases hN:WK s t.lo t.hi i with ⟨n,j⟩|⟨k⟩
 ·have HN:=hid hN
  clear hN
  simp only [Res.map]
  go_enter func94,ntmps94
  go_wp2_with (first
   | (go_at_call 143;refine (U6 c s i t.lo t.hi _ HB.out hi n1 n2 n3 (by exact Zt3 (B:=w.heap.size) ZtX hcs HC.out)).mono ?_;rw [HN.out];rintro e1 w3 ⟨hb3,rfl,hc3⟩;have HC3:=hid hc3;clear hc3;have hz0:=hb3.size;simp at hz0)
   | (go_at_call 142;refine (Zgq n _).mono ?_;(rintro e1 w2 ⟨rfl,hb2'⟩;have hbb2:=hb3.trans (Zue (c:=c) (hb2'.mono (Nat.le_trans sm hb3.size)));have hb2:=hb2';have hz2:=hb2.size;have hbb:But c w.heap.size w w2:=Zt1;have hz2:=hb2.size;(try simp at hz2);have hbb:But c w.heap.size w w2:=Zt1;have rq0:w2.cell? ⟨w.heap.size+1+1,0,none⟩=some (.int .u8 0):=(hbb2.cell so so).trans gs;have rq1:w2.cell? ⟨w.heap.size+1+1,1,none⟩=some (.int .i64 0):=(hbb2.cell so so).trans gs;have rq2:w2.cell? ⟨w.heap.size+1+1,2,none⟩=some (.slice none 0 0):=(hbb2.cell so so).trans gs;have rf0:w2.frozen? ⟨w.heap.size+1+1,0,none⟩=false:=(hbb2.frozen so so).trans gs;have rf1:w2.frozen? ⟨w.heap.size+1+1,1,none⟩=false:=(hbb2.frozen so so).trans gs;have rf2:w2.frozen? ⟨w.heap.size+1+1,2,none⟩=false:=(hbb2.frozen so so).trans gs;have hz3:w.heap.size+1+1 < w2.heap.size:=om;have HC2:=hid (Zt3 hb2 om HC3.out))))
  refine bodyPost_ret (v:=VV ⟨1,n,[]⟩ ⟨none,0⟩) (by first|(simp [results,Tryz.f94,go_sem];done)|(simp [results,Tryz.f94,go_sem,rq0,rq1,rq2,rf0,rf1,rf2,hz3];done)) rfl ?_
  exact ⟨Zt1,⟨⟨none,0⟩,rfl,by simp [RV,RVs]⟩,Zt3 (B:=w.heap.size) ZtX hcs HC2.out⟩
 have HN:=hid hN
 clear hN
 simp only [Res.map]
 go_enter func94,ntmps94
 go_wp2_with (go_at_call 143;refine (U6 c s i t.lo t.hi _ HB.out hi n1 n2 n3 (by exact Zt3 (B:=w.heap.size) ZtX hcs HC.out)).mono ?_;rw [HN.out];rintro e1 w3 ⟨hb3,rfl⟩)
 exact ⟨rfl,Zt1,rfl⟩
set_option maxRecDepth 512
theorem ZaX {f:Nat} {t:GT} {e:Env} (hk:¬t.k=1∧¬t.k=11∧¬t.k=10∧¬t.k=2∧¬t.k=4) (h:∃k n,wkT (f+1) t e k n≠none):∀x∈t.a,∃k n,wkT f x e k n≠none:=by
 obtain ⟨k,n,h⟩:=h
 have key:∀(l:List GT) (k' d q:Int),Zx (fun n x=>wkT f x e k' n) l d q≠none→∀x∈l,∃k n,wkT f x e k n≠none:=by
  intro l
  induction l with
  | nil=>intro k' d q _ x hx;simp at hx
  | cons y l ih=>
   intro k' d q hn x hx
   simp only [Zx] at hn
   cases hw:wkT f y e k' q with
   | none=>rw [hw] at hn;exact absurd rfl hn
   | some p=>
    rw [hw] at hn
    rcases List.mem_cons.1 hx with rfl|hx
    ·exact ⟨k',q,by rw [hw];simp⟩
    exact ih _ _ _ hn x hx
 unfold wkT at h
 rw [if_neg hk.1,if_neg hk.2.1,if_neg hk.2.2.1] at h
 cases hs:Zu n k with
 | none=>rw [hs] at h;exact absurd rfl h
 | some n1=>
  rw [hs] at h
  simp only [] at h
  rw [if_neg hk.2.2.2.1,if_neg hk.2.2.2.2] at h
  split at h
  ·refine key t.a (k*max 1 t.hi) 0 n1 fun e1=>?_
   rw [e1] at h;exact h rfl
  split at h
  ·exact key t.a k 0 n1 h
  refine key t.a k 0 n1 fun e1=>?_
  rw [e1] at h;exact h rfl
theorem U7 {S f:Nat} {t:GT} {e:Env} (hg:Zp (!e.isEmpty) t) (ox:okT t) (hs:Zb t≤S) (hk:¬t.k=1∧¬t.k=11∧¬t.k=10∧¬t.k=2∧¬t.k=4) (h:∃k n,wkT (f+1) t e k n≠none):
  ∀x∈t.a,Zp (!e.isEmpty) x∧okT x∧Zb x≤S∧∃k n,wkT f x e k n≠none:=fun x hx=>
 ⟨YG hg hk.2.2.1 hx,Jl ox hx,by have:=Q6 hx;omega,ZaX hk h x hx⟩
theorem Zl7 {p:Prop} (h:p:=by
 go_enter func94,ntmps94
 go_wp2_with (go_at_call 149;refine (HX.out _ (by exact Zt3 (B:=w.heap.size) ZtX hcs HC.out) (by exact RTs.ext (Zt0 Zt1) _ _ HL.out) (by exact Zua (Zt0 Zt1) _ _ HV.out)).mono ?_;rw [HN.out];rintro e1 w2 ⟨hb2,rfl⟩)
 exact ⟨rfl,Zt1,rfl⟩):p:=h
set_option maxRecDepth 100000
theorem Zk9 (c:Nat) (s:ByteArray) (S f:Nat) (hS:S≤1099511627776) (ih:Vn c s S f) (t:GT) (e:Env) (i:Nat) (w:World) (x:TA) (a:Option Addr) (hb:Zc s=true) (hg:Zp (!e.isEmpty) t) (ox:okT t) (hs:Zb t≤S) (he:Ye S e) (hi:i≤s.size) (hwk:∃k n,wkT (f+1) t e k n≠none) (hk:t.k=5) (hc:Cur w c s i false) (hr:RT w (fun b=>b≠c) t x) (hv:REnv w (fun b=>b≠c) e a):
  Calls prog 94 #[.agg #[.pointer (some ⟨c,0,none⟩)],TV t x,.pointer a] w (UH c s (Zd s (f+1) t e i) w):=by
 rw [ZaR _ _ _ _ _ hk]
 have hargs:=U7 hg ox hs om hwk
 obtain ⟨ma,mb,mc,md,me,mf,mg,mh,mi,mj,mk,ml⟩:=x
 have hcs:c < w.heap.size:=World.block_lt_of_cell? _ _ hc.1.1
 have HC:=hid hc
 have HB:=hid hb
 obtain ⟨hrv1,hrv2,hrv3,hrv4,hrv5⟩:=Zo.1 hr
 have HR:=hid hr
 have H1:=hid hrv1
 have H2:=hid hrv2
 have H3:=hid hrv3
 have H4:=hid hrv4
 have HL:=hid hrv5
 obtain ⟨⟨x1,x2⟩,ov,⟨ovl,ovs⟩,⟨l1,l2⟩,⟨l3,l4⟩,⟨owl,ow⟩,op,oal,oa⟩:=Ze.1 ox
 have OX:=hid ox
 have OV:=hid ov
 have OVS:=hid ovs
 have OW:=hid ow
 have OP:=hid op
 have O:=hid oa
 have HND:=hid (Zk.1 hg).1
 have hse:=Zq t
 dsimp only at H1 H2 H3 H4 HL
 have h64:=Wt HND.out (.inl hk)
 have HV:=hid hv
 have HX:=hid (fun (W:World) h1 h2 h3=>KF c s S f hS ih HB.out t.a e i W a mk ml h64 hargs he hi h1 h2 h3)
 have hk1:(t.k==1)=false:=by simp [hk]
 have hk2:(t.k==2)=false:=by simp [hk]
 have hk3:(t.k==3)=false:=by simp [hk]
 have hk4:(t.k==4)=false:=by simp [hk]
 have hk5:(t.k==5)=true:=by simp [hk]
 clear hg ox hr hc hb hrv1 hrv2 hrv3 hrv4 hrv5 ov ovs ow op oa hk hargs hv he ih hwk
 rcases hN:Xt (fun x=>Zd s f x e) t.a i with ⟨l,j⟩|⟨k⟩
 ·have HN:=hid hN
  clear hN
  simp only [Res.map]
  go_enter func94,ntmps94
  go_wp2_with (go_at_call 149;refine (HX.out _ (by exact Zt3 (B:=w.heap.size) ZtX hcs HC.out) (by exact RTs.ext (Zt0 Zt1) _ _ HL.out) (by exact Zua (Zt0 Zt1) _ _ HV.out)).mono ?_;rw [HN.out];rintro e1 w2 ⟨hb2,⟨a2,c2,rfl,hrv⟩,hc2⟩;have HRV:=hid hrv;have HC2:=hid hc2;clear hrv hc2;have hbb2:=hb2;have hz2:=hb2.size;(try simp at hz2);have hbb:But c w.heap.size w w2:=Zt1;have rq0:w2.cell? ⟨w.heap.size+1+1,0,none⟩=some (.int .u8 0):=(hbb2.cell so so).trans gs;have rq1:w2.cell? ⟨w.heap.size+1+1,1,none⟩=some (.int .i64 0):=(hbb2.cell so so).trans gs;have rq2:w2.cell? ⟨w.heap.size+1+1,2,none⟩=some (.slice none 0 0):=(hbb2.cell so so).trans gs;have rf0:w2.frozen? ⟨w.heap.size+1+1,0,none⟩=false:=(hbb2.frozen so so).trans gs;have rf1:w2.frozen? ⟨w.heap.size+1+1,1,none⟩=false:=(hbb2.frozen so so).trans gs;have rf2:w2.frozen? ⟨w.heap.size+1+1,2,none⟩=false:=(hbb2.frozen so so).trans gs;have hz3:w.heap.size+1+1 < w2.heap.size:=om)
  refine bodyPost_ret (v:=VV ⟨3,0,l⟩ ⟨a2,c2⟩) (by first|(simp [results,Tryz.f94,go_sem];done)|(simp [results,Tryz.f94,go_sem,rq0,rq1,rq2,rf0,rf1,rf2,hz3];done)) rfl ?_
  exact ⟨Zt1,⟨⟨a2,c2⟩,rfl,Zl.2 (Zug (fun b hb _=>by (try simp at hb);omega) _ _ (Zt8 (((Zt4 so).trans (Zt4 so)).trans (Zt4 so)) _ _ HRV.out))⟩,Zt3 (B:=w.heap.size) ZtX hcs HC2.out⟩
 have HN:=hid hN
 clear hN
 simp only [Res.map]
 exact Zl7
set_option maxRecDepth 512
theorem Zaq (s:ByteArray) (n i c:Nat) (N:Int) (hN:N=n) (w:World) (hb:Zc s=true) (hi:i≤s.size) (hn:n≤64) (hc:Cur w c s i false):
  Calls prog 153 #[.pointer (some ⟨c,0,none⟩),.int .i64 N] w (Zb7 c s (Xi s n i) w):=by
 subst hN
 rcases Nat.eq_zero_or_pos n with h|h
 ·subst h;exact Zb5 s i c w hc
 exact Zdh s n i c w hb hi ⟨h,hn⟩ hc
theorem Agree.butFrom {c B:Nat} {w w':World} (hb:But c w.heap.size w w') (hc:c < B):Agree (fun b=>B≤b) w w':=fun q u hA hq=>hb.ag (World.block_lt_of_cell? _ _ hq) om hq
set_option maxRecDepth 100000
theorem Zlb (c:Nat) (s:ByteArray) (S f:Nat) (hS:S≤1099511627776) (ih:Vn c s S f) (t:GT) (e:Env) (i:Nat) (w:World) (x:TA) (a:Option Addr) (hb:Zc s=true) (hg:Zp (!e.isEmpty) t) (ox:okT t) (hs:Zb t≤S) (he:Ye S e) (hi:i≤s.size) (hwk:∃k n,wkT (f+1) t e k n≠none) (hk:t.k=7) (hc:Cur w c s i false) (hr:RT w (fun b=>b≠c) t x) (hv:REnv w (fun b=>b≠c) e a):
  Calls prog 94 #[.agg #[.pointer (some ⟨c,0,none⟩)],TV t x,.pointer a] w (UH c s (Zd s (f+1) t e i) w):=by
 rw [ZaT _ _ _ _ _ hk]
 have hargs:=U7 hg ox hs om hwk
 obtain ⟨ma,mb,mc,md,me,mf,mg,mh,mi,mj,mk,ml⟩:=x
 have hcs:c < w.heap.size:=World.block_lt_of_cell? _ _ hc.1.1
 have HC:=hid hc
 have HB:=hid hb
 obtain ⟨hrv1,hrv2,hrv3,hrv4,hrv5⟩:=Zo.1 hr
 have HR:=hid hr
 have H1:=hid hrv1
 have H2:=hid hrv2
 have H3:=hid hrv3
 have H4:=hid hrv4
 have HL:=hid hrv5
 obtain ⟨⟨x1,x2⟩,ov,⟨ovl,ovs⟩,⟨l1,l2⟩,⟨l3,l4⟩,⟨owl,ow⟩,op,oal,oa⟩:=Ze.1 ox
 have OX:=hid ox
 have OV:=hid ov
 have OVS:=hid ovs
 have OW:=hid ow
 have OP:=hid op
 have O:=hid oa
 have HND:=hid (Zk.1 hg).1
 have hse:=Zq t
 dsimp only at H1 H2 H3 H4 HL
 have h64:=Wt HND.out (.inr (.inl hk))
 have HV:=hid hv
 have HX:=hid (fun (W:World) h1 h2 h3=>KF c s S f hS ih HB.out t.a e i W a mk ml h64 hargs he hi h1 h2 h3)
 have hin:=QM (D:=okV) (m:=s.size) t.a i hi (fun y hy q hq=>WJ s S f y e q (hargs y hy).1 (hargs y hy).2.1 (hargs y hy).2.2.1 he hq)
 have hk1:(t.k==1)=false:=by simp [hk]
 have hk2:(t.k==2)=false:=by simp [hk]
 have hk3:(t.k==3)=false:=by simp [hk]
 have hk4:(t.k==4)=false:=by simp [hk]
 have hk5:(t.k==5)=false:=by simp [hk]
 have hk6:(t.k==6)=false:=by simp [hk]
 have hk7:(t.k==7)=true:=by simp [hk]
 clear hg ox hr hc hb hrv1 hrv2 hrv3 hrv4 hrv5 ov ovs ow op oa hk hargs hv he ih hwk
 rcases hN:Xt (fun x=>Zd s f x e) t.a i with ⟨l,j⟩|⟨k⟩
 ·rw [hN] at hin
  obtain ⟨hi1,hi2,hi3,hi4⟩:=hin
  have HN:=hid hN
  have hll:l.length≤64:=om
  obtain ⟨c1,c2',c3⟩:=ZbD s l.length j hi2
  have HP3:=hid c3
  clear hN hi4 c3 hi3
  simp only [Res.bind]
  rcases hP:Xi s l.length j with ⟨_|row,q⟩
  ·have HP:=hid hP
   clear hP
   simp only [Y2,Res.map]
   go_enter func94,ntmps94
   go_wp2_with (first
    | (go_at_call 149;refine (HX.out _ (by exact Zt3 (B:=w.heap.size) ZtX hcs HC.out) (by exact RTs.ext (Zt0 Zt1) _ _ HL.out) (by exact Zua (Zt0 Zt1) _ _ HV.out)).mono ?_;rw [HN.out];rintro e1 w2 ⟨hb2,⟨a2,c2,rfl,hrv⟩,hc2⟩;have HRV:=hid hrv;have HC2:=hid hc2;clear hrv hc2;have hz2:=hb2.size;simp at hz2;have r30:w2.cell? ⟨w.heap.size,0,none⟩=some (.pointer (some ⟨c,0,none⟩)):=(hb2.cell so so).trans gs)
    | (go_at_call 153;refine (Zaq s l.length j c _ om _ HB.out hi2 hll (by exact HC2.out)).mono ?_;rw [HP.out];rintro e1 w3 ⟨hb3,rfl,hc3⟩;have hz3':=hb3.size)
    | (go_at_call 152;refine (ZbA _ _ _ _).mono ?_;rintro e1 w4 ⟨rfl,hb4⟩))
   exact ⟨rfl,Zt1,rfl⟩
  have HP:=hid hP
  obtain ⟨hr1,hr2⟩:=HP3.out row (by rw [hP])
  have HRW:=hid hr2
  have hr64:row.length≤64:=om
  clear hP hr2 hr1
  simp only [Y2,Res.map]
  go_enter func94,ntmps94
  go_wp2_with (first
   | (go_at_call 149;refine (HX.out _ (by exact Zt3 (B:=w.heap.size) ZtX hcs HC.out) (by exact RTs.ext (Zt0 Zt1) _ _ HL.out) (by exact Zua (Zt0 Zt1) _ _ HV.out)).mono ?_;rw [HN.out];rintro e1 w3 ⟨hb3,⟨a2,c2,rfl,hrv⟩,hc2⟩;have HRV:=hid (Zug (A':=fun b=>w.heap.size+1+1+1≤b) (fun b hb _=>(by simp at hb;omega)) _ _ hrv);have HC3:=hid hc2;clear hrv hc2;have hz3':=hb3.size;simp at hz3';have r30:w3.cell? ⟨w.heap.size,0,none⟩=some (.pointer (some ⟨c,0,none⟩)):=(hb3.cell so so).trans gs)
   | (go_at_call 153;refine (Zaq s l.length j c _ om _ HB.out hi2 hll (by exact HC3.out)).mono ?_;rw [HP.out];rintro e1 w4 ⟨hb4,⟨a4,c4,rfl,hri⟩,hc4⟩;have HRI:=hid hri;have HC4:=hid hc4;clear hri hc4;have hz4':=hb4.size)
   | (go_at_call 152;refine (Xy _ _ _ _).mono ?_;rintro e1 w5 ⟨rfl,rfl⟩)
   | (go_at_call 151;refine (Zd8 l row (fun b=>w.heap.size+1+1+1≤b) _ _ a2 a4 c2 c4 om hr64 HRW.out (by exact Zt8 (Agree.butFrom hb4 om) _ _ HRV.out) (by exact HRI.out)).mono ?_;rintro e1 w6 ⟨hb6,a6,c6,rfl,hrp⟩;have HRP:=hid (Zug (A':=fun b=>w.heap.size+1+1+1≤b) (fun b hb _=>(by rcases hb with h|h;exact h;omega)) _ _ hrp);clear hrp;have hz6:=hb6.size)
   | (go_at_call 150;refine (VX _ _ _ _).mono ?_;rintro e1 w2 ⟨rfl,hb2'⟩;have hb2:=hb2';have hbb2:=hb3.trans ((hb4.mono hb3.size).trans ((Zue (c:=c) (hb6.mono (Nat.le_trans hb3.size hb4.size))).trans (Zue (hb2'.mono (Nat.le_trans hb3.size (Nat.le_trans hb4.size hb6.size))))));have hz2:=hb2.size;(try simp at hz2);have hbb:But c w.heap.size w w2:=Zt1;have rq0:w2.cell? ⟨w.heap.size+1+1,0,none⟩=some (.int .u8 0):=(hbb2.cell so so).trans gs;have rq1:w2.cell? ⟨w.heap.size+1+1,1,none⟩=some (.int .i64 0):=(hbb2.cell so so).trans gs;have rq2:w2.cell? ⟨w.heap.size+1+1,2,none⟩=some (.slice none 0 0):=(hbb2.cell so so).trans gs;have rf0:w2.frozen? ⟨w.heap.size+1+1,0,none⟩=false:=(hbb2.frozen so so).trans gs;have rf1:w2.frozen? ⟨w.heap.size+1+1,1,none⟩=false:=(hbb2.frozen so so).trans gs;have rf2:w2.frozen? ⟨w.heap.size+1+1,2,none⟩=false:=(hbb2.frozen so so).trans gs;have hz3:w.heap.size+1+1 < w2.heap.size:=om;have HC2:=hid (Zt3 hb2 om (Zt3 hb6 om HC4.out))))
  refine bodyPost_ret (v:=VV ⟨4,0,YC l row⟩ ⟨a6,c6⟩) (by first|(simp [results,Tryz.f94,go_sem];done)|(simp [results,Tryz.f94,go_sem,rq0,rq1,rq2,rf0,rf1,rf2,hz3];done)) rfl ?_
  exact ⟨Zt1,⟨⟨a6,c6⟩,rfl,Zl.2 (Zug (fun b hb _=>om) _ _ (Zt8 (((Zt4 so).trans (Zt4 so)).trans (Zt4 so)) _ _ (Zt8 (ZtY hb2) _ _ HRP.out)))⟩,Zt3 (B:=w.heap.size) ZtX hcs HC2.out⟩
 have HN:=hid hN
 clear hN
 simp only [Res.bind]
 exact Zl7
set_option maxRecDepth 512
def ZRes (W:World) (B:Nat):Prop:=(W.cell? ⟨B,0,none⟩=some (.int .u8 0)∧W.cell? ⟨B,1,none⟩=some (.int .i64 0)∧W.cell? ⟨B,2,none⟩=some (.slice none 0 0))∧W.frozen? ⟨B,0,none⟩=false∧W.frozen? ⟨B,1,none⟩=false∧W.frozen? ⟨B,2,none⟩=false
theorem ZRes.but {c B N:Nat} {w w':World} (h:ZRes w B) (hb:But c N w w') (h1:B < N) (h2:B≠c):ZRes w' B:=by
 obtain ⟨⟨a0,a1,a2⟩,f0,f1,f2⟩:=h
 exact ⟨⟨(hb.cell h1 h2).trans a0,(hb.cell h1 h2).trans a1,(hb.cell h1 h2).trans a2⟩,(hb.frozen h1 h2).trans f0,(hb.frozen h1 h2).trans f1,(hb.frozen h1 h2).trans f2⟩
end Go.Proofs.YtkdffbdnjfgpeaaGreat
