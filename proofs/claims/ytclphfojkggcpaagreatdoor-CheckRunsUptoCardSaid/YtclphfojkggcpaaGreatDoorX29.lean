/- Part 30. -/
import Derived.Test.YtclphfojkggcpaaGreatDoorX25
import Derived.Test.YtclphfojkggcpaaGreatDoorX28
set_option linter.all false
namespace Go.Proofs.YtclphfojkggcpaaGreatDoor
open Go.Lib (hid)
open Go Go.RowKit Go.Proofs.Tryz
theorem QQ (x:GV) (m:VA) (w:World) (A:Nat→Prop) (ox:okV x) (hl:RV w A x m.a):Calls prog 58 #[VV x m] w (ZhC x w):=
 Zgj x m w A ox (fun W h=>Za8 (Zi x.l) x.l W A m.a m.c (Nat.le_refl _) (ZA.1 ox).2.2.1 (ZA.1 ox).2.2.2 h) (Zl.1 hl)
set_option maxRecDepth 100000
set_option maxHeartbeats 2000000
theorem Zk5 (c:Nat) (s:ByteArray) (f:Nat) (t:GT) (e:Env) (i:Nat) (w:World) (x:TA) (a:Option Addr) (hb:Zc s=true) (hg:Zp (!e.isEmpty) t) (ox:okT t) (hk:t.k=1) (hc:Cur w c s i false) (hr:RT w (fun b=>b≠c) t x):
  Calls prog 77 #[.agg #[.pointer (some ⟨c,0,none⟩)],TV t x,.pointer a] w (UH c s (Zd s (f+1) t e i) w):=by
 rw [ZaN _ _ _ _ _ hk]
 obtain ⟨ma,mb,mc,md,me,mf,mg,mh,mi,mj,mk,ml⟩:=x
 have hcs:c < w.heap.size:=World.block_lt_of_cell? _ _ hc.1.1
 have HC:=hid hc
 have HB:=hid hb
 obtain ⟨hrv1,hrv2,hrv3,hrv4,hrv5⟩:=Zo.1 hr
 have HR:=hid hr
 have H1:=hid hrv1
 have H2:=hid hrv2
 have H3:=hid hrv3
 have H4:=hid hrv4
 have HL:=hid hrv5
 obtain ⟨⟨x1,x2⟩,ov,⟨ovl,ovs⟩,⟨l1,l2⟩,⟨l3,l4⟩,⟨owl,ow⟩,op,oal,oa⟩:=Ze.1 ox
 have OX:=hid ox
 have OV:=hid ov
 have OVS:=hid ovs
 have OW:=hid ow
 have OP:=hid op
 have O:=hid oa
 have HND:=hid (Zk.1 hg).1
 have hse:=Zq t
 dsimp only at H1 H2 H3 H4 HL
 have hk1:(t.k==1)=true:=by simp [hk]
 clear hg ox hr hc hb hrv1 hrv2 hrv3 hrv4 hrv5 ov ovs ow op oa hk
 go_enter func77,ntmps77
 go_wp2_with (go_at_call 58;refine (QQ t.v ⟨ma,mb⟩ _ (fun b=>b≠c) OV.out (by exact ZmG az _ _ H1.out)).mono ?_;(rintro e1 w2 ⟨hb2,m2,rfl,hrv⟩;have HRV:=hid hrv;clear hrv;have hbb2:=Zng (c:=c) hb2;have hz2:=hb2.size;(try simp at hz2);have hbb:But c w.heap.size w w2:=ZmN;have rq0:w2.cell? ⟨w.heap.size+1+1,0,none⟩=some (.int .u8 0):=(hbb2.cell so so).trans gs;have rq1:w2.cell? ⟨w.heap.size+1+1,1,none⟩=some (.int .i64 0):=(hbb2.cell so so).trans gs;have rq2:w2.cell? ⟨w.heap.size+1+1,2,none⟩=some (.slice none 0 0):=(hbb2.cell so so).trans gs;have rf0:w2.frozen? ⟨w.heap.size+1+1,0,none⟩=false:=(hbb2.frozen so so).trans gs;have rf1:w2.frozen? ⟨w.heap.size+1+1,1,none⟩=false:=(hbb2.frozen so so).trans gs;have rf2:w2.frozen? ⟨w.heap.size+1+1,2,none⟩=false:=(hbb2.frozen so so).trans gs;have hz3:w.heap.size+1+1 < w2.heap.size:=om;have HC2:=hid (ZlW (B:=w.heap.size) (w':=w2) ZlU hcs HC.out)))
 refine bodyPost_ret (v:=VV t.v m2) (by first|(simp [results,Tryz.f77,go_sem];done)|(simp [results,Tryz.f77,go_sem,rq0,rq1,rq2,rf0,rf1,rf2,hz3];done)) rfl ?_
 exact ⟨ZmN,⟨m2,rfl,ZmO (fun b hb _=>by (try simp at hb);omega) _ _ (ZmG (((ZmA so).trans (ZmA so)).trans (ZmA so)) _ _ HRV.out)⟩,ZlW (B:=w.heap.size) ZlU hcs HC2.out⟩
theorem Zk6 (c:Nat) (s:ByteArray) (f:Nat) (t:GT) (e:Env) (i:Nat) (w:World) (x:TA) (a:Option Addr) (hb:Zc s=true) (hg:Zp (!e.isEmpty) t) (ox:okT t) (hi:i≤s.size) (hk:t.k=2) (hc:Cur w c s i false) (hr:RT w (fun b=>b≠c) t x):
  Calls prog 77 #[.agg #[.pointer (some ⟨c,0,none⟩)],TV t x,.pointer a] w (UH c s (Zd s (f+1) t e i) w):=by
 rw [ZaO _ _ _ _ _ hk]
 obtain ⟨ma,mb,mc,md,me,mf,mg,mh,mi,mj,mk,ml⟩:=x
 have hcs:c < w.heap.size:=World.block_lt_of_cell? _ _ hc.1.1
 have HC:=hid hc
 have HB:=hid hb
 obtain ⟨hrv1,hrv2,hrv3,hrv4,hrv5⟩:=Zo.1 hr
 have HR:=hid hr
 have H1:=hid hrv1
 have H2:=hid hrv2
 have H3:=hid hrv3
 have H4:=hid hrv4
 have HL:=hid hrv5
 obtain ⟨⟨x1,x2⟩,ov,⟨ovl,ovs⟩,⟨l1,l2⟩,⟨l3,l4⟩,⟨owl,ow⟩,op,oal,oa⟩:=Ze.1 ox
 have OX:=hid ox
 have OV:=hid ov
 have OVS:=hid ovs
 have OW:=hid ow
 have OP:=hid op
 have O:=hid oa
 have HND:=hid (Zk.1 hg).1
 have hse:=Zq t
 dsimp only at H1 H2 H3 H4 HL
 obtain ⟨n1,n2,n3⟩:=Kw HND.out hk
 have hk1:(t.k==1)=false:=by simp [hk]
 have hk2:(t.k==2)=true:=by simp [hk]
 clear hg ox hr hc hb hrv1 hrv2 hrv3 hrv4 hrv5 ov ovs ow op oa hk
 rcases hN:WK s t.lo t.hi i with ⟨n,j⟩|⟨k⟩
 ·have HN:=hid hN
  clear hN
  simp only [Res.map]
  go_enter func77,ntmps77
  go_wp2_with (first
   | (go_at_call 115;refine (U6 c s i t.lo t.hi _ HB.out hi n1 n2 n3 (by exact ZlW (B:=w.heap.size) ZlU hcs HC.out)).mono ?_;rw [HN.out];rintro e1 w3 ⟨hb3,rfl,hc3⟩;have HC3:=hid hc3;clear hc3;have hz0:=hb3.size;simp at hz0)
   | (go_at_call 114;refine (Zgq n _).mono ?_;(rintro e1 w2 ⟨rfl,hb2'⟩;have hbb2:=hb3.trans (Zng (c:=c) (hb2'.mono (Nat.le_trans sm hb3.size)));have hb2:=hb2';have hz2:=hb2.size;have hbb:But c w.heap.size w w2:=ZmN;have hz2:=hb2.size;(try simp at hz2);have hbb:But c w.heap.size w w2:=ZmN;have rq0:w2.cell? ⟨w.heap.size+1+1,0,none⟩=some (.int .u8 0):=(hbb2.cell so so).trans gs;have rq1:w2.cell? ⟨w.heap.size+1+1,1,none⟩=some (.int .i64 0):=(hbb2.cell so so).trans gs;have rq2:w2.cell? ⟨w.heap.size+1+1,2,none⟩=some (.slice none 0 0):=(hbb2.cell so so).trans gs;have rf0:w2.frozen? ⟨w.heap.size+1+1,0,none⟩=false:=(hbb2.frozen so so).trans gs;have rf1:w2.frozen? ⟨w.heap.size+1+1,1,none⟩=false:=(hbb2.frozen so so).trans gs;have rf2:w2.frozen? ⟨w.heap.size+1+1,2,none⟩=false:=(hbb2.frozen so so).trans gs;have hz3:w.heap.size+1+1 < w2.heap.size:=om;have HC2:=hid (ZlW hb2 om HC3.out))))
  refine bodyPost_ret (v:=VV ⟨1,n,[]⟩ ⟨none,0⟩) (by first|(simp [results,Tryz.f77,go_sem];done)|(simp [results,Tryz.f77,go_sem,rq0,rq1,rq2,rf0,rf1,rf2,hz3];done)) rfl ?_
  exact ⟨ZmN,⟨⟨none,0⟩,rfl,by simp [RV,RVs]⟩,ZlW (B:=w.heap.size) ZlU hcs HC2.out⟩
 have HN:=hid hN
 clear hN
 simp only [Res.map]
 go_enter func77,ntmps77
 go_wp2_with (go_at_call 115;refine (U6 c s i t.lo t.hi _ HB.out hi n1 n2 n3 (by exact ZlW (B:=w.heap.size) ZlU hcs HC.out)).mono ?_;rw [HN.out];rintro e1 w3 ⟨hb3,rfl⟩)
 exact ⟨rfl,ZmN,rfl⟩
set_option maxRecDepth 512
theorem ZaX {f:Nat} {t:GT} {e:Env} (hk:¬t.k=1∧¬t.k=11∧¬t.k=10∧¬t.k=2∧¬t.k=4) (h:∃k n,wkT (f+1) t e k n≠none):∀x∈t.a,∃k n,wkT f x e k n≠none:=by
 obtain ⟨k,n,h⟩:=h
 have key:∀(l:List GT) (k' d q:Int),Zx (fun n x=>wkT f x e k' n) l d q≠none→∀x∈l,∃k n,wkT f x e k n≠none:=by
  intro l
  induction l with
  | nil=>intro k' d q _ x hx;simp at hx
  | cons y l ih=>
   intro k' d q hn x hx
   simp only [Zx] at hn
   cases hw:wkT f y e k' q with
   | none=>rw [hw] at hn;exact absurd rfl hn
   | some p=>
    rw [hw] at hn
    rcases List.mem_cons.1 hx with rfl|hx
    ·exact ⟨k',q,by rw [hw];simp⟩
    exact ih _ _ _ hn x hx
 unfold wkT at h
 rw [if_neg hk.1,if_neg hk.2.1,if_neg hk.2.2.1] at h
 cases hs:Zu n k with
 | none=>rw [hs] at h;exact absurd rfl h
 | some n1=>
  rw [hs] at h
  simp only [] at h
  rw [if_neg hk.2.2.2.1,if_neg hk.2.2.2.2] at h
  split at h
  ·refine key t.a (k*max 1 t.hi) 0 n1 fun e1=>?_
   rw [e1] at h;exact h rfl
  split at h
  ·exact key t.a k 0 n1 h
  refine key t.a k 0 n1 fun e1=>?_
  rw [e1] at h;exact h rfl
theorem U7 {S f:Nat} {t:GT} {e:Env} (hg:Zp (!e.isEmpty) t) (ox:okT t) (hs:Zb t≤S) (hk:¬t.k=1∧¬t.k=11∧¬t.k=10∧¬t.k=2∧¬t.k=4) (h:∃k n,wkT (f+1) t e k n≠none):
  ∀x∈t.a,Zp (!e.isEmpty) x∧okT x∧Zb x≤S∧∃k n,wkT f x e k n≠none:=fun x hx=>
 ⟨YG hg hk.2.2.1 hx,Jl ox hx,by have:=Q6 hx;omega,ZaX hk h x hx⟩
theorem Zmq {p:Prop} (h:p:=by
 go_enter func77,ntmps77
 go_wp2_with (go_at_call 121;refine (HX.out _ (by exact ZlW (B:=w.heap.size) ZlU hcs HC.out) (by exact RTs.ext (ZlX ZmN) _ _ HL.out) (by exact ZmT (ZlX ZmN) _ _ HV.out)).mono ?_;rw [HN.out];rintro e1 w2 ⟨hb2,rfl⟩)
 exact ⟨rfl,ZmN,rfl⟩):p:=h
set_option maxRecDepth 100000
theorem Zk9 (c:Nat) (s:ByteArray) (S f:Nat) (hS:S≤1099511627776) (ih:Vn c s S f) (t:GT) (e:Env) (i:Nat) (w:World) (x:TA) (a:Option Addr) (hb:Zc s=true) (hg:Zp (!e.isEmpty) t) (ox:okT t) (hs:Zb t≤S) (he:Ye S e) (hi:i≤s.size) (hwk:∃k n,wkT (f+1) t e k n≠none) (hk:t.k=5) (hc:Cur w c s i false) (hr:RT w (fun b=>b≠c) t x) (hv:REnv w (fun b=>b≠c) e a):
  Calls prog 77 #[.agg #[.pointer (some ⟨c,0,none⟩)],TV t x,.pointer a] w (UH c s (Zd s (f+1) t e i) w):=by
 rw [ZaR _ _ _ _ _ hk]
 have hargs:=U7 hg ox hs om hwk
 obtain ⟨ma,mb,mc,md,me,mf,mg,mh,mi,mj,mk,ml⟩:=x
 have hcs:c < w.heap.size:=World.block_lt_of_cell? _ _ hc.1.1
 have HC:=hid hc
 have HB:=hid hb
 obtain ⟨hrv1,hrv2,hrv3,hrv4,hrv5⟩:=Zo.1 hr
 have HR:=hid hr
 have H1:=hid hrv1
 have H2:=hid hrv2
 have H3:=hid hrv3
 have H4:=hid hrv4
 have HL:=hid hrv5
 obtain ⟨⟨x1,x2⟩,ov,⟨ovl,ovs⟩,⟨l1,l2⟩,⟨l3,l4⟩,⟨owl,ow⟩,op,oal,oa⟩:=Ze.1 ox
 have OX:=hid ox
 have OV:=hid ov
 have OVS:=hid ovs
 have OW:=hid ow
 have OP:=hid op
 have O:=hid oa
 have HND:=hid (Zk.1 hg).1
 have hse:=Zq t
 dsimp only at H1 H2 H3 H4 HL
 have h64:=Wt HND.out (.inl hk)
 have HV:=hid hv
 have HX:=hid (fun (W:World) h1 h2 h3=>KF c s S f hS ih HB.out t.a e i W a mk ml h64 hargs he hi h1 h2 h3)
 have hk1:(t.k==1)=false:=by simp [hk]
 have hk2:(t.k==2)=false:=by simp [hk]
 have hk3:(t.k==3)=false:=by simp [hk]
 have hk4:(t.k==4)=false:=by simp [hk]
 have hk5:(t.k==5)=true:=by simp [hk]
 clear hg ox hr hc hb hrv1 hrv2 hrv3 hrv4 hrv5 ov ovs ow op oa hk hargs hv he ih hwk
 rcases hN:Xt (fun x=>Zd s f x e) t.a i with ⟨l,j⟩|⟨k⟩
 ·have HN:=hid hN
  clear hN
  simp only [Res.map]
  go_enter func77,ntmps77
  go_wp2_with (go_at_call 121;refine (HX.out _ (by exact ZlW (B:=w.heap.size) ZlU hcs HC.out) (by exact RTs.ext (ZlX ZmN) _ _ HL.out) (by exact ZmT (ZlX ZmN) _ _ HV.out)).mono ?_;rw [HN.out];rintro e1 w2 ⟨hb2,⟨a2,c2,rfl,hrv⟩,hc2⟩;have HRV:=hid hrv;have HC2:=hid hc2;clear hrv hc2;have hbb2:=hb2;have hz2:=hb2.size;(try simp at hz2);have hbb:But c w.heap.size w w2:=ZmN;have rq0:w2.cell? ⟨w.heap.size+1+1,0,none⟩=some (.int .u8 0):=(hbb2.cell so so).trans gs;have rq1:w2.cell? ⟨w.heap.size+1+1,1,none⟩=some (.int .i64 0):=(hbb2.cell so so).trans gs;have rq2:w2.cell? ⟨w.heap.size+1+1,2,none⟩=some (.slice none 0 0):=(hbb2.cell so so).trans gs;have rf0:w2.frozen? ⟨w.heap.size+1+1,0,none⟩=false:=(hbb2.frozen so so).trans gs;have rf1:w2.frozen? ⟨w.heap.size+1+1,1,none⟩=false:=(hbb2.frozen so so).trans gs;have rf2:w2.frozen? ⟨w.heap.size+1+1,2,none⟩=false:=(hbb2.frozen so so).trans gs;have hz3:w.heap.size+1+1 < w2.heap.size:=om)
  refine bodyPost_ret (v:=VV ⟨3,0,l⟩ ⟨a2,c2⟩) (by first|(simp [results,Tryz.f77,go_sem];done)|(simp [results,Tryz.f77,go_sem,rq0,rq1,rq2,rf0,rf1,rf2,hz3];done)) rfl ?_
  exact ⟨ZmN,⟨⟨a2,c2⟩,rfl,Zl.2 (Znh (fun b hb _=>by (try simp at hb);omega) _ _ (ZmQ (((ZmA so).trans (ZmA so)).trans (ZmA so)) _ _ HRV.out))⟩,ZlW (B:=w.heap.size) ZlU hcs HC2.out⟩
 have HN:=hid hN
 clear hN
 simp only [Res.map]
 exact Zmq
set_option maxRecDepth 512
theorem Zaq (s:ByteArray) (n i c:Nat) (N:Int) (hN:N=n) (w:World) (hb:Zc s=true) (hi:i≤s.size) (hn:n≤64) (hc:Cur w c s i false):
  Calls prog 125 #[.pointer (some ⟨c,0,none⟩),.int .i64 N] w (Zb7 c s (Xi s n i) w):=by
 subst hN
 rcases Nat.eq_zero_or_pos n with h|h
 ·subst h;exact Zb5 s i c w hc
 exact Zdh s n i c w hb hi ⟨h,hn⟩ hc
theorem Agree.butFrom {c B:Nat} {w w':World} (hb:But c w.heap.size w w') (hc:c < B):Agree (fun b=>B≤b) w w':=fun q u hA hq=>hb.ag (World.block_lt_of_cell? _ _ hq) om hq
set_option maxRecDepth 100000
theorem Zlb (c:Nat) (s:ByteArray) (S f:Nat) (hS:S≤1099511627776) (ih:Vn c s S f) (t:GT) (e:Env) (i:Nat) (w:World) (x:TA) (a:Option Addr) (hb:Zc s=true) (hg:Zp (!e.isEmpty) t) (ox:okT t) (hs:Zb t≤S) (he:Ye S e) (hi:i≤s.size) (hwk:∃k n,wkT (f+1) t e k n≠none) (hk:t.k=7) (hc:Cur w c s i false) (hr:RT w (fun b=>b≠c) t x) (hv:REnv w (fun b=>b≠c) e a):
  Calls prog 77 #[.agg #[.pointer (some ⟨c,0,none⟩)],TV t x,.pointer a] w (UH c s (Zd s (f+1) t e i) w):=by
 rw [ZaT _ _ _ _ _ hk]
 have hargs:=U7 hg ox hs om hwk
 obtain ⟨ma,mb,mc,md,me,mf,mg,mh,mi,mj,mk,ml⟩:=x
 have hcs:c < w.heap.size:=World.block_lt_of_cell? _ _ hc.1.1
 have HC:=hid hc
 have HB:=hid hb
 obtain ⟨hrv1,hrv2,hrv3,hrv4,hrv5⟩:=Zo.1 hr
 have HR:=hid hr
 have H1:=hid hrv1
 have H2:=hid hrv2
 have H3:=hid hrv3
 have H4:=hid hrv4
 have HL:=hid hrv5
 obtain ⟨⟨x1,x2⟩,ov,⟨ovl,ovs⟩,⟨l1,l2⟩,⟨l3,l4⟩,⟨owl,ow⟩,op,oal,oa⟩:=Ze.1 ox
 have OX:=hid ox
 have OV:=hid ov
 have OVS:=hid ovs
 have OW:=hid ow
 have OP:=hid op
 have O:=hid oa
 have HND:=hid (Zk.1 hg).1
 have hse:=Zq t
 dsimp only at H1 H2 H3 H4 HL
 have h64:=Wt HND.out (.inr (.inl hk))
 have HV:=hid hv
 have HX:=hid (fun (W:World) h1 h2 h3=>KF c s S f hS ih HB.out t.a e i W a mk ml h64 hargs he hi h1 h2 h3)
 have hin:=QM (D:=okV) (m:=s.size) t.a i hi (fun y hy q hq=>WJ s S f y e q (hargs y hy).1 (hargs y hy).2.1 (hargs y hy).2.2.1 he hq)
 have hk1:(t.k==1)=false:=by simp [hk]
 have hk2:(t.k==2)=false:=by simp [hk]
 have hk3:(t.k==3)=false:=by simp [hk]
 have hk4:(t.k==4)=false:=by simp [hk]
 have hk5:(t.k==5)=false:=by simp [hk]
 have hk6:(t.k==6)=false:=by simp [hk]
 have hk7:(t.k==7)=true:=by simp [hk]
 clear hg ox hr hc hb hrv1 hrv2 hrv3 hrv4 hrv5 ov ovs ow op oa hk hargs hv he ih hwk
 rcases hN:Xt (fun x=>Zd s f x e) t.a i with ⟨l,j⟩|⟨k⟩
 ·rw [hN] at hin
  obtain ⟨hi1,hi2,hi3,hi4⟩:=hin
  have HN:=hid hN
  have hll:l.length≤64:=om
  obtain ⟨c1,c2',c3⟩:=ZbD s l.length j hi2
  have HP3:=hid c3
  clear hN hi4 c3 hi3
  simp only [Res.bind]
  rcases hP:Xi s l.length j with ⟨_|row,q⟩
  ·have HP:=hid hP
   clear hP
   simp only [Y2,Res.map]
   go_enter func77,ntmps77
   go_wp2_with (first
    | (go_at_call 121;refine (HX.out _ (by exact ZlW (B:=w.heap.size) ZlU hcs HC.out) (by exact RTs.ext (ZlX ZmN) _ _ HL.out) (by exact ZmT (ZlX ZmN) _ _ HV.out)).mono ?_;rw [HN.out];rintro e1 w2 ⟨hb2,⟨a2,c2,rfl,hrv⟩,hc2⟩;have HRV:=hid hrv;have HC2:=hid hc2;clear hrv hc2;have hz2:=hb2.size;simp at hz2;have r30:w2.cell? ⟨w.heap.size,0,none⟩=some (.pointer (some ⟨c,0,none⟩)):=(hb2.cell so so).trans gs)
    | (go_at_call 125;refine (Zaq s l.length j c _ om _ HB.out hi2 hll (by exact HC2.out)).mono ?_;rw [HP.out];rintro e1 w3 ⟨hb3,rfl,hc3⟩;have hz3':=hb3.size)
    | (go_at_call 124;refine (ZbA _ _ _ _).mono ?_;rintro e1 w4 ⟨rfl,hb4⟩))
   exact ⟨rfl,ZmN,rfl⟩
  have HP:=hid hP
  obtain ⟨hr1,hr2⟩:=HP3.out row (by rw [hP])
  have HRW:=hid hr2
  have hr64:row.length≤64:=om
  clear hP hr2 hr1
  simp only [Y2,Res.map]
  go_enter func77,ntmps77
  go_wp2_with (first
   | (go_at_call 121;refine (HX.out _ (by exact ZlW (B:=w.heap.size) ZlU hcs HC.out) (by exact RTs.ext (ZlX ZmN) _ _ HL.out) (by exact ZmT (ZlX ZmN) _ _ HV.out)).mono ?_;rw [HN.out];rintro e1 w3 ⟨hb3,⟨a2,c2,rfl,hrv⟩,hc2⟩;have HRV:=hid (Znh (A':=fun b=>w.heap.size+1+1+1≤b) (fun b hb _=>(by simp at hb;omega)) _ _ hrv);have HC3:=hid hc2;clear hrv hc2;have hz3':=hb3.size;simp at hz3';have r30:w3.cell? ⟨w.heap.size,0,none⟩=some (.pointer (some ⟨c,0,none⟩)):=(hb3.cell so so).trans gs)
   | (go_at_call 125;refine (Zaq s l.length j c _ om _ HB.out hi2 hll (by exact HC3.out)).mono ?_;rw [HP.out];rintro e1 w4 ⟨hb4,⟨a4,c4,rfl,hri⟩,hc4⟩;have HRI:=hid hri;have HC4:=hid hc4;clear hri hc4;have hz4':=hb4.size)
   | (go_at_call 124;refine (Xy _ _ _ _).mono ?_;rintro e1 w5 ⟨rfl,rfl⟩)
   | (go_at_call 123;refine (Zd8 l row (fun b=>w.heap.size+1+1+1≤b) _ _ a2 a4 c2 c4 om hr64 HRW.out (by exact ZmQ (Agree.butFrom hb4 om) _ _ HRV.out) (by exact HRI.out)).mono ?_;rintro e1 w6 ⟨hb6,a6,c6,rfl,hrp⟩;have HRP:=hid (Znh (A':=fun b=>w.heap.size+1+1+1≤b) (fun b hb _=>(by rcases hb with h|h;exact h;omega)) _ _ hrp);clear hrp;have hz6:=hb6.size)
   | (go_at_call 122;refine (VX _ _ _ _).mono ?_;rintro e1 w2 ⟨rfl,hb2'⟩;have hb2:=hb2';have hbb2:=hb3.trans ((hb4.mono hb3.size).trans ((Zng (c:=c) (hb6.mono (Nat.le_trans hb3.size hb4.size))).trans (Zng (hb2'.mono (Nat.le_trans hb3.size (Nat.le_trans hb4.size hb6.size))))));have hz2:=hb2.size;(try simp at hz2);have hbb:But c w.heap.size w w2:=ZmN;have rq0:w2.cell? ⟨w.heap.size+1+1,0,none⟩=some (.int .u8 0):=(hbb2.cell so so).trans gs;have rq1:w2.cell? ⟨w.heap.size+1+1,1,none⟩=some (.int .i64 0):=(hbb2.cell so so).trans gs;have rq2:w2.cell? ⟨w.heap.size+1+1,2,none⟩=some (.slice none 0 0):=(hbb2.cell so so).trans gs;have rf0:w2.frozen? ⟨w.heap.size+1+1,0,none⟩=false:=(hbb2.frozen so so).trans gs;have rf1:w2.frozen? ⟨w.heap.size+1+1,1,none⟩=false:=(hbb2.frozen so so).trans gs;have rf2:w2.frozen? ⟨w.heap.size+1+1,2,none⟩=false:=(hbb2.frozen so so).trans gs;have hz3:w.heap.size+1+1 < w2.heap.size:=om;have HC2:=hid (ZlW hb2 om (ZlW hb6 om HC4.out))))
  refine bodyPost_ret (v:=VV ⟨4,0,YC l row⟩ ⟨a6,c6⟩) (by first|(simp [results,Tryz.f77,go_sem];done)|(simp [results,Tryz.f77,go_sem,rq0,rq1,rq2,rf0,rf1,rf2,hz3];done)) rfl ?_
  exact ⟨ZmN,⟨⟨a6,c6⟩,rfl,Zl.2 (Znh (fun b hb _=>om) _ _ (ZmQ (((ZmA so).trans (ZmA so)).trans (ZmA so)) _ _ (ZmQ (ZlH hb2) _ _ HRP.out)))⟩,ZlW (B:=w.heap.size) ZlU hcs HC2.out⟩
 have HN:=hid hN
 clear hN
 simp only [Res.bind]
 exact Zmq
set_option maxRecDepth 512
def ZRes (W:World) (B:Nat):Prop:=(W.cell? ⟨B,0,none⟩=some (.int .u8 0)∧W.cell? ⟨B,1,none⟩=some (.int .i64 0)∧W.cell? ⟨B,2,none⟩=some (.slice none 0 0))∧W.frozen? ⟨B,0,none⟩=false∧W.frozen? ⟨B,1,none⟩=false∧W.frozen? ⟨B,2,none⟩=false
theorem ZRes.but {c B N:Nat} {w w':World} (h:ZRes w B) (hb:But c N w w') (h1:B < N) (h2:B≠c):ZRes w' B:=by
 obtain ⟨⟨a0,a1,a2⟩,f0,f1,f2⟩:=h
 exact ⟨⟨(hb.cell h1 h2).trans a0,(hb.cell h1 h2).trans a1,(hb.cell h1 h2).trans a2⟩,(hb.frozen h1 h2).trans f0,(hb.frozen h1 h2).trans f1,(hb.frozen h1 h2).trans f2⟩
theorem ZbL (s:ByteArray) (n i c:Nat) (w:World) (hb:Zc s=true) (hi:i≤s.size) (hn:n≤64) (hc:Cur w c s i false):
  Calls prog 102 #[.pointer (some ⟨c,0,none⟩),.int .i64 n] w (Zb7 c s (Xi s n i) w):=by
 rcases Nat.eq_zero_or_pos n with h|h
 ·subst h;exact Zdm s i c w hc
 exact Zek s n i c w hb hi ⟨h,hn⟩ hc
set_option maxRecDepth 100000
set_option maxHeartbeats 4000000
theorem Zk2 (c:Nat) (s:ByteArray) (f:Nat) (ih:WT c s f) (t:GT) (i:Nat) (w:World) (m:TA) (hb:Zc s=true) (hk:t.k=7) (hn:ZG t=0) (hx:∀x∈t.a,Zp false x∧okT x∧∃k n,wkT f x [] k n≠none) (hi:i≤s.size) (hc:Cur w c s i false) (hl:RT w (fun b=>b≠c) t m):
  Calls prog 63 #[.pointer (some ⟨c,0,none⟩),TV t m] w (WL c s (Zd s (f+1) t [] i) w):=by
 rw [ZaT s f t [] i hk]
 obtain ⟨ma,mb,mc,md,me,mf,mg,mh,mi,mj,mk,ml⟩:=m
 have h64:=Wt hn (.inr (.inl hk))
 have hin:=QM (D:=okV) (m:=s.size) t.a i hi (fun y hy q hq=>WJ s (Zb y) f y [] q (hx y hy).1 (hx y hy).2.1 (Nat.le_refl _) trivial hq)
 have HL:=hid (Zo.1 hl).2.2.2.2
 have HC:=hid hc
 have HB:=hid hb
 have HX:=hid hx
 have IH:=hid ih
 have hcs:c < w.heap.size:=World.block_lt_of_cell? _ _ hc.1.1
 have hk1:(t.k==1)=false:=by simp [hk]
 have hk2:(t.k==2)=false:=by simp [hk]
 have hk3:(t.k==3)=false:=by simp [hk]
 have hk4:(t.k==4)=false:=by simp [hk]
 have hk5:(t.k==5)=false:=by simp [hk]
 have hk6:(t.k==6)=false:=by simp [hk]
 have hk7:(t.k==7)=true:=by simp [hk]
 obtain ⟨i0,hi0,g0,g1,g2⟩:=info_parts US
 clear hc hk hl hx ih hn hb
 rcases hN:Xt (fun x=>Zd s f x []) t.a i with ⟨l,j⟩|⟨k⟩
 ·rw [hN] at hin
  obtain ⟨hi1,hi2,hi3,hi4⟩:=hin
  have HN:=hid hN
  have hll:l.length≤64:=om
  obtain ⟨c1,c2',c3⟩:=ZbD s l.length j hi2
  simp only [Res.bind]
  clear hN hi3 hi4 c1
  rcases hP:Xi s l.length j with ⟨_|row,q⟩
  ·have HP:=hid hP
   clear hP c2' c3
   show Calls _ _ _ _ (WL c s (.no 2) w)
   go_enter func63,ntmps63
   go_wp2_with (first
    | (go_at_call 99;refine (XU c s f IH.out t.a i _ mk ml h64 HX.out hi (by exact ZlW (B:=w.heap.size) ZlD hcs HC.out) (by exact RTs.ext ar _ _ HL.out)).mono ?_;rw [HN.out];rintro e w2 ⟨hb2,⟨a2,cp2,rfl,hrv⟩,hc2⟩;have HC2:=hid hc2;clear hc2 hrv;have hz2:=hb2.size;(try simp at hz2);obtain ⟨hc2,hf2⟩:=ZE hb2;have y1:w.heap.size+1 < w2.heap.size:=om;have y2:¬w.heap.size+1=c:=om;have y3:¬w.heap.size=c:=om)
    | (go_at_call 102;refine (ZbL s l.length j c _ HB.out hi2 hll (by exact HC2.out)).mono ?_;rw [HP.out];rintro e1 w3 ⟨hb3,rfl,hc3⟩;clear hc3;have hz3:=hb3.size;(try simp at hz3);obtain ⟨hc3,hf3⟩:=ZE hb3;have y4:w.heap.size+1 < w3.heap.size:=om))
   refine bodyPost_ret (v:=(.tuple #[VV ⟨0,0,[]⟩ ⟨none,0⟩,.int .u8 2])) (by first|(simp [results,Tryz.f63,go_sem];done)|(simp [results,Tryz.f63,go_sem, *];done)) rfl ?_
   exact ⟨ZmR,rfl,om,om⟩
  rw [hP] at c2' c3
  obtain ⟨hr1,hr2⟩:=c3 row rfl
  have HM:=hid hr2
  have hr64:row.length≤64:=om
  have hpl:(YC l row).length=row.length:=X6 _ _ hr2
  have HPL0:=hid hpl
  have HP:=hid hP
  clear hP c3 hr2 hpl hr1
  show Calls _ _ _ _ (WL c s (.ok ⟨4,0,YC l row⟩ q) w)
  go_enter func63,ntmps63
  go_wp2_with (first
   | (go_at_call 99;refine (XU c s f IH.out t.a i _ mk ml h64 HX.out hi (by exact ZlW (B:=w.heap.size) ZlD hcs HC.out) (by exact RTs.ext ar _ _ HL.out)).mono ?_;rw [HN.out];rintro e w2 ⟨hb2,⟨a2,cp2,rfl,hrv⟩,hc2⟩;have HC2:=hid hc2;have HRV:=hid (Znh (A':=fun b=>w.heap.size+2≤b) (fun b hb _=>(by (try simp at hb);omega)) _ _ hrv);clear hc2 hrv;have hz2:=hb2.size;(try simp at hz2);have y1:w.heap.size+1 < w2.heap.size:=om;have y2:¬w.heap.size+1=c:=om;have y3:¬w.heap.size=c:=om;have hbb2:But c w.heap.size w w2:=ZmR;have HZ2:=hid (show ZRes w2 (w.heap.size+1) from (by obtain ⟨hc2,hf2⟩:=ZE hb2;exact ⟨⟨gs,gs,gs⟩,gs,gs,gs⟩));clear hb2)
   | (go_at_call 102;refine (ZbL s l.length j c _ HB.out hi2 hll (by exact HC2.out)).mono ?_;rw [HP.out];rintro e1 w3 ⟨hb3,⟨a3,cp3,rfl,hri⟩,hc3⟩;have HC3:=hid hc3;have HI:=hid hri;have HR3:=hid (Znh (A':=fun b=>w.heap.size+2≤b∧b < w3.heap.size) (fun b h hb=>⟨h,hb⟩) _ _ (ZmQ (Agree.butFrom hb3 om) _ _ HRV.out));clear hc3 hri;have hz3:=hb3.size;(try simp at hz3);have y4:w.heap.size+1 < w3.heap.size:=om;have HZ3:=hid (HZ2.out.but hb3 y1 y2);have hbb3:But c w.heap.size w w3:=hbb2.trans (hb3.mono om);clear hb3))
  clear HRV HZ2 HC2 hbb2
  go_loopg [23,24] (row.length) (fun gk t23 i' wr=>∃(k:Nat) (ps:List (GV×VA)) (v:Value),v=t23∧gk+k=row.length∧i'=.int .i64 k∧Below w3.heap.size w3 wr∧Hid (ps.length=k)∧Hid (ps.map Prod.fst=YC l (row.take k)) ∧
   Hid (wr.ownsRow w3.heap.size 24 3 v k (Xd ps))∧Hid (∀q∈ps,RV wr (Own w3.heap.size (fun b=>w.heap.size+2≤b) v) q.1 q.2.a))
  case atStart=>exact ⟨0,[],_,rfl,om,rfl,Below.refl _ _,hid rfl,hid rfl,hid (World.ownsRow_nil _ _ _ _),hid (fun q hq=>by simp at hq)⟩
  case round=>
   obtain ⟨k,ps,v,rfl,hk,rfl,hbr,HPL,HPS,HO,HQ⟩:=hrel
   have hzr:=hbr.size
   by_cases hlt:k < row.length
   ·obtain ⟨b1,o1,rfl,hA1,hbs1,h1⟩:=HI.out.get k hlt
    obtain ⟨x0,x1⟩:=HM.out row[k] (List.getElem_mem hlt)
    obtain ⟨n,hn⟩:∃n:Nat,row[k]=(n:Int):=⟨row[k].toNat,om⟩
    have hnl:n < l.length:=om
    have hnI:(n:Int) < (l.length:Int):=om
    have hst:=UZ l row k hlt n hn hnl
    rw [hn] at h1
    have r0:wr.cell? ⟨b1,o1+k,none⟩=some (.int .i64 n):=(hbr.cell hbs1).trans h1
    obtain ⟨b,o,mj',rfl,hA,hbs,h0,gx⟩:=HR3.out.get n hnl
    obtain ⟨k0,k1,k2⟩:=At3.1 (h0.ext (ZlH hbr) (A:=fun _=>True) trivial)
    have hs1:b < wr.heap.size:=om
    have hs2:b1 < wr.heap.size:=om
    have HST:=hid hst
    clear h0 h1 hn x0 x1 hst
    go_wp2_with (at_builtin;refine wpList_append_lies _ rfl _ _ 22 rfl w3.heap.size 24 i0 _ 3 40 underlying22 hi0 g0 g1 g2 rfl (by decide) _ k _ (by rfl) (HO.out.alloc _) ⟨wr.heap.size,0,none⟩ 1 1 [.int .u8 l[n].k,.int .i64 l[n].n,.slice mj'.a l[n].l.length mj'.c] (by rfl) rfl (UK _ _ _ _ _) (by simp [Value.oneCell']) (by decide) (by unfold maxLen;omega) om (by simp;omega) (wr.heap.size+1) sm ?_;intro g cap w4 hown hgrow hat hlt1)
    have hownk:∀q,v.ownBlock=some q→w3.heap.size≤q:=fun q e=>(HO.out.lt _ e).1
    have hbw1:Below w3.heap.size wr w4:=Below.grown ((Below.refl _ _).alloc om _) hgrow (by simp;omega) hownk
    have hag2:Agree (Own w3.heap.size (fun b=>w.heap.size+2≤b) v) wr (wr.alloc (.cells #[.int .u8 l[n].k,.int .i64 l[n].n,.slice mj'.a l[n].l.length mj'.c] 24)):=ZlH ((Below.refl _ _).alloc (Nat.le_refl _) _)
    go_roundg (gk - 1)
    case measure=>omega
    case rel=>
     refine ⟨k+1,ps++[(l[n],mj')],_,rfl,om,by go_num,hbr.trans hbw1,hid (by have:=HPL.out;simp;omega),hid (by rw [List.map_append,HPS.out,HST.out];rfl),hid ?_,hid ?_⟩
     ·rw [X3];exact hown
     intro q hq
     rcases List.mem_append.1 hq with hq|hq
     ·exact Znj hgrow hownk hat sm (ZmG hag2 _ _ (HQ.out q hq))
     simp at hq
     subst hq
     exact Znj hgrow hownk hat sm (ZmG hag2 _ _ (ZmO (fun b h _=>.inl h) _ _ (ZmG (ZlH hbr) _ _ gx)))
   have hjl:k=row.length:=om
   subst hjl
   have hst:=HPS.out
   rw [List.take_length] at hst
   obtain ⟨av,cv,hav,hrd⟩:=VK (A:=fun b=>w.heap.size+2≤b) HO.out (fun b h=>om) (fun q hq=>ZmO (fun b hb _=>by rcases hb with ⟨h,_⟩|⟨h,_⟩;exact h;omega) _ _ (HQ.out q hq))
   rw [hst] at hav hrd
   subst hav
   have HRD:=hid hrd
   obtain ⟨⟨q0,q1,q2⟩,f0,f1,f2⟩:=HZ3.out.but (c:=c) (Zng hbr) y4 y2
   have y5:w.heap.size+1 < wr.heap.size:=om
   clear hst hrd HO HQ HPS HPL HR3
   go_wp2_with (go_at_call 100;refine (U2 4 av (YC l row).length cv _).mono ?_;rintro e w5 ⟨rfl,hb5⟩;have hz5:=hb5.size;(try simp at hz5);obtain ⟨hc5,hf5⟩:=Za hb5;have y7:w.heap.size+1 < w5.heap.size:=om)
   refine bodyPost_ret (v:=(.tuple #[VV ⟨4,0,YC l row⟩ ⟨av,cv⟩,.int .u8 1])) (by first|(simp [results,Tryz.f63,go_sem];done)|(simp [results,Tryz.f63,go_sem, *];done)) rfl ?_
   exact ⟨ZmR,⟨⟨av,cv⟩,rfl,Zl.2 (Znh (fun b hb _=>by (try simp at hb);omega) _ _ (ZmQ ((ZlH (show Below wr.heap.size wr w5 from ZlD)).trans (((ZmA so).trans (ZmA so)).trans (ZmA so))) _ _ HRD.out))⟩,ZlW (B:=w.heap.size+1) ZlD om HC3.out⟩
 have HN:=hid hN
 clear hN
 show Calls _ _ _ _ (WL c s (.no k) w)
 go_enter func63,ntmps63
 go_wp2_with (go_at_call 99;refine (XU c s f IH.out t.a i _ mk ml h64 HX.out hi (by exact ZlW (B:=w.heap.size) ZlD hcs HC.out) (by exact RTs.ext ar _ _ HL.out)).mono ?_;rw [HN.out];rintro e w2 ⟨hb2,rfl,hk8,hk9⟩;have hz2:=hb2.size;(try simp at hz2);obtain ⟨hc2,hf2⟩:=ZE hb2;have y1:w.heap.size+1 < w2.heap.size:=om;have y2:¬w.heap.size+1=c:=om;have y3:¬w.heap.size=c:=om;have hkb:(((k:Int)) != 1)=true:=(by simp;omega))
 refine bodyPost_ret (v:=(.tuple #[VV ⟨0,0,[]⟩ ⟨none,0⟩,.int .u8 k])) (by first|(simp [results,Tryz.f63,go_sem];done)|(simp [results,Tryz.f63,go_sem, *];done)) rfl ?_
 exact ⟨ZmR,rfl,hk8,hk9⟩
end Go.Proofs.YtclphfojkggcpaaGreatDoor
