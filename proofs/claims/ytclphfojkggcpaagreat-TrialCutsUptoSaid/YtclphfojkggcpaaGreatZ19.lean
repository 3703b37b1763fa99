/- What the proofs of the Trial statements need: part 20. -/
import Derived.Test.YtclphfojkggcpaaGreatZ10
import Derived.Test.YtclphfojkggcpaaGreatZ16
import Derived.Test.YtclphfojkggcpaaGreatZ18
set_option linter.unusedVariables false
set_option linter.unusedSimpArgs false
namespace Go.Proofs.YtclphfojkggcpaaGreat
open Go.Lib (hid)
open Go Go.RowKit
theorem copyV_any (x:GV) (m:VA) (w:World) (A:Nat→Prop) (ox:okV x) (hl:RV w A x m.a):Calls Tryz.prog 89 #[VV x m] w (CopyR x w):=
 copy_of x m w A ox (fun W h=>copies_any (sizeVs x.l) x.l W A m.a m.c (Nat.le_refl _) (okV_iff.1 ox).2.2.1 (okV_iff.1 ox).2.2.2 h) (RV_iff.1 hl)
set_option maxRecDepth 100000 in
set_option maxHeartbeats 2000000 in
theorem sam_1 (c:Nat) (s:ByteArray) (f:Nat) (t:GT) (e:Env) (i:Nat) (w:World) (x:TA) (a:Option Addr) (hb:isBits s=true) (hg:goodT (!e.isEmpty) t) (ox:okT t) (hk:t.k=1) (hc:Cur w c s i false) (hr:RT w (fun b=>b≠c) t x):
  Calls Tryz.prog 64 #[.agg #[.pointer (some ⟨c,0,none⟩)],TV t x,.pointer a] w (SamR c s (sampT s (f+1) t e i) w):=by
 rw [sampT_1 _ _ _ _ _ hk]
 obtain ⟨ma,mb,mc,md,me,mf,mg,mh,mi,mj,mk,ml⟩:=x
 have hcs:c < w.heap.size:=World.block_lt_of_cell? _ _ hc.1.1
 have HC:=hid hc
 have HB:=hid hb
 obtain ⟨hrv1,hrv2,hrv3,hrv4,hrv5⟩:=RT_iff.1 hr
 have HR:=hid hr
 have H1:=hid hrv1
 have H2:=hid hrv2
 have H3:=hid hrv3
 have H4:=hid hrv4
 have HL:=hid hrv5
 obtain ⟨⟨x1,x2⟩,ov,⟨ovl,ovs⟩,⟨l1,l2⟩,⟨l3,l4⟩,⟨owl,ow⟩,op,oal,oa⟩:=okT_iff.1 ox
 have OX:=hid ox
 have OV:=hid ov
 have OVS:=hid ovs
 have OW:=hid ow
 have OP:=hid op
 have O:=hid oa
 have HND:=hid (goodT_eq.1 hg).1
 have hse:=sizeT_eq t
 dsimp only at H1 H2 H3 H4 HL
 have hk1:(t.k==1)=true:=by simp [hk]
 clear hg ox hr hc hb hrv1 hrv2 hrv3 hrv4 hrv5 ov ovs ow op oa hk
 go_enter Tryz.func64,Tryz.ntmps64
 go_wp2_with (go_at_call 89;refine (copyV_any t.v ⟨ma,mb⟩ _ (fun b=>b≠c) OV.out (by exact RV.ext (Agree.below Below.z) _ _ H1.out)).mono ?_;(rintro e1 w2 ⟨hb2,m2,rfl,hrv⟩;have HRV:=hid hrv;clear hrv;have hbb2:=But.of (c:=c) hb2;have hz2:=hb2.size;(try simp at hz2);have hbb:But c w.heap.size w w2:=But.z;have rq0:w2.cell? ⟨w.heap.size+1+1,0,none⟩=some (.int .u8 0):=(hbb2.cell so so).trans (by go_simp);have rq1:w2.cell? ⟨w.heap.size+1+1,1,none⟩=some (.int .i64 0):=(hbb2.cell so so).trans (by go_simp);have rq2:w2.cell? ⟨w.heap.size+1+1,2,none⟩=some (.slice none 0 0):=(hbb2.cell so so).trans (by go_simp);have rf0:w2.frozen? ⟨w.heap.size+1+1,0,none⟩=false:=(hbb2.frozen so so).trans (by go_simp);have rf1:w2.frozen? ⟨w.heap.size+1+1,1,none⟩=false:=(hbb2.frozen so so).trans (by go_simp);have rf2:w2.frozen? ⟨w.heap.size+1+1,2,none⟩=false:=(hbb2.frozen so so).trans (by go_simp);have hz3:w.heap.size+1+1 < w2.heap.size:=(by omega);have HC2:=hid (Cur.below (B:=w.heap.size) (w':=w2) Below.z hcs HC.out)))
 refine bodyPost_ret (v:=VV t.v m2) (by first|(simp [results,Tryz.f64,go_sem];done)|(simp [results,Tryz.f64,go_sem,rq0,rq1,rq2,rf0,rf1,rf2,hz3];done)) rfl ?_
 exact ⟨But.z,⟨m2,rfl,RV.mono (fun b hb _=>by (try simp at hb);omega) _ _ (RV.ext (((Agree.set so).trans (Agree.set so)).trans (Agree.set so)) _ _ HRV.out)⟩,Cur.below (B:=w.heap.size) Below.z hcs HC2.out⟩
set_option maxRecDepth 100000 in
set_option maxHeartbeats 2000000 in
theorem sam_2 (c:Nat) (s:ByteArray) (f:Nat) (t:GT) (e:Env) (i:Nat) (w:World) (x:TA) (a:Option Addr) (hb:isBits s=true) (hg:goodT (!e.isEmpty) t) (ox:okT t) (hi:i≤s.size) (hk:t.k=2) (hc:Cur w c s i false) (hr:RT w (fun b=>b≠c) t x):
  Calls Tryz.prog 64 #[.agg #[.pointer (some ⟨c,0,none⟩)],TV t x,.pointer a] w (SamR c s (sampT s (f+1) t e i) w):=by
 rw [sampT_2 _ _ _ _ _ hk]
 obtain ⟨ma,mb,mc,md,me,mf,mg,mh,mi,mj,mk,ml⟩:=x
 have hcs:c < w.heap.size:=World.block_lt_of_cell? _ _ hc.1.1
 have HC:=hid hc
 have HB:=hid hb
 obtain ⟨hrv1,hrv2,hrv3,hrv4,hrv5⟩:=RT_iff.1 hr
 have HR:=hid hr
 have H1:=hid hrv1
 have H2:=hid hrv2
 have H3:=hid hrv3
 have H4:=hid hrv4
 have HL:=hid hrv5
 obtain ⟨⟨x1,x2⟩,ov,⟨ovl,ovs⟩,⟨l1,l2⟩,⟨l3,l4⟩,⟨owl,ow⟩,op,oal,oa⟩:=okT_iff.1 ox
 have OX:=hid ox
 have OV:=hid ov
 have OVS:=hid ovs
 have OW:=hid ow
 have OP:=hid op
 have O:=hid oa
 have HND:=hid (goodT_eq.1 hg).1
 have hse:=sizeT_eq t
 dsimp only at H1 H2 H3 H4 HL
 obtain ⟨n1,n2,n3⟩:=node_range HND.out hk
 have hk1:(t.k==1)=false:=by simp [hk]
 have hk2:(t.k==2)=true:=by simp [hk]
 clear hg ox hr hc hb hrv1 hrv2 hrv3 hrv4 hrv5 ov ovs ow op oa hk
 rcases hN:numD s t.lo t.hi i with ⟨n,j⟩|⟨k⟩
 ·have HN:=hid hN
  clear hN
  simp only [Res.map]
  go_enter Tryz.func64,Tryz.ntmps64
  go_wp2_with (first
   | (go_at_call 91;refine (samNum_any c s i t.lo t.hi _ HB.out hi n1 n2 n3 (by exact Cur.below (B:=w.heap.size) Below.z hcs HC.out)).mono ?_;rw [HN.out];rintro e1 w3 ⟨hb3,rfl,hc3⟩;have HC3:=hid hc3;clear hc3;have hz0:=hb3.size;simp at hz0)
   | (go_at_call 90;refine (num_any n _).mono ?_;(rintro e1 w2 ⟨rfl,hb2'⟩;have hbb2:=hb3.trans (But.of (c:=c) (hb2'.mono (Nat.le_trans (by simp) hb3.size)));have hb2:=hb2';have hz2:=hb2.size;have hbb:But c w.heap.size w w2:=But.z;have hz2:=hb2.size;(try simp at hz2);have hbb:But c w.heap.size w w2:=But.z;have rq0:w2.cell? ⟨w.heap.size+1+1,0,none⟩=some (.int .u8 0):=(hbb2.cell so so).trans (by go_simp);have rq1:w2.cell? ⟨w.heap.size+1+1,1,none⟩=some (.int .i64 0):=(hbb2.cell so so).trans (by go_simp);have rq2:w2.cell? ⟨w.heap.size+1+1,2,none⟩=some (.slice none 0 0):=(hbb2.cell so so).trans (by go_simp);have rf0:w2.frozen? ⟨w.heap.size+1+1,0,none⟩=false:=(hbb2.frozen so so).trans (by go_simp);have rf1:w2.frozen? ⟨w.heap.size+1+1,1,none⟩=false:=(hbb2.frozen so so).trans (by go_simp);have rf2:w2.frozen? ⟨w.heap.size+1+1,2,none⟩=false:=(hbb2.frozen so so).trans (by go_simp);have hz3:w.heap.size+1+1 < w2.heap.size:=(by omega);have HC2:=hid (Cur.below hb2 (by omega) HC3.out))))
  refine bodyPost_ret (v:=VV ⟨1,n,[]⟩ ⟨none,0⟩) (by first|(simp [results,Tryz.f64,go_sem];done)|(simp [results,Tryz.f64,go_sem,rq0,rq1,rq2,rf0,rf1,rf2,hz3];done)) rfl ?_
  exact ⟨But.z,⟨⟨none,0⟩,rfl,by simp [RV,RVs]⟩,Cur.below (B:=w.heap.size) Below.z hcs HC2.out⟩
 ·have HN:=hid hN
  clear hN
  simp only [Res.map]
  go_enter Tryz.func64,Tryz.ntmps64
  go_wp2_with (go_at_call 91;refine (samNum_any c s i t.lo t.hi _ HB.out hi n1 n2 n3 (by exact Cur.below (B:=w.heap.size) Below.z hcs HC.out)).mono ?_;rw [HN.out];rintro e1 w3 ⟨hb3,rfl⟩)
  exact ⟨rfl,But.z,rfl⟩
theorem wk_args {f:Nat} {t:GT} {e:Env} (hk:¬t.k=1∧¬t.k=11∧¬t.k=10∧¬t.k=2∧¬t.k=4) (h:∃k n,wkT (f+1) t e k n≠none):∀x∈t.a,∃k n,wkT f x e k n≠none:=by
 obtain ⟨k,n,h⟩:=h
 have key:∀(l:List GT) (k' d q:Int),foldA (fun n x=>wkT f x e k' n) l d q≠none→∀x∈l,∃k n,wkT f x e k n≠none:=by
  intro l
  induction l with
  | nil=>intro k' d q _ x hx;simp at hx
  | cons y l ih=>
   intro k' d q hn x hx
   simp only [foldA] at hn
   cases hw:wkT f y e k' q with
   | none=>rw [hw] at hn;exact absurd rfl hn
   | some p=>
    rw [hw] at hn
    rcases List.mem_cons.1 hx with rfl|hx
    ·exact ⟨k',q,by rw [hw];simp⟩
    ·exact ih _ _ _ hn x hx
 unfold wkT at h
 rw [if_neg hk.1,if_neg hk.2.1,if_neg hk.2.2.1] at h
 cases hs:spendN n k with
 | none=>rw [hs] at h;exact absurd rfl h
 | some n1=>
  rw [hs] at h
  simp only [] at h
  rw [if_neg hk.2.2.2.1,if_neg hk.2.2.2.2] at h
  split at h
  ·refine key t.a (k*max 1 t.hi) 0 n1 fun e1=>?_
   rw [e1] at h;exact h rfl
  ·split at h
   ·exact key t.a k 0 n1 h
   ·refine key t.a k 0 n1 fun e1=>?_
    rw [e1] at h;exact h rfl
theorem sam_argsOk {S f:Nat} {t:GT} {e:Env} (hg:goodT (!e.isEmpty) t) (ox:okT t) (hs:sizeT t≤S) (hk:¬t.k=1∧¬t.k=11∧¬t.k=10∧¬t.k=2∧¬t.k=4) (h:∃k n,wkT (f+1) t e k n≠none):
  ∀x∈t.a,goodT (!e.isEmpty) x∧okT x∧sizeT x≤S∧∃k n,wkT f x e k n≠none:=fun x hx=>
 ⟨goodT_arg hg hk.2.2.1 hx,okT_arg ox hx,by have:=sizeT_arg hx;omega,wk_args hk h x hx⟩
set_option maxRecDepth 100000 in
set_option maxHeartbeats 2000000 in
theorem sam_5 (c:Nat) (s:ByteArray) (S f:Nat) (hS:S≤1099511627776) (ih:SamIH c s S f) (t:GT) (e:Env) (i:Nat) (w:World) (x:TA) (a:Option Addr) (hb:isBits s=true) (hg:goodT (!e.isEmpty) t) (ox:okT t) (hs:sizeT t≤S) (he:envOk S e) (hi:i≤s.size) (hwk:∃k n,wkT (f+1) t e k n≠none) (hk:t.k=5) (hc:Cur w c s i false) (hr:RT w (fun b=>b≠c) t x) (hv:REnv w (fun b=>b≠c) e a):
  Calls Tryz.prog 64 #[.agg #[.pointer (some ⟨c,0,none⟩)],TV t x,.pointer a] w (SamR c s (sampT s (f+1) t e i) w):=by
 rw [sampT_5 _ _ _ _ _ hk]
 have hargs:=sam_argsOk hg ox hs (by omega) hwk
 obtain ⟨ma,mb,mc,md,me,mf,mg,mh,mi,mj,mk,ml⟩:=x
 have hcs:c < w.heap.size:=World.block_lt_of_cell? _ _ hc.1.1
 have HC:=hid hc
 have HB:=hid hb
 obtain ⟨hrv1,hrv2,hrv3,hrv4,hrv5⟩:=RT_iff.1 hr
 have HR:=hid hr
 have H1:=hid hrv1
 have H2:=hid hrv2
 have H3:=hid hrv3
 have H4:=hid hrv4
 have HL:=hid hrv5
 obtain ⟨⟨x1,x2⟩,ov,⟨ovl,ovs⟩,⟨l1,l2⟩,⟨l3,l4⟩,⟨owl,ow⟩,op,oal,oa⟩:=okT_iff.1 ox
 have OX:=hid ox
 have OV:=hid ov
 have OVS:=hid ovs
 have OW:=hid ow
 have OP:=hid op
 have O:=hid oa
 have HND:=hid (goodT_eq.1 hg).1
 have hse:=sizeT_eq t
 dsimp only at H1 H2 H3 H4 HL
 have h64:=node_args HND.out (.inl hk)
 have HV:=hid hv
 have HX:=hid (fun (W:World) h1 h2 h3=>samAll_any c s S f hS ih HB.out t.a e i W a mk ml h64 hargs he hi h1 h2 h3)
 have hk1:(t.k==1)=false:=by simp [hk]
 have hk2:(t.k==2)=false:=by simp [hk]
 have hk3:(t.k==3)=false:=by simp [hk]
 have hk4:(t.k==4)=false:=by simp [hk]
 have hk5:(t.k==5)=true:=by simp [hk]
 clear hg ox hr hc hb hrv1 hrv2 hrv3 hrv4 hrv5 ov ovs ow op oa hk hargs hv he ih hwk
 rcases hN:allD (fun x=>sampT s f x e) t.a i with ⟨l,j⟩|⟨k⟩
 ·have HN:=hid hN
  clear hN
  simp only [Res.map]
  go_enter Tryz.func64,Tryz.ntmps64
  go_wp2_with (go_at_call 97;refine (HX.out _ (by exact Cur.below (B:=w.heap.size) Below.z hcs HC.out) (by exact RTs.ext (Agree.but But.z) _ _ HL.out) (by exact REnv.ext (Agree.but But.z) _ _ HV.out)).mono ?_;rw [HN.out];rintro e1 w2 ⟨hb2,⟨a2,c2,rfl,hrv⟩,hc2⟩;have HRV:=hid hrv;have HC2:=hid hc2;clear hrv hc2;have hbb2:=hb2;have hz2:=hb2.size;(try simp at hz2);have hbb:But c w.heap.size w w2:=But.z;have rq0:w2.cell? ⟨w.heap.size+1+1,0,none⟩=some (.int .u8 0):=(hbb2.cell so so).trans (by go_simp);have rq1:w2.cell? ⟨w.heap.size+1+1,1,none⟩=some (.int .i64 0):=(hbb2.cell so so).trans (by go_simp);have rq2:w2.cell? ⟨w.heap.size+1+1,2,none⟩=some (.slice none 0 0):=(hbb2.cell so so).trans (by go_simp);have rf0:w2.frozen? ⟨w.heap.size+1+1,0,none⟩=false:=(hbb2.frozen so so).trans (by go_simp);have rf1:w2.frozen? ⟨w.heap.size+1+1,1,none⟩=false:=(hbb2.frozen so so).trans (by go_simp);have rf2:w2.frozen? ⟨w.heap.size+1+1,2,none⟩=false:=(hbb2.frozen so so).trans (by go_simp);have hz3:w.heap.size+1+1 < w2.heap.size:=(by omega))
  refine bodyPost_ret (v:=VV ⟨3,0,l⟩ ⟨a2,c2⟩) (by first|(simp [results,Tryz.f64,go_sem];done)|(simp [results,Tryz.f64,go_sem,rq0,rq1,rq2,rf0,rf1,rf2,hz3];done)) rfl ?_
  exact ⟨But.z,⟨⟨a2,c2⟩,rfl,RV_iff.2 (RVs.mono (fun b hb _=>by (try simp at hb);omega) _ _ (RVs.ext (((Agree.set so).trans (Agree.set so)).trans (Agree.set so)) _ _ HRV.out))⟩,Cur.below (B:=w.heap.size) Below.z hcs HC2.out⟩
 ·have HN:=hid hN
  clear hN
  simp only [Res.map]
  go_enter Tryz.func64,Tryz.ntmps64
  go_wp2_with (go_at_call 97;refine (HX.out _ (by exact Cur.below (B:=w.heap.size) Below.z hcs HC.out) (by exact RTs.ext (Agree.but But.z) _ _ HL.out) (by exact REnv.ext (Agree.but But.z) _ _ HV.out)).mono ?_;rw [HN.out];rintro e1 w2 ⟨hb2,rfl⟩)
  exact ⟨rfl,But.z,rfl⟩
theorem permDraw_at (s:ByteArray) (n i c:Nat) (N:Int) (hN:N=n) (w:World) (hb:isBits s=true) (hi:i≤s.size) (hn:n≤64) (hc:Cur w c s i false):
  Calls Tryz.prog 101 #[.pointer (some ⟨c,0,none⟩),.int .i64 N] w (rowR c s (permP s n i) w):=by
 subst hN
 rcases Nat.eq_zero_or_pos n with h|h
 ·subst h;exact permDraw0_any s i c w hc
 ·exact permDraw_any s n i c w hb hi ⟨h,hn⟩ hc
theorem Agree.butFrom {c B:Nat} {w w':World} (hb:But c w.heap.size w w') (hc:c < B):Agree (fun b=>B≤b) w w':=fun q u hA hq=>hb.ag (World.block_lt_of_cell? _ _ hq) (by omega) hq
set_option maxRecDepth 100000 in
set_option maxHeartbeats 2000000 in
theorem sam_7 (c:Nat) (s:ByteArray) (S f:Nat) (hS:S≤1099511627776) (ih:SamIH c s S f) (t:GT) (e:Env) (i:Nat) (w:World) (x:TA) (a:Option Addr) (hb:isBits s=true) (hg:goodT (!e.isEmpty) t) (ox:okT t) (hs:sizeT t≤S) (he:envOk S e) (hi:i≤s.size) (hwk:∃k n,wkT (f+1) t e k n≠none) (hk:t.k=7) (hc:Cur w c s i false) (hr:RT w (fun b=>b≠c) t x) (hv:REnv w (fun b=>b≠c) e a):
  Calls Tryz.prog 64 #[.agg #[.pointer (some ⟨c,0,none⟩)],TV t x,.pointer a] w (SamR c s (sampT s (f+1) t e i) w):=by
 rw [sampT_7 _ _ _ _ _ hk]
 have hargs:=sam_argsOk hg ox hs (by omega) hwk
 obtain ⟨ma,mb,mc,md,me,mf,mg,mh,mi,mj,mk,ml⟩:=x
 have hcs:c < w.heap.size:=World.block_lt_of_cell? _ _ hc.1.1
 have HC:=hid hc
 have HB:=hid hb
 obtain ⟨hrv1,hrv2,hrv3,hrv4,hrv5⟩:=RT_iff.1 hr
 have HR:=hid hr
 have H1:=hid hrv1
 have H2:=hid hrv2
 have H3:=hid hrv3
 have H4:=hid hrv4
 have HL:=hid hrv5
 obtain ⟨⟨x1,x2⟩,ov,⟨ovl,ovs⟩,⟨l1,l2⟩,⟨l3,l4⟩,⟨owl,ow⟩,op,oal,oa⟩:=okT_iff.1 ox
 have OX:=hid ox
 have OV:=hid ov
 have OVS:=hid ovs
 have OW:=hid ow
 have OP:=hid op
 have O:=hid oa
 have HND:=hid (goodT_eq.1 hg).1
 have hse:=sizeT_eq t
 dsimp only at H1 H2 H3 H4 HL
 have h64:=node_args HND.out (.inr (.inl hk))
 have HV:=hid hv
 have HX:=hid (fun (W:World) h1 h2 h3=>samAll_any c s S f hS ih HB.out t.a e i W a mk ml h64 hargs he hi h1 h2 h3)
 have hin:=allD_in (D:=okV) (m:=s.size) t.a i hi (fun y hy q hq=>sampT_in s S f y e q (hargs y hy).1 (hargs y hy).2.1 (hargs y hy).2.2.1 he hq)
 have hk1:(t.k==1)=false:=by simp [hk]
 have hk2:(t.k==2)=false:=by simp [hk]
 have hk3:(t.k==3)=false:=by simp [hk]
 have hk4:(t.k==4)=false:=by simp [hk]
 have hk5:(t.k==5)=false:=by simp [hk]
 have hk6:(t.k==6)=false:=by simp [hk]
 have hk7:(t.k==7)=true:=by simp [hk]
 clear hg ox hr hc hb hrv1 hrv2 hrv3 hrv4 hrv5 ov ovs ow op oa hk hargs hv he ih hwk
 rcases hN:allD (fun x=>sampT s f x e) t.a i with ⟨l,j⟩|⟨k⟩
 ·rw [hN] at hin
  obtain ⟨hi1,hi2,hi3,hi4⟩:=hin
  have HN:=hid hN
  have hll:l.length≤64:=by omega
  obtain ⟨c1,c2',c3⟩:=permP_in s l.length j hi2
  have HP3:=hid c3
  clear hN hi4 c3 hi3
  simp only [Res.bind]
  rcases hP:permP s l.length j with ⟨_|row,q⟩
  ·have HP:=hid hP
   clear hP
   simp only [needR,Res.map]
   go_enter Tryz.func64,Tryz.ntmps64
   go_wp2_with (first
    | (go_at_call 97;refine (HX.out _ (by exact Cur.below (B:=w.heap.size) Below.z hcs HC.out) (by exact RTs.ext (Agree.but But.z) _ _ HL.out) (by exact REnv.ext (Agree.but But.z) _ _ HV.out)).mono ?_;rw [HN.out];rintro e1 w2 ⟨hb2,⟨a2,c2,rfl,hrv⟩,hc2⟩;have HRV:=hid hrv;have HC2:=hid hc2;clear hrv hc2;have hz2:=hb2.size;simp at hz2;have r30:w2.cell? ⟨w.heap.size,0,none⟩=some (.pointer (some ⟨c,0,none⟩)):=(hb2.cell so so).trans (by go_simp))
    | (go_at_call 101;refine (permDraw_at s l.length j c _ (by omega) _ HB.out hi2 hll (by exact HC2.out)).mono ?_;rw [HP.out];rintro e1 w3 ⟨hb3,rfl,hc3⟩;have hz3':=hb3.size)
    | (go_at_call 100;refine (needS_no _ _ _ _).mono ?_;rintro e1 w4 ⟨rfl,hb4⟩))
   exact ⟨rfl,But.z,rfl⟩
  ·have HP:=hid hP
   obtain ⟨hr1,hr2⟩:=HP3.out row (by rw [hP])
   have HRW:=hid hr2
   have hr64:row.length≤64:=by omega
   clear hP hr2 hr1
   simp only [needR,Res.map]
   go_enter Tryz.func64,Tryz.ntmps64
   go_wp2_with (first
    | (go_at_call 97;refine (HX.out _ (by exact Cur.below (B:=w.heap.size) Below.z hcs HC.out) (by exact RTs.ext (Agree.but But.z) _ _ HL.out) (by exact REnv.ext (Agree.but But.z) _ _ HV.out)).mono ?_;rw [HN.out];rintro e1 w3 ⟨hb3,⟨a2,c2,rfl,hrv⟩,hc2⟩;have HRV:=hid (RVs.mono (A':=fun b=>w.heap.size+1+1+1≤b) (fun b hb _=>(by simp at hb;omega)) _ _ hrv);have HC3:=hid hc2;clear hrv hc2;have hz3':=hb3.size;simp at hz3';have r30:w3.cell? ⟨w.heap.size,0,none⟩=some (.pointer (some ⟨c,0,none⟩)):=(hb3.cell so so).trans (by go_simp))
    | (go_at_call 101;refine (permDraw_at s l.length j c _ (by omega) _ HB.out hi2 hll (by exact HC3.out)).mono ?_;rw [HP.out];rintro e1 w4 ⟨hb4,⟨a4,c4,rfl,hri⟩,hc4⟩;have HRI:=hid hri;have HC4:=hid hc4;clear hri hc4;have hz4':=hb4.size)
    | (go_at_call 100;refine (needS_any _ _ _ _).mono ?_;rintro e1 w5 ⟨rfl,rfl⟩)
    | (go_at_call 99;refine (pickedV_any l row (fun b=>w.heap.size+1+1+1≤b) _ _ a2 a4 c2 c4 (by omega) hr64 HRW.out (by exact RVs.ext (Agree.butFrom hb4 (by omega)) _ _ HRV.out) (by exact HRI.out)).mono ?_;rintro e1 w6 ⟨hb6,a6,c6,rfl,hrp⟩;have HRP:=hid (RVs.mono (A':=fun b=>w.heap.size+1+1+1≤b) (fun b hb _=>(by rcases hb with h|h;exact h;omega)) _ _ hrp);clear hrp;have hz6:=hb6.size)
    | (go_at_call 98;refine (list_any _ _ _ _).mono ?_;rintro e1 w2 ⟨rfl,hb2'⟩;have hb2:=hb2';have hbb2:=hb3.trans ((hb4.mono hb3.size).trans ((But.of (c:=c) (hb6.mono (Nat.le_trans hb3.size hb4.size))).trans (But.of (hb2'.mono (Nat.le_trans hb3.size (Nat.le_trans hb4.size hb6.size))))));have hz2:=hb2.size;(try simp at hz2);have hbb:But c w.heap.size w w2:=But.z;have rq0:w2.cell? ⟨w.heap.size+1+1,0,none⟩=some (.int .u8 0):=(hbb2.cell so so).trans (by go_simp);have rq1:w2.cell? ⟨w.heap.size+1+1,1,none⟩=some (.int .i64 0):=(hbb2.cell so so).trans (by go_simp);have rq2:w2.cell? ⟨w.heap.size+1+1,2,none⟩=some (.slice none 0 0):=(hbb2.cell so so).trans (by go_simp);have rf0:w2.frozen? ⟨w.heap.size+1+1,0,none⟩=false:=(hbb2.frozen so so).trans (by go_simp);have rf1:w2.frozen? ⟨w.heap.size+1+1,1,none⟩=false:=(hbb2.frozen so so).trans (by go_simp);have rf2:w2.frozen? ⟨w.heap.size+1+1,2,none⟩=false:=(hbb2.frozen so so).trans (by go_simp);have hz3:w.heap.size+1+1 < w2.heap.size:=(by omega);have HC2:=hid (Cur.below hb2 (by omega) (Cur.below hb6 (by omega) HC4.out))))
   refine bodyPost_ret (v:=VV ⟨4,0,pickL l row⟩ ⟨a6,c6⟩) (by first|(simp [results,Tryz.f64,go_sem];done)|(simp [results,Tryz.f64,go_sem,rq0,rq1,rq2,rf0,rf1,rf2,hz3];done)) rfl ?_
   exact ⟨But.z,⟨⟨a6,c6⟩,rfl,RV_iff.2 (RVs.mono (fun b hb _=>by omega) _ _ (RVs.ext (((Agree.set so).trans (Agree.set so)).trans (Agree.set so)) _ _ (RVs.ext (Agree.below hb2) _ _ HRP.out)))⟩,Cur.below (B:=w.heap.size) Below.z hcs HC2.out⟩
 ·have HN:=hid hN
  clear hN
  simp only [Res.bind]
  go_enter Tryz.func64,Tryz.ntmps64
  go_wp2_with (go_at_call 97;refine (HX.out _ (by exact Cur.below (B:=w.heap.size) Below.z hcs HC.out) (by exact RTs.ext (Agree.but But.z) _ _ HL.out) (by exact REnv.ext (Agree.but But.z) _ _ HV.out)).mono ?_;rw [HN.out];rintro e1 w2 ⟨hb2,rfl⟩)
  exact ⟨rfl,But.z,rfl⟩
def ZRes (W:World) (B:Nat):Prop:=(W.cell? ⟨B,0,none⟩=some (.int .u8 0)∧W.cell? ⟨B,1,none⟩=some (.int .i64 0)∧W.cell? ⟨B,2,none⟩=some (.slice none 0 0))∧W.frozen? ⟨B,0,none⟩=false∧W.frozen? ⟨B,1,none⟩=false∧W.frozen? ⟨B,2,none⟩=false
theorem ZRes.but {c B N:Nat} {w w':World} (h:ZRes w B) (hb:But c N w w') (h1:B < N) (h2:B≠c):ZRes w' B:=by
 obtain ⟨⟨a0,a1,a2⟩,f0,f1,f2⟩:=h
 exact ⟨⟨(hb.cell h1 h2).trans a0,(hb.cell h1 h2).trans a1,(hb.cell h1 h2).trans a2⟩,(hb.frozen h1 h2).trans f0,(hb.frozen h1 h2).trans f1,(hb.frozen h1 h2).trans f2⟩
theorem r12Draw_at (s:ByteArray) (n i c:Nat) (w:World) (hb:isBits s=true) (hi:i≤s.size) (hn:n≤64) (hc:Cur w c s i false):
  Calls Tryz.prog 80 #[.pointer (some ⟨c,0,none⟩),.int .i64 n] w (rowR c s (permP s n i) w):=by
 rcases Nat.eq_zero_or_pos n with h|h
 ·subst h;exact r12Draw0_any s i c w hc
 ·exact r12Draw_any s n i c w hb hi ⟨h,hn⟩ hc
set_option maxRecDepth 100000 in
set_option maxHeartbeats 4000000 in
theorem s22_7 (c:Nat) (s:ByteArray) (f:Nat) (ih:SamIH22 c s f) (t:GT) (i:Nat) (w:World) (m:TA) (hb:isBits s=true) (hk:t.k=7) (hn:nodeT t=0) (hx:∀x∈t.a,goodT false x∧okT x∧∃k n,wkT f x [] k n≠none) (hi:i≤s.size) (hc:Cur w c s i false) (hl:RT w (fun b=>b≠c) t m):
  Calls Tryz.prog 53 #[.pointer (some ⟨c,0,none⟩),TV t m] w (Sam22 c s (sampT s (f+1) t [] i) w):=by
 rw [sampT_7 s f t [] i hk]
 obtain ⟨ma,mb,mc,md,me,mf,mg,mh,mi,mj,mk,ml⟩:=m
 have h64:=node_args hn (.inr (.inl hk))
 have hin:=allD_in (D:=okV) (m:=s.size) t.a i hi (fun y hy q hq=>sampT_in s (sizeT y) f y [] q (hx y hy).1 (hx y hy).2.1 (Nat.le_refl _) trivial hq)
 have HL:=hid (RT_iff.1 hl).2.2.2.2
 have HC:=hid hc
 have HB:=hid hb
 have HX:=hid hx
 have IH:=hid ih
 have hcs:c < w.heap.size:=World.block_lt_of_cell? _ _ hc.1.1
 have hk1:(t.k==1)=false:=by simp [hk]
 have hk2:(t.k==2)=false:=by simp [hk]
 have hk3:(t.k==3)=false:=by simp [hk]
 have hk4:(t.k==4)=false:=by simp [hk]
 have hk5:(t.k==5)=false:=by simp [hk]
 have hk6:(t.k==6)=false:=by simp [hk]
 have hk7:(t.k==7)=true:=by simp [hk]
 obtain ⟨i0,hi0,g0,g1,g2⟩:=info_parts infoVal
 clear hc hk hl hx ih hn hb
 rcases hN:allD (fun x=>sampT s f x []) t.a i with ⟨l,j⟩|⟨k⟩
 ·rw [hN] at hin
  obtain ⟨hi1,hi2,hi3,hi4⟩:=hin
  have HN:=hid hN
  have hll:l.length≤64:=by omega
  obtain ⟨c1,c2',c3⟩:=permP_in s l.length j hi2
  simp only [Res.bind]
  clear hN hi3 hi4 c1
  rcases hP:permP s l.length j with ⟨_|row,q⟩
  ·have HP:=hid hP
   clear hP c2' c3
   show Calls _ _ _ _ (Sam22 c s (.no 2) w)
   go_enter Tryz.func53,Tryz.ntmps53
   go_wp2_with (first
    | (go_at_call 77;refine (r22all_any c s f IH.out t.a i _ mk ml h64 HX.out hi (by exact Cur.below (B:=w.heap.size) Below.r hcs HC.out) (by exact RTs.ext (Agree.below Below.r) _ _ HL.out)).mono ?_;rw [HN.out];rintro e w2 ⟨hb2,⟨a2,cp2,rfl,hrv⟩,hc2⟩;have HC2:=hid hc2;clear hc2 hrv;have hz2:=hb2.size;(try simp at hz2);obtain ⟨hc2,hf2⟩:=ccells hb2;have y1:w.heap.size+1 < w2.heap.size:=(by omega);have y2:¬w.heap.size+1=c:=(by omega);have y3:¬w.heap.size=c:=(by omega))
    | (go_at_call 80;refine (r12Draw_at s l.length j c _ HB.out hi2 hll (by exact HC2.out)).mono ?_;rw [HP.out];rintro e1 w3 ⟨hb3,rfl,hc3⟩;clear hc3;have hz3:=hb3.size;(try simp at hz3);obtain ⟨hc3,hf3⟩:=ccells hb3;have y4:w.heap.size+1 < w3.heap.size:=(by omega)))
   refine bodyPost_ret (v:=(.tuple #[VV ⟨0,0,[]⟩ ⟨none,0⟩,.int .u8 2])) (by first|(simp [results,Tryz.f53,go_sem];done)|(simp [results,Tryz.f53,go_sem, *];done)) rfl ?_
   exact ⟨But.r,rfl,by omega,by omega⟩
  ·rw [hP] at c2' c3
   obtain ⟨hr1,hr2⟩:=c3 row rfl
   have HM:=hid hr2
   have hr64:row.length≤64:=by omega
   have hpl:(pickL l row).length=row.length:=pickL_length _ _ hr2
   have HPL0:=hid hpl
   have HP:=hid hP
   clear hP c3 hr2 hpl hr1
   show Calls _ _ _ _ (Sam22 c s (.ok ⟨4,0,pickL l row⟩ q) w)
   go_enter Tryz.func53,Tryz.ntmps53
   go_wp2_with (first
    | (go_at_call 77;refine (r22all_any c s f IH.out t.a i _ mk ml h64 HX.out hi (by exact Cur.below (B:=w.heap.size) Below.r hcs HC.out) (by exact RTs.ext (Agree.below Below.r) _ _ HL.out)).mono ?_;rw [HN.out];rintro e w2 ⟨hb2,⟨a2,cp2,rfl,hrv⟩,hc2⟩;have HC2:=hid hc2;have HRV:=hid (RVs.mono (A':=fun b=>w.heap.size+2≤b) (fun b hb _=>(by (try simp at hb);omega)) _ _ hrv);clear hc2 hrv;have hz2:=hb2.size;(try simp at hz2);have y1:w.heap.size+1 < w2.heap.size:=(by omega);have y2:¬w.heap.size+1=c:=(by omega);have y3:¬w.heap.size=c:=(by omega);have hbb2:But c w.heap.size w w2:=But.r;have HZ2:=hid (show ZRes w2 (w.heap.size+1) from (by obtain ⟨hc2,hf2⟩:=ccells hb2;exact ⟨⟨by go_simp,by go_simp,by go_simp⟩,by go_simp,by go_simp,by go_simp⟩));clear hb2)
    | (go_at_call 80;refine (r12Draw_at s l.length j c _ HB.out hi2 hll (by exact HC2.out)).mono ?_;rw [HP.out];rintro e1 w3 ⟨hb3,⟨a3,cp3,rfl,hri⟩,hc3⟩;have HC3:=hid hc3;have HI:=hid hri;have HR3:=hid (RVs.mono (A':=fun b=>w.heap.size+2≤b∧b < w3.heap.size) (fun b h hb=>⟨h,hb⟩) _ _ (RVs.ext (Agree.butFrom hb3 (by omega)) _ _ HRV.out));clear hc3 hri;have hz3:=hb3.size;(try simp at hz3);have y4:w.heap.size+1 < w3.heap.size:=(by omega);have HZ3:=hid (HZ2.out.but hb3 y1 y2);have hbb3:But c w.heap.size w w3:=hbb2.trans (hb3.mono (by omega));clear hb3))
   clear HRV HZ2 HC2 hbb2
   go_loopg [23,24] (row.length) (fun gk t23 i' wr=>∃(k:Nat) (ps:List (GV×VA)) (v:Value),v=t23∧gk+k=row.length∧i'=.int .i64 k∧Below w3.heap.size w3 wr∧Hid (ps.length=k)∧Hid (ps.map Prod.fst=pickL l (row.take k)) ∧
    Hid (wr.ownsRow w3.heap.size 24 3 v k (flatV ps))∧Hid (∀q∈ps,RV wr (Own w3.heap.size (fun b=>w.heap.size+2≤b) v) q.1 q.2.a))
   case atStart=>exact ⟨0,[],_,rfl,by omega,rfl,Below.refl _ _,hid rfl,hid rfl,hid (World.ownsRow_nil _ _ _ _),hid (fun q hq=>by simp at hq)⟩
   case round=>
    obtain ⟨k,ps,v,rfl,hk,rfl,hbr,HPL,HPS,HO,HQ⟩:=hrel
    have hzr:=hbr.size
    by_cases hlt:k < row.length
    ·obtain ⟨b1,o1,rfl,hA1,hbs1,h1⟩:=HI.out.get k hlt
     obtain ⟨x0,x1⟩:=HM.out row[k] (List.getElem_mem hlt)
     obtain ⟨n,hn⟩:∃n:Nat,row[k]=(n:Int):=⟨row[k].toNat,by omega⟩
     have hnl:n < l.length:=by omega
     have hnI:(n:Int) < (l.length:Int):=by omega
     have hst:=pickL_take l row k hlt n hn hnl
     rw [hn] at h1
     have r0:wr.cell? ⟨b1,o1+k,none⟩=some (.int .i64 n):=(hbr.cell hbs1).trans h1
     obtain ⟨b,o,mj',rfl,hA,hbs,h0,gx⟩:=HR3.out.get n hnl
     obtain ⟨k0,k1,k2⟩:=At3.1 (h0.ext (Agree.below hbr) (A:=fun _=>True) trivial)
     have hs1:b < wr.heap.size:=by omega
     have hs2:b1 < wr.heap.size:=by omega
     have HST:=hid hst
     clear h0 h1 hn x0 x1 hst
     go_wp2_with (at_builtin;refine wpList_append_lies _ rfl _ _ 22 rfl w3.heap.size 24 i0 _ 3 40 Tryz.underlying22 hi0 g0 g1 g2 rfl (by decide) _ k _ (by rfl) (HO.out.alloc _) ⟨wr.heap.size,0,none⟩ 1 1 [.int .u8 l[n].k,.int .i64 l[n].n,.slice mj'.a l[n].l.length mj'.c] (by rfl) rfl (cells_new3 _ _ _ _ _) (by simp [Value.oneCell']) (by decide) (by unfold maxLen;omega) (by omega) (by simp;omega) (wr.heap.size+1) (by simp) ?_;intro g cap w4 hown hgrow hat hlt1)
     have hownk:∀q,v.ownBlock=some q→w3.heap.size≤q:=fun q e=>(HO.out.lt _ e).1
     have hbw1:Below w3.heap.size wr w4:=Below.grown ((Below.refl _ _).alloc (by omega) _) hgrow (by simp;omega) hownk
     have hag2:Agree (Own w3.heap.size (fun b=>w.heap.size+2≤b) v) wr (wr.alloc (.cells #[.int .u8 l[n].k,.int .i64 l[n].n,.slice mj'.a l[n].l.length mj'.c] 24)):=Agree.below ((Below.refl _ _).alloc (Nat.le_refl _) _)
     go_roundg (gk - 1)
     case measure=>omega
     case rel=>
      refine ⟨k+1,ps++[(l[n],mj')],_,rfl,by omega,by go_num,hbr.trans hbw1,hid (by have:=HPL.out;simp;omega),hid (by rw [List.map_append,HPS.out,HST.out];rfl),hid ?_,hid ?_⟩
      ·rw [flatV_append];exact hown
      ·intro q hq
       rcases List.mem_append.1 hq with hq|hq
       ·exact RV.own hgrow hownk hat (by simp) (RV.ext hag2 _ _ (HQ.out q hq))
       ·simp at hq
        subst hq
        exact RV.own hgrow hownk hat (by simp) (RV.ext hag2 _ _ (RV.mono (fun b h _=>.inl h) _ _ (RV.ext (Agree.below hbr) _ _ gx)))
    ·have hjl:k=row.length:=by omega
     subst hjl
     have hst:=HPS.out
     rw [List.take_length] at hst
     obtain ⟨av,cv,hav,hrd⟩:=RVs_of_row (A:=fun b=>w.heap.size+2≤b) HO.out (fun b h=>by omega) (fun q hq=>RV.mono (fun b hb _=>by rcases hb with ⟨h,_⟩|⟨h,_⟩;exact h;omega) _ _ (HQ.out q hq))
     rw [hst] at hav hrd
     subst hav
     have HRD:=hid hrd
     obtain ⟨⟨q0,q1,q2⟩,f0,f1,f2⟩:=HZ3.out.but (c:=c) (But.of hbr) y4 y2
     have y5:w.heap.size+1 < wr.heap.size:=by omega
     clear hst hrd HO HQ HPS HPL HR3
     go_wp2_with (go_at_call 78;refine (r22made_ok 4 av (pickL l row).length cv _).mono ?_;rintro e w5 ⟨rfl,hb5⟩;have hz5:=hb5.size;(try simp at hz5);obtain ⟨hc5,hf5⟩:=bcells hb5;have y7:w.heap.size+1 < w5.heap.size:=(by omega))
     refine bodyPost_ret (v:=(.tuple #[VV ⟨4,0,pickL l row⟩ ⟨av,cv⟩,.int .u8 1])) (by first|(simp [results,Tryz.f53,go_sem];done)|(simp [results,Tryz.f53,go_sem, *];done)) rfl ?_
     exact ⟨But.r,⟨⟨av,cv⟩,rfl,RV_iff.2 (RVs.mono (fun b hb _=>by (try simp at hb);omega) _ _ (RVs.ext ((Agree.below (show Below wr.heap.size wr w5 from Below.r)).trans (((Agree.set so).trans (Agree.set so)).trans (Agree.set so))) _ _ HRD.out))⟩,Cur.below (B:=w.heap.size+1) Below.r (by omega) HC3.out⟩
 ·have HN:=hid hN
  clear hN
  show Calls _ _ _ _ (Sam22 c s (.no k) w)
  go_enter Tryz.func53,Tryz.ntmps53
  go_wp2_with (go_at_call 77;refine (r22all_any c s f IH.out t.a i _ mk ml h64 HX.out hi (by exact Cur.below (B:=w.heap.size) Below.r hcs HC.out) (by exact RTs.ext (Agree.below Below.r) _ _ HL.out)).mono ?_;rw [HN.out];rintro e w2 ⟨hb2,rfl,hk8,hk9⟩;have hz2:=hb2.size;(try simp at hz2);obtain ⟨hc2,hf2⟩:=ccells hb2;have y1:w.heap.size+1 < w2.heap.size:=(by omega);have y2:¬w.heap.size+1=c:=(by omega);have y3:¬w.heap.size=c:=(by omega);have hkb:(((k:Int)) != 1)=true:=(by simp;omega))
  refine bodyPost_ret (v:=(.tuple #[VV ⟨0,0,[]⟩ ⟨none,0⟩,.int .u8 k])) (by first|(simp [results,Tryz.f53,go_sem];done)|(simp [results,Tryz.f53,go_sem, *];done)) rfl ?_
  exact ⟨But.r,rfl,hk8,hk9⟩
end Go.Proofs.YtclphfojkggcpaaGreat
