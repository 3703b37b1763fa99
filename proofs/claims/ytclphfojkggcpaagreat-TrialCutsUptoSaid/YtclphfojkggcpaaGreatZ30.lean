/- What the proofs of the Trial statements need: part 31. -/
import Derived.Test.YtclphfojkggcpaaGreatZ29
set_option linter.unusedVariables false
set_option linter.unusedSimpArgs false
namespace Go.Proofs.YtclphfojkggcpaaGreat
open Go.Lib (hid)
open Go Go.RowKit
theorem foldA_le {S f:Nat} {g:Int→GT→Option (Int×Int)}:∀(l:List GT) (d n:Int),0≤d→d≤(S+f:Nat)→n≤4096→(∀(n:Int) x,x∈l→0≤n→n≤4096→4098≤f+n→wkLe (S+f) n (g n x))→0≤n→4098≤f+n→wkLe (S+f) n (foldA g l d n)
 | [],d,n,h0,h1,h2,_,_,_=>by intro d' n' h;simp only [foldA] at h;cases h;omega
 | x::l,d,n,h0,h1,h2,h,h3,h4=>by
  intro d' n' he
  simp only [foldA] at he
  have hx:=h n x (by simp) h3 h2 h4
  cases hg:g n x with
  | none=>rw [hg] at he;cases he
  | some p=>
   obtain ⟨d1,n1⟩:=p
   rw [hg] at he
   obtain ⟨a1,a2,a3,a4⟩:=hx d1 n1 hg
   obtain ⟨b1,b2,b3,b4⟩:=foldA_le l (max d d1) n1 (by omega) (by omega) a4 (fun n x hm=>h n x (by simp [hm])) (by omega) (by omega) d' n' he
   exact ⟨b1,b2,by omega,b4⟩
theorem foldA_drop {g:Int→GT→Option (Int×Int)} (l:List GT) (j:Nat) (h:j < l.length) (d n:Int):foldA g (l.drop j) d n=match g n l[j] with
  | none=>none
  | some (d',n')=>foldA g (l.drop (j+1)) (max d d') n':=by
 rw [List.drop_eq_getElem_cons h];rfl
set_option maxRecDepth 100000 in
set_option maxHeartbeats 2000000 in
theorem wall_any (c S f:Nat) (hS:S≤1099511627776) (hfu:f≤1099511627776) (ih:WkIH c S f) (t:GT) (e:Env) (k n:Int) (w:World) (x:TA) (a:Option Addr) (hg:goodTs (!e.isEmpty) t.k 0 t.a) (h10:¬t.k=10) (ox:okT t) (hs:sizeT t≤S) (he:envOk S e)
  (hk:1≤k∧k≤65536) (hn:0≤n∧n≤4096) (hf:4098≤f+n) (hc:c < w.heap.size) (hl:Ctr w c n) (hr:RT w (fun b=>b≠c) t x) (hv:REnv w (fun b=>b≠c) e a):
  Calls Tryz.prog 131 #[.pointer (some ⟨c,0,none⟩),TV t x,.pointer a,.int .i64 k] w (WkR c w (foldA (fun n x=>wkT f x e k n) t.a 0 n)):=by
 obtain ⟨ma,mb,mc,md,me,mf,mg,mh,mi,mj,mk,ml⟩:=x
 have IH:=hid ih
 have HL:=hid (RT_iff.1 hr).2.2.2.2
 have HV:=hid hv
 have HE:=hid he
 have HG:=hid hg
 obtain ⟨⟨x1,x2⟩,ov,⟨ovl,ovs⟩,⟨l1,l2⟩,⟨l3,l4⟩,⟨owl,ow⟩,op,oal,oa⟩:=okT_iff.1 ox
 have O:=hid oa
 obtain ⟨k0,k1⟩:=hk
 obtain ⟨n0,n1⟩:=hn
 obtain ⟨c1,c2⟩:=hl
 have hse:=sizeT_eq t
 have hcn:¬w.heap.size=c:=by omega
 have HK:=hid h10
 generalize hR:foldA (fun n x=>wkT f x e k n) t.a 0 n=R
 have HR:=hid hR
 clear ih hr hv he hg ox oa ov ovs ow op h10 hR
 go_enter Tryz.func131,Tryz.ntmps131
 go_wp2_with fail
 go_loopg [9,15] (t.a.length) (fun gk t9 i wr=>∃(j:Nat) (d q:Int),gk+j=t.a.length∧i=.int .i64 j∧t9=.int .i64 d∧Hid (foldA (fun n x=>wkT f x e k n) (t.a.drop j) d q=R)∧(0≤d∧d≤S+f)∧(n≤q∧q≤4096)∧But c w.heap.size w wr∧w.heap.size < wr.heap.size ∧
  (wr.cell? ⟨c,0,none⟩=some (.int .i64 q)∧wr.frozen? ⟨c,0,none⟩=false))
 case atStart=>exact ⟨0,0,n,by omega,rfl,rfl,by show foldA _ _ _ _=R;simpa using HR.out,by omega,by omega,But.z,by simp,by go_simp,by go_simp⟩
 case round=>
  obtain ⟨j,d,q,hj,rfl,rfl,HF,⟨d0,d1⟩,⟨q0,q1⟩,hb,hz,hx1,hx2⟩:=hrel
  have hcr:c < wr.heap.size:=by omega
  have hcr2:¬wr.heap.size=c:=by omega
  by_cases hlt:j < t.a.length
  ·obtain ⟨b,o,mj',rfl,hA,hbs,g0,gx⟩:=HL.out.get j hlt
   obtain ⟨z0,z1,z2,z3,z4,z5,z6,z7,z8,z9,za,zb,zc,zd,ze⟩:=At15.1 (g0.ext (Agree.but hb) hA)
   have hs1:b < wr.heap.size:=by omega
   have hq1:=sizeTs_get t.a j hlt
   have HGX:=hid (show goodT (!e.isEmpty) t.a[j] by have h:=HG.out.get j hlt;have h2:(t.k==10)=false:=beq_eq_false_iff_ne.2 HK.out;simpa [stepB,h2] using h)
   have hd:=HF.out
   rw [foldA_drop _ j hlt] at hd
   clear g0
   rcases hW:wkT f t.a[j] e k q with _|⟨d',q'⟩
   ·simp only [hW] at hd
    have HW:=hid hW
    have HD:=hid hd
    clear hW hd
    go_wp2_with (go_at_call 87;refine (IH.out t.a[j] e k q _ mj' a HGX.out (O.out.get j hlt) (by omega) HE.out (by omega) (by omega) (by omega) (by simp;omega) (by exact ⟨by go_simp,by go_simp⟩) (by exact RT.ext (Agree.but But.z) _ _ gx) (by exact REnv.ext (Agree.but But.z) _ _ HV.out)).2.mono ?_;rw [HW.out];rintro e1 w2 ⟨hb2,rfl⟩)
    rw [←HD.out]
    exact ⟨rfl,But.z,rfl⟩
   ·simp only [hW] at hd
    obtain ⟨y0,y1,y2,y3⟩:=(IH.out t.a[j] e k q _ mj' a HGX.out (O.out.get j hlt) (by omega) HE.out (by omega) (by omega) (by omega) hcr ⟨hx1,hx2⟩ (RT.ext (Agree.but hb) _ _ gx) (REnv.ext (Agree.but hb) _ _ HV.out)).1 d' q' hW
    have HW:=hid hW
    have HD:=hid hd
    clear hW hd
    go_wp2_with (go_at_call 87;refine (IH.out t.a[j] e k q _ mj' a HGX.out (O.out.get j hlt) (by omega) HE.out (by omega) (by omega) (by omega) (by simp;omega) (by exact ⟨by go_simp,by go_simp⟩) (by exact RT.ext (Agree.but But.z) _ _ gx) (by exact REnv.ext (Agree.but But.z) _ _ HV.out)).2.mono ?_;rw [HW.out];rintro e1 w2 ⟨hb2,rfl,hx3,hx4⟩)
    all_goals go_roundg (gk - 1)
    all_goals first
     | omega
     | exact ⟨j+1,d',q',by omega,by go_num,rfl,(by have h:=HD.out;rwa [show max d d'=d' by omega] at h),by omega,by omega,But.z,by have:=hb2.size;simp at this;omega,by go_simp,by go_simp⟩
     | exact ⟨j+1,d,q',by omega,by go_num,rfl,(by have h:=HD.out;rwa [show max d d'=d by omega] at h),by omega,by omega,But.z,by have:=hb2.size;simp at this;omega,by go_simp,by go_simp⟩
  ·have hjl:j=t.a.length:=by omega
   have HD:=hid (show some (d,q)=R by rw [←HF.out,hjl,List.drop_length];rfl)
   go_wp2_with fail
   go_ret
   rw [←HD.out]
   exact ⟨hb,rfl,by go_simp,by go_simp⟩
set_option maxRecDepth 100000 in
set_option maxHeartbeats 2000000 in
theorem term_x (c S f:Nat) (hS:S≤1099511627776) (hfu:f≤1099511627776) (ih:WkIH c S f) (t:GT) (e:Env) (k n:Int) (w:World) (x:TA) (a:Option Addr) (hg:goodT (!e.isEmpty) t) (ox:okT t) (hs:sizeT t≤S) (he:envOk S e)
  (hk:1≤k∧k≤65536) (hn:0≤n∧n≤4096) (hf:4098≤f+1+n) (hc:c < w.heap.size) (hl:Ctr w c n) (hr:RT w (fun b=>b≠c) t x) (hv:REnv w (fun b=>b≠c) e a) (h1:¬t.k=1) (h10:¬t.k=10) (h11:¬t.k=11) (hsp:spendN n k=none):
  Calls Tryz.prog 87 #[.pointer (some ⟨c,0,none⟩),TV t x,.pointer a,.int .i64 k] w (WkR c w (wkT (f+1) t e k n)):=by
 obtain ⟨ma,mb,mc,md,me,mf,mg,mh,mi,mj,mk,ml⟩:=x
 obtain ⟨hnd,_,hgs⟩:=goodT_eq.1 hg
 obtain ⟨⟨x1,x2⟩,ov,⟨ovl,ovs⟩,⟨l1,l2⟩,⟨l3,l4⟩,⟨owl,ow⟩,op,oal,oa⟩:=okT_iff.1 ox
 have HR:=hid hr
 have HV:=hid hv
 have OVS:=hid ovs
 obtain ⟨k0,k1⟩:=hk
 obtain ⟨n0,n1⟩:=hn
 obtain ⟨c1,c2⟩:=hl
 have hcn:¬w.heap.size=c:=by omega
 have hk1:(t.k==1)=false:=by simp [h1]
 have hk10:(t.k==10)=false:=by simp [h10]
 have hk11:(t.k==11)=false:=by simp [h11]
 have hE:wkT (f+1) t e k n=none:=by simp [wkT,h1,h10,h11,hsp]
 rw [hE]
 have HSP:=hid hsp
 clear hsp hE
 clear ih hg ox he hr hv ov ovs ow op oa hnd hgs h1 h10 h11
 go_enter Tryz.func87,Tryz.ntmps87
 go_wp2_with (go_at_call 128;refine (spend_any c n k _ (by simp;omega) (by omega) (by omega) (by exact ⟨by go_simp,by go_simp⟩)).mono ?_;rw [HSP.out];rintro e1 w1 ⟨hb1,rfl⟩)
 exact ⟨rfl,But.z,rfl⟩
set_option maxRecDepth 100000 in
set_option maxHeartbeats 2000000 in
theorem term_2 (c S f:Nat) (hS:S≤1099511627776) (hfu:f≤1099511627776) (ih:WkIH c S f) (t:GT) (e:Env) (k n:Int) (w:World) (x:TA) (a:Option Addr) (hg:goodT (!e.isEmpty) t) (ox:okT t) (hs:sizeT t≤S) (he:envOk S e)
  (hk:1≤k∧k≤65536) (hn:0≤n∧n≤4096) (hf:4098≤f+1+n) (hc:c < w.heap.size) (hl:Ctr w c n) (hr:RT w (fun b=>b≠c) t x) (hv:REnv w (fun b=>b≠c) e a) (h1:¬t.k=1) (h10:¬t.k=10) (h11:¬t.k=11) (n':Int) (hn':n'=n+k) (hn2:n'≤4096) (hsp:spendN n k=some n') (h2:t.k=2):
  Calls Tryz.prog 87 #[.pointer (some ⟨c,0,none⟩),TV t x,.pointer a,.int .i64 k] w (WkR c w (wkT (f+1) t e k n)):=by
 obtain ⟨ma,mb,mc,md,me,mf,mg,mh,mi,mj,mk,ml⟩:=x
 obtain ⟨hnd,_,hgs⟩:=goodT_eq.1 hg
 obtain ⟨⟨x1,x2⟩,ov,⟨ovl,ovs⟩,⟨l1,l2⟩,⟨l3,l4⟩,⟨owl,ow⟩,op,oal,oa⟩:=okT_iff.1 ox
 have HR:=hid hr
 have HV:=hid hv
 have OVS:=hid ovs
 obtain ⟨k0,k1⟩:=hk
 obtain ⟨n0,n1⟩:=hn
 obtain ⟨c1,c2⟩:=hl
 have hcn:¬w.heap.size=c:=by omega
 have hk1:(t.k==1)=false:=by simp [h1]
 have hk10:(t.k==10)=false:=by simp [h10]
 have hk11:(t.k==11)=false:=by simp [h11]
 have hE:wkT (f+1) t e k n=some (1,n'):=by simp [wkT,h2,hsp]
 rw [hE]
 have HSP:=hid hsp
 have hk2:(t.k==2)=true:=by simp [h2]
 clear hsp hE h2
 clear ih hg ox he hr hv ov ovs ow op oa hnd hgs h1 h10 h11
 go_enter Tryz.func87,Tryz.ntmps87
 go_wp2_with (go_at_call 128;refine (spend_any c n k _ (by simp;omega) (by omega) (by omega) (by exact ⟨by go_simp,by go_simp⟩)).mono ?_;rw [HSP.out];rintro e1 w1 ⟨hb1,rfl,hx1,hx2⟩;obtain ⟨hc1,hf1⟩:=ccells hb1;have hz1:=hb1.size;simp at hz1;have hcn1:¬c=w1.heap.size:=(by omega);have hcn2:¬w1.heap.size=c:=(by omega);have hcn3:c < w1.heap.size:=(by omega);have hws1:w.heap.size < w1.heap.size:=(by omega))
 go_ret
 exact ⟨But.z,rfl,by go_simp,by go_simp⟩
set_option maxRecDepth 100000 in
set_option maxHeartbeats 2000000 in
theorem term_3 (c S f:Nat) (hS:S≤1099511627776) (hfu:f≤1099511627776) (ih:WkIH c S f) (t:GT) (e:Env) (k n:Int) (w:World) (x:TA) (a:Option Addr) (hg:goodT (!e.isEmpty) t) (ox:okT t) (hs:sizeT t≤S) (he:envOk S e)
  (hk:1≤k∧k≤65536) (hn:0≤n∧n≤4096) (hf:4098≤f+1+n) (hc:c < w.heap.size) (hl:Ctr w c n) (hr:RT w (fun b=>b≠c) t x) (hv:REnv w (fun b=>b≠c) e a) (h1:¬t.k=1) (h10:¬t.k=10) (h11:¬t.k=11) (n':Int) (hn':n'=n+k) (hn2:n'≤4096) (hsp:spendN n k=some n') (h3:t.k=3∨t.k=9):
  Calls Tryz.prog 87 #[.pointer (some ⟨c,0,none⟩),TV t x,.pointer a,.int .i64 k] w (WkR c w (wkT (f+1) t e k n)):=by
 obtain ⟨ma,mb,mc,md,me,mf,mg,mh,mi,mj,mk,ml⟩:=x
 obtain ⟨hnd,_,hgs⟩:=goodT_eq.1 hg
 obtain ⟨⟨x1,x2⟩,ov,⟨ovl,ovs⟩,⟨l1,l2⟩,⟨l3,l4⟩,⟨owl,ow⟩,op,oal,oa⟩:=okT_iff.1 ox
 have HR:=hid hr
 have HV:=hid hv
 have OVS:=hid ovs
 obtain ⟨k0,k1⟩:=hk
 obtain ⟨n0,n1⟩:=hn
 obtain ⟨c1,c2⟩:=hl
 have hcn:¬w.heap.size=c:=by omega
 have hk1:(t.k==1)=false:=by simp [h1]
 have hk10:(t.k==10)=false:=by simp [h10]
 have hk11:(t.k==11)=false:=by simp [h11]
 have HX:=hid (fun (W:World) (h1:c < W.heap.size) (h2:Ctr W c n') (h3:RT W (fun b=>b≠c) t ⟨ma,mb,mc,md,me,mf,mg,mh,mi,mj,mk,ml⟩) (h4:REnv W (fun b=>b≠c) e a)=>wall_any c S f hS hfu ih t e k n' W ⟨ma,mb,mc,md,me,mf,mg,mh,mi,mj,mk,ml⟩ a hgs h10 ox hs he ⟨k0,k1⟩ (by omega) (by omega) h1 h2 h3 h4)
 have hE:wkT (f+1) t e k n=foldA (fun n x=>wkT f x e k n) t.a 0 n':=by rcases h3 with h|h<;>simp [wkT,h,hsp]
 rw [hE]
 have HSP:=hid hsp
 have hk2:(t.k==2)=false:=by simp;omega
 have hk4:(t.k==4)=false:=by simp;omega
 have hk6:(t.k==6)=false:=by simp;omega
 have H3:=hid h3
 clear hsp hE h3
 clear ih hg ox he hr hv ov ovs ow op oa hnd hgs h1 h10 h11
 rcases hR:foldA (fun n x=>wkT f x e k n) t.a 0 n' with _|⟨d,n2⟩
 ·have HR2:=hid hR
  clear hR
  cases hk3:(t.k==3)
  ·have hk9:(t.k==9)=true:=by have h:=H3.out;simp at hk3;simp;omega
   go_enter Tryz.func87,Tryz.ntmps87
   go_wp2_with (first
    | (go_at_call 128;refine (spend_any c n k _ (by simp;omega) (by omega) (by omega) (by exact ⟨by go_simp,by go_simp⟩)).mono ?_;rw [HSP.out];rintro e1 w1 ⟨hb1,rfl,hx1,hx2⟩;obtain ⟨hc1,hf1⟩:=ccells hb1;have hz1:=hb1.size;simp at hz1;have hcn1:¬c=w1.heap.size:=(by omega);have hcn2:¬w1.heap.size=c:=(by omega);have hcn3:c < w1.heap.size:=(by omega);have hws1:w.heap.size < w1.heap.size:=(by omega))
    | (go_at_call 131;refine (HX.out _ (by omega) (by exact ⟨by go_simp,by go_simp⟩) (by exact RT.ext (Agree.but But.z) _ _ HR.out) (by exact REnv.ext (Agree.but But.z) _ _ HV.out)).mono ?_;rw [HR2.out];rintro e1 w2 ⟨hb2,rfl⟩))
   exact ⟨rfl,But.z,rfl⟩
  ·go_enter Tryz.func87,Tryz.ntmps87
   go_wp2_with (first
    | (go_at_call 128;refine (spend_any c n k _ (by simp;omega) (by omega) (by omega) (by exact ⟨by go_simp,by go_simp⟩)).mono ?_;rw [HSP.out];rintro e1 w1 ⟨hb1,rfl,hx1,hx2⟩;obtain ⟨hc1,hf1⟩:=ccells hb1;have hz1:=hb1.size;simp at hz1;have hcn1:¬c=w1.heap.size:=(by omega);have hcn2:¬w1.heap.size=c:=(by omega);have hcn3:c < w1.heap.size:=(by omega);have hws1:w.heap.size < w1.heap.size:=(by omega))
    | (go_at_call 131;refine (HX.out _ (by omega) (by exact ⟨by go_simp,by go_simp⟩) (by exact RT.ext (Agree.but But.z) _ _ HR.out) (by exact REnv.ext (Agree.but But.z) _ _ HV.out)).mono ?_;rw [HR2.out];rintro e1 w2 ⟨hb2,rfl⟩))
   exact ⟨rfl,But.z,rfl⟩
 ·have HR2:=hid hR
  clear hR
  cases hk3:(t.k==3)
  ·have hk9:(t.k==9)=true:=by have h:=H3.out;simp at hk3;simp;omega
   go_enter Tryz.func87,Tryz.ntmps87
   go_wp2_with (first
    | (go_at_call 128;refine (spend_any c n k _ (by simp;omega) (by omega) (by omega) (by exact ⟨by go_simp,by go_simp⟩)).mono ?_;rw [HSP.out];rintro e1 w1 ⟨hb1,rfl,hx1,hx2⟩;obtain ⟨hc1,hf1⟩:=ccells hb1;have hz1:=hb1.size;simp at hz1;have hcn1:¬c=w1.heap.size:=(by omega);have hcn2:¬w1.heap.size=c:=(by omega);have hcn3:c < w1.heap.size:=(by omega);have hws1:w.heap.size < w1.heap.size:=(by omega))
    | (go_at_call 131;refine (HX.out _ (by omega) (by exact ⟨by go_simp,by go_simp⟩) (by exact RT.ext (Agree.but But.z) _ _ HR.out) (by exact REnv.ext (Agree.but But.z) _ _ HV.out)).mono ?_;rw [HR2.out];rintro e1 w2 ⟨hb2,rfl,hx3,hx4⟩))
   go_ret
   exact ⟨But.z,rfl,hx3,hx4⟩
  ·go_enter Tryz.func87,Tryz.ntmps87
   go_wp2_with (first
    | (go_at_call 128;refine (spend_any c n k _ (by simp;omega) (by omega) (by omega) (by exact ⟨by go_simp,by go_simp⟩)).mono ?_;rw [HSP.out];rintro e1 w1 ⟨hb1,rfl,hx1,hx2⟩;obtain ⟨hc1,hf1⟩:=ccells hb1;have hz1:=hb1.size;simp at hz1;have hcn1:¬c=w1.heap.size:=(by omega);have hcn2:¬w1.heap.size=c:=(by omega);have hcn3:c < w1.heap.size:=(by omega);have hws1:w.heap.size < w1.heap.size:=(by omega))
    | (go_at_call 131;refine (HX.out _ (by omega) (by exact ⟨by go_simp,by go_simp⟩) (by exact RT.ext (Agree.but But.z) _ _ HR.out) (by exact REnv.ext (Agree.but But.z) _ _ HV.out)).mono ?_;rw [HR2.out];rintro e1 w2 ⟨hb2,rfl,hx3,hx4⟩))
   go_ret
   exact ⟨But.z,rfl,hx3,hx4⟩
set_option maxRecDepth 100000 in
set_option maxHeartbeats 2000000 in
theorem term_5 (c S f:Nat) (hS:S≤1099511627776) (hfu:f≤1099511627776) (ih:WkIH c S f) (t:GT) (e:Env) (k n:Int) (w:World) (x:TA) (a:Option Addr) (hg:goodT (!e.isEmpty) t) (ox:okT t) (hs:sizeT t≤S) (he:envOk S e)
  (hk:1≤k∧k≤65536) (hn:0≤n∧n≤4096) (hf:4098≤f+1+n) (hc:c < w.heap.size) (hl:Ctr w c n) (hr:RT w (fun b=>b≠c) t x) (hv:REnv w (fun b=>b≠c) e a) (h1:¬t.k=1) (h10:¬t.k=10) (h11:¬t.k=11) (n':Int) (hn':n'=n+k) (hn2:n'≤4096) (hsp:spendN n k=some n') (h2:¬t.k=2) (h4:¬t.k=4) (h6:¬t.k=6) (h3:¬t.k=3) (h9:¬t.k=9) (hd:∀d q,foldA (fun n x=>wkT f x e k n) t.a 0 n'=some (d,q)→0≤d∧d≤S+f):
  Calls Tryz.prog 87 #[.pointer (some ⟨c,0,none⟩),TV t x,.pointer a,.int .i64 k] w (WkR c w (wkT (f+1) t e k n)):=by
 obtain ⟨ma,mb,mc,md,me,mf,mg,mh,mi,mj,mk,ml⟩:=x
 obtain ⟨hnd,_,hgs⟩:=goodT_eq.1 hg
 obtain ⟨⟨x1,x2⟩,ov,⟨ovl,ovs⟩,⟨l1,l2⟩,⟨l3,l4⟩,⟨owl,ow⟩,op,oal,oa⟩:=okT_iff.1 ox
 have HR:=hid hr
 have HV:=hid hv
 have OVS:=hid ovs
 obtain ⟨k0,k1⟩:=hk
 obtain ⟨n0,n1⟩:=hn
 obtain ⟨c1,c2⟩:=hl
 have hcn:¬w.heap.size=c:=by omega
 have hk1:(t.k==1)=false:=by simp [h1]
 have hk10:(t.k==10)=false:=by simp [h10]
 have hk11:(t.k==11)=false:=by simp [h11]
 have HX:=hid (fun (W:World) (h1:c < W.heap.size) (h2:Ctr W c n') (h3:RT W (fun b=>b≠c) t ⟨ma,mb,mc,md,me,mf,mg,mh,mi,mj,mk,ml⟩) (h4:REnv W (fun b=>b≠c) e a)=>wall_any c S f hS hfu ih t e k n' W ⟨ma,mb,mc,md,me,mf,mg,mh,mi,mj,mk,ml⟩ a hgs h10 ox hs he ⟨k0,k1⟩ (by omega) (by omega) h1 h2 h3 h4)
 have hE:wkT (f+1) t e k n=plus1 (foldA (fun n x=>wkT f x e k n) t.a 0 n'):=by simp [wkT,h1,h2,h3,h4,h6,h9,h10,h11,hsp]
 rw [hE]
 have HSP:=hid hsp
 have hk2:(t.k==2)=false:=by simp [h2]
 have hk4:(t.k==4)=false:=by simp [h4]
 have hk6:(t.k==6)=false:=by simp [h6]
 have hk3:(t.k==3)=false:=by simp [h3]
 have hk9:(t.k==9)=false:=by simp [h9]
 clear hsp hE h2 h3 h4 h6 h9
 clear ih hg ox he hr hv ov ovs ow op oa hnd hgs h1 h10 h11
 rcases hR:foldA (fun n x=>wkT f x e k n) t.a 0 n' with _|⟨d,n2⟩
 ·have HR2:=hid hR
  clear hR hd
  go_enter Tryz.func87,Tryz.ntmps87
  go_wp2_with (first
   | (go_at_call 128;refine (spend_any c n k _ (by simp;omega) (by omega) (by omega) (by exact ⟨by go_simp,by go_simp⟩)).mono ?_;rw [HSP.out];rintro e1 w1 ⟨hb1,rfl,hx1,hx2⟩;obtain ⟨hc1,hf1⟩:=ccells hb1;have hz1:=hb1.size;simp at hz1;have hcn1:¬c=w1.heap.size:=(by omega);have hcn2:¬w1.heap.size=c:=(by omega);have hcn3:c < w1.heap.size:=(by omega);have hws1:w.heap.size < w1.heap.size:=(by omega))
   | (go_at_call 131;refine (HX.out _ (by omega) (by exact ⟨by go_simp,by go_simp⟩) (by exact RT.ext (Agree.but But.z) _ _ HR.out) (by exact REnv.ext (Agree.but But.z) _ _ HV.out)).mono ?_;rw [HR2.out];rintro e1 w2 ⟨hb2,rfl⟩))
  exact ⟨rfl,But.z,rfl⟩
 ·have HR2:=hid hR
  obtain ⟨hd0,hd1⟩:=hd _ _ hR
  clear hR hd
  go_enter Tryz.func87,Tryz.ntmps87
  go_wp2_with (first
   | (go_at_call 128;refine (spend_any c n k _ (by simp;omega) (by omega) (by omega) (by exact ⟨by go_simp,by go_simp⟩)).mono ?_;rw [HSP.out];rintro e1 w1 ⟨hb1,rfl,hx1,hx2⟩;obtain ⟨hc1,hf1⟩:=ccells hb1;have hz1:=hb1.size;simp at hz1;have hcn1:¬c=w1.heap.size:=(by omega);have hcn2:¬w1.heap.size=c:=(by omega);have hcn3:c < w1.heap.size:=(by omega);have hws1:w.heap.size < w1.heap.size:=(by omega))
   | (go_at_call 131;refine (HX.out _ (by omega) (by exact ⟨by go_simp,by go_simp⟩) (by exact RT.ext (Agree.but But.z) _ _ HR.out) (by exact REnv.ext (Agree.but But.z) _ _ HV.out)).mono ?_;rw [HR2.out];rintro e1 w2 ⟨hb2,rfl,hx3,hx4⟩))
  go_ret
  exact ⟨But.z,rfl,hx3,hx4⟩
set_option maxRecDepth 100000 in
set_option maxHeartbeats 2000000 in
theorem term_60 (c S f:Nat) (hS:S≤1099511627776) (hfu:f≤1099511627776) (ih:WkIH c S f) (t:GT) (e:Env) (k n:Int) (w:World) (x:TA) (a:Option Addr) (hg:goodT (!e.isEmpty) t) (ox:okT t) (hs:sizeT t≤S) (he:envOk S e)
  (hk:1≤k∧k≤65536) (hn:0≤n∧n≤4096) (hf:4098≤f+1+n) (hc:c < w.heap.size) (hl:Ctr w c n) (hr:RT w (fun b=>b≠c) t x) (hv:REnv w (fun b=>b≠c) e a) (h1:¬t.k=1) (h10:¬t.k=10) (h11:¬t.k=11) (n':Int) (hn':n'=n+k) (hn2:n'≤4096) (hsp:spendN n k=some n') (h6:t.k=6) (hh:t.hi=0) (hd:∀d q,foldA (fun n x=>wkT f x e k n) t.a 0 n'=some (d,q)→0≤d∧d≤S+f):
  Calls Tryz.prog 87 #[.pointer (some ⟨c,0,none⟩),TV t x,.pointer a,.int .i64 k] w (WkR c w (wkT (f+1) t e k n)):=by
 obtain ⟨ma,mb,mc,md,me,mf,mg,mh,mi,mj,mk,ml⟩:=x
 obtain ⟨hnd,_,hgs⟩:=goodT_eq.1 hg
 obtain ⟨⟨x1,x2⟩,ov,⟨ovl,ovs⟩,⟨l1,l2⟩,⟨l3,l4⟩,⟨owl,ow⟩,op,oal,oa⟩:=okT_iff.1 ox
 have HR:=hid hr
 have HV:=hid hv
 have OVS:=hid ovs
 obtain ⟨k0,k1⟩:=hk
 obtain ⟨n0,n1⟩:=hn
 obtain ⟨c1,c2⟩:=hl
 have hcn:¬w.heap.size=c:=by omega
 have hk1:(t.k==1)=false:=by simp [h1]
 have hk10:(t.k==10)=false:=by simp [h10]
 have hk11:(t.k==11)=false:=by simp [h11]
 obtain ⟨hla,hlo,hlh,hhi⟩:=node_list hnd h6
 clear hla
 have hmm:k*max 1 t.hi=k:=by rw [show max 1 t.hi=1 by omega,Int.mul_one]
 have HX:=hid (fun (W:World) (h1:c < W.heap.size) (h2:Ctr W c n') (h3:RT W (fun b=>b≠c) t ⟨ma,mb,mc,md,me,mf,mg,mh,mi,mj,mk,ml⟩) (h4:REnv W (fun b=>b≠c) e a)=>wall_any c S f hS hfu ih t e k n' W ⟨ma,mb,mc,md,me,mf,mg,mh,mi,mj,mk,ml⟩ a hgs h10 ox hs he ⟨k0,k1⟩ (by omega) (by omega) h1 h2 h3 h4)
 have HSP:=hid hsp
 have hk2:(t.k==2)=false:=by simp [h6]
 have hk4:(t.k==4)=false:=by simp [h6]
 have hk6:(t.k==6)=true:=by simp [h6]
 have hh1:¬1≤t.hi:=by omega
 have hh2:(t.hi==0)=true:=by simp [hh]
 generalize hE:wkT (f+1) t e k n=R
 simp only [wkT,if_neg h1,if_neg h10,if_neg h11,hsp,h6,hmm] at hE
 simp [hh] at hE
 clear hsp h6 hmm hh hlo hlh hhi
 clear ih hg ox he hr hv ov ovs ow op oa hnd hgs h1 h10 h11
 rcases hR:foldA (fun n x=>wkT f x e k n) t.a 0 n' with _|⟨d,n2⟩
 ·simp only [hR] at hE
  have HE:=hid hE
  have HR2:=hid hR
  clear hR hd hE
  go_enter Tryz.func87,Tryz.ntmps87
  go_wp2_with (first
   | (go_at_call 128;refine (spend_any c n k _ (by simp;omega) (by omega) (by omega) (by exact ⟨by go_simp,by go_simp⟩)).mono ?_;rw [HSP.out];rintro e1 w1 ⟨hb1,rfl,hx1,hx2⟩;obtain ⟨hc1,hf1⟩:=ccells hb1;have hz1:=hb1.size;simp at hz1;have hcn1:¬c=w1.heap.size:=(by omega);have hcn2:¬w1.heap.size=c:=(by omega);have hcn3:c < w1.heap.size:=(by omega);have hws1:w.heap.size < w1.heap.size:=(by omega))
   | (go_at_call 131;refine (HX.out _ (by omega) (by exact ⟨by go_simp,by go_simp⟩) (by exact RT.ext (Agree.but But.z) _ _ HR.out) (by exact REnv.ext (Agree.but But.z) _ _ HV.out)).mono ?_;rw [HR2.out];rintro e1 w2 ⟨hb2,rfl⟩))
  rw [←HE.out]
  exact ⟨rfl,But.z,rfl⟩
 ·simp only [hR] at hE
  have HE:=hid hE
  have HR2:=hid hR
  obtain ⟨hd0,hd1⟩:=hd _ _ hR
  clear hR hd hE
  go_enter Tryz.func87,Tryz.ntmps87
  go_wp2_with (first
   | (go_at_call 128;refine (spend_any c n k _ (by simp;omega) (by omega) (by omega) (by exact ⟨by go_simp,by go_simp⟩)).mono ?_;rw [HSP.out];rintro e1 w1 ⟨hb1,rfl,hx1,hx2⟩;obtain ⟨hc1,hf1⟩:=ccells hb1;have hz1:=hb1.size;simp at hz1;have hcn1:¬c=w1.heap.size:=(by omega);have hcn2:¬w1.heap.size=c:=(by omega);have hcn3:c < w1.heap.size:=(by omega);have hws1:w.heap.size < w1.heap.size:=(by omega))
   | (go_at_call 131;refine (HX.out _ (by omega) (by exact ⟨by go_simp,by go_simp⟩) (by exact RT.ext (Agree.but But.z) _ _ HR.out) (by exact REnv.ext (Agree.but But.z) _ _ HV.out)).mono ?_;rw [HR2.out];rintro e1 w2 ⟨hb2,rfl,hx3,hx4⟩;obtain ⟨hc2,hf2⟩:=ccells hb2))
  go_ret
  rw [←HE.out]
  exact ⟨But.z,rfl,hx3,hx4⟩
set_option maxRecDepth 100000 in
set_option maxHeartbeats 2000000 in
theorem term_6h (c S f:Nat) (hS:S≤1099511627776) (hfu:f≤1099511627776) (ih:WkIH c S f) (t:GT) (e:Env) (k n:Int) (w:World) (x:TA) (a:Option Addr) (hg:goodT (!e.isEmpty) t) (ox:okT t) (hs:sizeT t≤S) (he:envOk S e)
  (hk:1≤k∧k≤65536) (hn:0≤n∧n≤4096) (hf:4098≤f+1+n) (hc:c < w.heap.size) (hl:Ctr w c n) (hr:RT w (fun b=>b≠c) t x) (hv:REnv w (fun b=>b≠c) e a) (h1:¬t.k=1) (h10:¬t.k=10) (h11:¬t.k=11) (n':Int) (hn':n'=n+k) (hn2:n'≤4096) (hsp:spendN n k=some n') (h6:t.k=6) (hh:1 < t.hi) (hd:∀d q,foldA (fun n x=>wkT f x e (k*t.hi) n) t.a 0 n'=some (d,q)→0≤d∧d≤S+f):
  Calls Tryz.prog 87 #[.pointer (some ⟨c,0,none⟩),TV t x,.pointer a,.int .i64 k] w (WkR c w (wkT (f+1) t e k n)):=by
 obtain ⟨ma,mb,mc,md,me,mf,mg,mh,mi,mj,mk,ml⟩:=x
 obtain ⟨hnd,_,hgs⟩:=goodT_eq.1 hg
 obtain ⟨⟨x1,x2⟩,ov,⟨ovl,ovs⟩,⟨l1,l2⟩,⟨l3,l4⟩,⟨owl,ow⟩,op,oal,oa⟩:=okT_iff.1 ox
 have HR:=hid hr
 have HV:=hid hv
 have OVS:=hid ovs
 obtain ⟨k0,k1⟩:=hk
 obtain ⟨n0,n1⟩:=hn
 obtain ⟨c1,c2⟩:=hl
 have hcn:¬w.heap.size=c:=by omega
 have hk1:(t.k==1)=false:=by simp [h1]
 have hk10:(t.k==10)=false:=by simp [h10]
 have hk11:(t.k==11)=false:=by simp [h11]
 obtain ⟨hla,hlo,hlh,hhi⟩:=node_list hnd h6
 clear hla
 have hmm:k*max 1 t.hi=k*t.hi:=by rw [show max 1 t.hi=t.hi by omega]
 have hkm:1≤k*t.hi:=Int.mul_le_mul (a:=1) (b:=1) k0 (by omega) (by omega) (by omega)
 have hkn:k*t.hi≤4096*16:=Int.mul_le_mul (by omega) hhi (by omega) (by omega)
 have hmw:IntKind.i64.wrap (k*t.hi)=k*t.hi:=IntWalk.i64_in _ (by omega)
 have hmw2:wrap64 (k*t.hi)=k*t.hi:=by rw [←IntWalk.i64_left];exact hmw
 have HX:=hid (fun (W:World) (h1:c < W.heap.size) (h2:Ctr W c n') (h3:RT W (fun b=>b≠c) t ⟨ma,mb,mc,md,me,mf,mg,mh,mi,mj,mk,ml⟩) (h4:REnv W (fun b=>b≠c) e a)=>wall_any c S f hS hfu ih t e (k*t.hi) n' W ⟨ma,mb,mc,md,me,mf,mg,mh,mi,mj,mk,ml⟩ a hgs h10 ox hs he ⟨hkm,by omega⟩ (by omega) (by omega) h1 h2 h3 h4)
 have HSP:=hid hsp
 have hk2:(t.k==2)=false:=by simp [h6]
 have hk4:(t.k==4)=false:=by simp [h6]
 have hk6:(t.k==6)=true:=by simp [h6]
 have hh2:(t.hi==0)=false:=by simp;omega
 generalize hE:wkT (f+1) t e k n=R
 simp only [wkT,if_neg h1,if_neg h10,if_neg h11,hsp,h6,hmm] at hE
 simp [show ¬t.hi=0 by omega] at hE
 clear hsp h6 hmm hlo hlh hhi
 clear ih hg ox he hr hv ov ovs ow op oa hnd hgs h1 h10 h11
 rcases hR:foldA (fun n x=>wkT f x e (k*t.hi) n) t.a 0 n' with _|⟨d,n2⟩
 ·simp only [hR] at hE
  have HE:=hid hE
  have HR2:=hid hR
  clear hR hd hE
  go_enter Tryz.func87,Tryz.ntmps87
  go_wp2_with (first
   | (go_at_call 128;refine (spend_any c n k _ (by simp;omega) (by omega) (by omega) (by exact ⟨by go_simp,by go_simp⟩)).mono ?_;rw [HSP.out];rintro e1 w1 ⟨hb1,rfl,hx1,hx2⟩;obtain ⟨hc1,hf1⟩:=ccells hb1;have hz1:=hb1.size;simp at hz1;have hcn1:¬c=w1.heap.size:=(by omega);have hcn2:¬w1.heap.size=c:=(by omega);have hcn3:c < w1.heap.size:=(by omega);have hws1:w.heap.size < w1.heap.size:=(by omega))
   | (go_at_call 131;refine (HX.out _ (by omega) (by exact ⟨by go_simp,by go_simp⟩) (by exact RT.ext (Agree.but But.z) _ _ HR.out) (by exact REnv.ext (Agree.but But.z) _ _ HV.out)).mono ?_;rw [HR2.out];rintro e1 w2 ⟨hb2,rfl⟩))
  rw [←HE.out]
  exact ⟨rfl,But.z,rfl⟩
 ·simp only [hR] at hE
  have HE:=hid hE
  have HR2:=hid hR
  obtain ⟨hd0,hd1⟩:=hd _ _ hR
  clear hR hd hE
  go_enter Tryz.func87,Tryz.ntmps87
  go_wp2_with (first
   | (go_at_call 128;refine (spend_any c n k _ (by simp;omega) (by omega) (by omega) (by exact ⟨by go_simp,by go_simp⟩)).mono ?_;rw [HSP.out];rintro e1 w1 ⟨hb1,rfl,hx1,hx2⟩;obtain ⟨hc1,hf1⟩:=ccells hb1;have hz1:=hb1.size;simp at hz1;have hcn1:¬c=w1.heap.size:=(by omega);have hcn2:¬w1.heap.size=c:=(by omega);have hcn3:c < w1.heap.size:=(by omega);have hws1:w.heap.size < w1.heap.size:=(by omega))
   | (go_at_call 131;refine (HX.out _ (by omega) (by exact ⟨by go_simp,by go_simp⟩) (by exact RT.ext (Agree.but But.z) _ _ HR.out) (by exact REnv.ext (Agree.but But.z) _ _ HV.out)).mono ?_;rw [HR2.out];rintro e1 w2 ⟨hb2,rfl,hx3,hx4⟩;obtain ⟨hc2,hf2⟩:=ccells hb2))
  go_ret
  rw [←HE.out]
  exact ⟨But.z,rfl,hx3,hx4⟩
theorem foldVs_drop {k:Int} (l:List GV) (j:Nat) (h:j < l.length) (d n:Int):foldVs k (l.drop j) d n=match spendN n (k*sizeV l[j]) with
  | none=>none
  | some n'=>foldVs k (l.drop (j+1)) (max d (deepV l[j])) n':=by
 rw [List.drop_eq_getElem_cons h];rfl
set_option maxRecDepth 100000 in
set_option maxHeartbeats 2000000 in
theorem term_4 (c S f:Nat) (hS:S≤1099511627776) (hfu:f≤1099511627776) (ih:WkIH c S f) (t:GT) (e:Env) (k n:Int) (w:World) (x:TA) (a:Option Addr) (hg:goodT (!e.isEmpty) t) (ox:okT t) (hs:sizeT t≤S) (he:envOk S e)
  (hk:1≤k∧k≤65536) (hn:0≤n∧n≤4096) (hf:4098≤f+1+n) (hc:c < w.heap.size) (hl:Ctr w c n) (hr:RT w (fun b=>b≠c) t x) (hv:REnv w (fun b=>b≠c) e a) (h1:¬t.k=1) (h10:¬t.k=10) (h11:¬t.k=11) (n':Int) (hn':n'=n+k) (hn2:n'≤4096) (hsp:spendN n k=some n') (h4:t.k=4):
  Calls Tryz.prog 87 #[.pointer (some ⟨c,0,none⟩),TV t x,.pointer a,.int .i64 k] w (WkR c w (wkT (f+1) t e k n)):=by
 obtain ⟨ma,mb,mc,md,me,mf,mg,mh,mi,mj,mk,ml⟩:=x
 obtain ⟨hnd,_,hgs⟩:=goodT_eq.1 hg
 obtain ⟨⟨x1,x2⟩,ov,⟨ovl,ovs⟩,⟨l1,l2⟩,⟨l3,l4⟩,⟨owl,ow⟩,op,oal,oa⟩:=okT_iff.1 ox
 have HR:=hid hr
 have HV:=hid hv
 have OVS:=hid ovs
 obtain ⟨k0,k1⟩:=hk
 obtain ⟨n0,n1⟩:=hn
 obtain ⟨c1,c2⟩:=hl
 have hcn:¬w.heap.size=c:=by omega
 have hk1:(t.k==1)=false:=by simp [h1]
 have hk10:(t.k==10)=false:=by simp [h10]
 have hk11:(t.k==11)=false:=by simp [h11]
 have HVS:=hid (RT_iff.1 hr).2.1
 have hE:wkT (f+1) t e k n=foldVs k t.vs 0 n':=by simp [wkT,h4,hsp]
 rw [hE]
 generalize hR:foldVs k t.vs 0 n'=R
 have HR2:=hid hR
 have HSP:=hid hsp
 have hse:=sizeT_eq t
 have hk2:(t.k==2)=false:=by simp [h4]
 have hk4:(t.k==4)=true:=by simp [h4]
 clear hsp hE h4 hR
 clear ih hg ox he hr hv ov ovs ow op oa hnd hgs h1 h10 h11
 go_enter Tryz.func87,Tryz.ntmps87
 go_wp2_with (go_at_call 128;refine (spend_any c n k _ (by simp;omega) (by omega) (by omega) (by exact ⟨by go_simp,by go_simp⟩)).mono ?_;rw [HSP.out];rintro e1 w1 ⟨hb1,rfl,hx1,hx2⟩;obtain ⟨hc1,hf1⟩:=ccells hb1;have hz1:=hb1.size;simp at hz1;have hcn1:¬c=w1.heap.size:=(by omega);have hcn2:¬w1.heap.size=c:=(by omega);have hcn3:c < w1.heap.size:=(by omega);have hws1:w.heap.size < w1.heap.size:=(by omega))
 go_loopg [9,65] (t.vs.length) (fun gk t9 i wr=>∃(j:Nat) (d q:Int),gk+j=t.vs.length∧i=.int .i64 j∧t9=.int .i64 d∧Hid (foldVs k (t.vs.drop j) d q=R)∧(0≤d∧d≤1099511627776)∧(0≤q∧q≤4096)∧But c w.heap.size w wr∧w.heap.size < wr.heap.size ∧
  (wr.cell? ⟨c,0,none⟩=some (.int .i64 q)∧wr.frozen? ⟨c,0,none⟩=false))
 case atStart=>exact ⟨0,0,n',by omega,rfl,rfl,by show foldVs _ _ _ _=R;simpa using HR2.out,by omega,by omega,But.z,by omega,hx1,hx2⟩
 case round=>
  obtain ⟨j,d,q,hj,rfl,rfl,HF,⟨d0,d1⟩,⟨q0,q1⟩,hb,hz,hy1,hy2⟩:=hrel
  have hcr:c < wr.heap.size:=by omega
  have hcr2:¬wr.heap.size=c:=by omega
  by_cases hlt:j < t.vs.length
  ·obtain ⟨b,o,mj',rfl,hA,hbs,g0,gx⟩:=HVS.out.get j hlt
   obtain ⟨z0,z1,z2⟩:=At3.1 (g0.ext (Agree.but hb) hA)
   have hs1:b < wr.heap.size:=by omega
   have hq1:=sizeVs_get t.vs j hlt
   have hdl:=deepV_le t.vs[j]
   have hsv2:sizeV t.vs[j]≤1099511627776:=by omega
   have hm1:0≤k*(sizeV t.vs[j]:Int):=Int.mul_nonneg (by omega) (by omega)
   have hm2:k*(sizeV t.vs[j]:Int)≤65536*1099511627776:=Int.mul_le_mul k1 (by omega) (by omega) (by omega)
   have hmw:IntKind.i64.wrap (k*(sizeV t.vs[j]:Int))=k*(sizeV t.vs[j]:Int):=IntWalk.i64_in _ (by omega)
   have hd:=HF.out
   rw [foldVs_drop _ j hlt] at hd
   have HX:=hid (fun (W:World) (h:Ctr W c q) (h2:c < W.heap.size)=>spend_any c q (k*(sizeV t.vs[j]:Int)) W h2 ⟨q0,q1⟩ ⟨hm1,by omega⟩ h)
   clear g0
   cases hsp:spendN q (k*(sizeV t.vs[j]:Int)) with
   | none=>
    simp only [hsp] at hd
    have HW:=hid hsp
    have HD:=hid hd
    clear hsp hd
    go_wp2_with (first
     | (go_at_call 84;refine (size_any t.vs[j] _ mj' _ (OVS.out.get j hlt) hsv2 (by exact RV_iff.1 (RV.ext (Agree.but But.z) _ _ gx))).mono ?_;rintro e1 w2 ⟨rfl,hb2⟩;obtain ⟨hc2,hf2⟩:=bcells hb2;have hz2:=hb2.size;simp at hz2)
     | (go_at_call 128;refine (HX.out _ (by exact ⟨by go_simp,by go_simp⟩) (by omega)).mono ?_;rw [HW.out];rintro e1 w3 ⟨hb3,rfl⟩))
    rw [←HD.out]
    exact ⟨rfl,But.z,rfl⟩
   | some q'=>
    obtain ⟨hq',hq2⟩:=spendN_some hsp
    simp only [hsp] at hd
    have HW:=hid hsp
    have HD:=hid hd
    have HQ:=hid hq'
    have hq3:0≤q':=by omega
    clear hsp hd hq'
    go_wp2_with (first
     | (go_at_call 84;refine (size_any t.vs[j] _ mj' _ (OVS.out.get j hlt) hsv2 (by exact RV_iff.1 (RV.ext (Agree.but But.z) _ _ gx))).mono ?_;rintro e1 w2 ⟨rfl,hb2⟩;obtain ⟨hc2,hf2⟩:=bcells hb2;have hz2:=hb2.size;simp at hz2;have hwz2:wr.heap.size < w2.heap.size:=(by omega);have hcz2:c < w2.heap.size:=(by omega))
     | (go_at_call 128;refine (HX.out _ (by exact ⟨by go_simp,by go_simp⟩) (by omega)).mono ?_;rw [HW.out];rintro e1 w3 ⟨hb3,rfl,hx3,hx4⟩;obtain ⟨hc3,hf3⟩:=ccells hb3;have hz3:=hb3.size;have hcz3:c < w3.heap.size:=(by omega))
     | (go_at_call 129;refine (deep_any t.vs[j] _ mj' _ (OVS.out.get j hlt) hsv2 (by exact RV_iff.1 (RV.ext (Agree.but But.z) _ _ gx))).mono ?_;rintro e1 w4 ⟨rfl,hb4⟩;obtain ⟨hc4,hf4⟩:=bcells hb4;have hz4:=hb4.size))
    all_goals go_roundg (gk - 1)
    all_goals first
     | omega
     | exact ⟨j+1,(deepV t.vs[j]:Int),q',by omega,by go_num,rfl,(by have h:=HD.out;rwa [show max d (deepV t.vs[j]:Int)=deepV t.vs[j] by omega] at h),by omega,by omega,But.z,by omega,by go_simp,by go_simp⟩
     | exact ⟨j+1,d,q',by omega,by go_num,rfl,(by have h:=HD.out;rwa [show max d (deepV t.vs[j]:Int)=d by omega] at h),by omega,by omega,But.z,by omega,by go_simp,by go_simp⟩
  ·have hjl:j=t.vs.length:=by omega
   have HD:=hid (show some (d,q)=R by rw [←HF.out,hjl,List.drop_length];rfl)
   go_wp2_with fail
   go_ret
   rw [←HD.out]
   exact ⟨hb,rfl,hy1,hy2⟩
set_option maxRecDepth 100000 in
set_option maxHeartbeats 2000000 in
theorem term_61 (c S f:Nat) (hS:S≤1099511627776) (hfu:f≤1099511627776) (ih:WkIH c S f) (t:GT) (e:Env) (k n:Int) (w:World) (x:TA) (a:Option Addr) (hg:goodT (!e.isEmpty) t) (ox:okT t) (hs:sizeT t≤S) (he:envOk S e)
  (hk:1≤k∧k≤65536) (hn:0≤n∧n≤4096) (hf:4098≤f+1+n) (hc:c < w.heap.size) (hl:Ctr w c n) (hr:RT w (fun b=>b≠c) t x) (hv:REnv w (fun b=>b≠c) e a) (h1:¬t.k=1) (h10:¬t.k=10) (h11:¬t.k=11) (n':Int) (hn':n'=n+k) (hn2:n'≤4096) (hsp:spendN n k=some n') (h6:t.k=6) (hh:t.hi=1) (hd:∀d q,foldA (fun n x=>wkT f x e k n) t.a 0 n'=some (d,q)→0≤d∧d≤S+f):
  Calls Tryz.prog 87 #[.pointer (some ⟨c,0,none⟩),TV t x,.pointer a,.int .i64 k] w (WkR c w (wkT (f+1) t e k n)):=by
 obtain ⟨ma,mb,mc,md,me,mf,mg,mh,mi,mj,mk,ml⟩:=x
 obtain ⟨hnd,_,hgs⟩:=goodT_eq.1 hg
 obtain ⟨⟨x1,x2⟩,ov,⟨ovl,ovs⟩,⟨l1,l2⟩,⟨l3,l4⟩,⟨owl,ow⟩,op,oal,oa⟩:=okT_iff.1 ox
 have HR:=hid hr
 have HV:=hid hv
 have OVS:=hid ovs
 obtain ⟨k0,k1⟩:=hk
 obtain ⟨n0,n1⟩:=hn
 obtain ⟨c1,c2⟩:=hl
 have hcn:¬w.heap.size=c:=by omega
 have hk1:(t.k==1)=false:=by simp [h1]
 have hk10:(t.k==10)=false:=by simp [h10]
 have hk11:(t.k==11)=false:=by simp [h11]
 obtain ⟨hla,hlo,hlh,hhi⟩:=node_list hnd h6
 clear hla
 have hmm:k*max 1 t.hi=k:=by rw [show max 1 t.hi=1 by omega,Int.mul_one]
 have HX:=hid (fun (W:World) (h1:c < W.heap.size) (h2:Ctr W c n') (h3:RT W (fun b=>b≠c) t ⟨ma,mb,mc,md,me,mf,mg,mh,mi,mj,mk,ml⟩) (h4:REnv W (fun b=>b≠c) e a)=>wall_any c S f hS hfu ih t e k n' W ⟨ma,mb,mc,md,me,mf,mg,mh,mi,mj,mk,ml⟩ a hgs h10 ox hs he ⟨k0,k1⟩ (by omega) (by omega) h1 h2 h3 h4)
 have HSP:=hid hsp
 have hk2:(t.k==2)=false:=by simp [h6]
 have hk4:(t.k==4)=false:=by simp [h6]
 have hk6:(t.k==6)=true:=by simp [h6]
 have hh1:¬1 < t.hi:=by omega
 have hh2:(t.hi==0)=false:=by simp [hh]
 generalize hE:wkT (f+1) t e k n=R
 simp only [wkT,if_neg h1,if_neg h10,if_neg h11,hsp,h6,hmm] at hE
 simp [hh] at hE
 clear hsp h6 hmm hh hlo hlh hhi
 clear ih hg ox he hr hv ov ovs ow op oa hnd hgs h1 h10 h11
 rcases hR:foldA (fun n x=>wkT f x e k n) t.a 0 n' with _|⟨d,n2⟩
 ·simp only [hR] at hE
  have HE:=hid hE
  have HR2:=hid hR
  clear hR hd hE
  go_enter Tryz.func87,Tryz.ntmps87
  go_wp2_with (first
   | (go_at_call 128;refine (spend_any c n k _ (by simp;omega) (by omega) (by omega) (by exact ⟨by go_simp,by go_simp⟩)).mono ?_;rw [HSP.out];rintro e1 w1 ⟨hb1,rfl,hx1,hx2⟩;obtain ⟨hc1,hf1⟩:=ccells hb1;have hz1:=hb1.size;simp at hz1;have hcn1:¬c=w1.heap.size:=(by omega);have hcn2:¬w1.heap.size=c:=(by omega);have hcn3:c < w1.heap.size:=(by omega);have hws1:w.heap.size < w1.heap.size:=(by omega))
   | (go_at_call 131;refine (HX.out _ (by omega) (by exact ⟨by go_simp,by go_simp⟩) (by exact RT.ext (Agree.but But.z) _ _ HR.out) (by exact REnv.ext (Agree.but But.z) _ _ HV.out)).mono ?_;rw [HR2.out];rintro e1 w2 ⟨hb2,rfl⟩))
  rw [←HE.out]
  exact ⟨rfl,But.z,rfl⟩
 ·simp only [hR] at hE
  have HE:=hid hE
  have HR2:=hid hR
  obtain ⟨hd0,hd1⟩:=hd _ _ hR
  clear hR hd hE
  go_enter Tryz.func87,Tryz.ntmps87
  go_wp2_with (first
   | (go_at_call 128;refine (spend_any c n k _ (by simp;omega) (by omega) (by omega) (by exact ⟨by go_simp,by go_simp⟩)).mono ?_;rw [HSP.out];rintro e1 w1 ⟨hb1,rfl,hx1,hx2⟩;obtain ⟨hc1,hf1⟩:=ccells hb1;have hz1:=hb1.size;simp at hz1;have hcn1:¬c=w1.heap.size:=(by omega);have hcn2:¬w1.heap.size=c:=(by omega);have hcn3:c < w1.heap.size:=(by omega);have hws1:w.heap.size < w1.heap.size:=(by omega))
   | (go_at_call 131;refine (HX.out _ (by omega) (by exact ⟨by go_simp,by go_simp⟩) (by exact RT.ext (Agree.but But.z) _ _ HR.out) (by exact REnv.ext (Agree.but But.z) _ _ HV.out)).mono ?_;rw [HR2.out];rintro e1 w2 ⟨hb2,rfl,hx3,hx4⟩;obtain ⟨hc2,hf2⟩:=ccells hb2))
  go_ret
  rw [←HE.out]
  exact ⟨But.z,rfl,hx3,hx4⟩
def envLe (S:Nat):Env→Prop
 | []=>True
 | (t,_)::up=>sizeT t≤S∧envLe S up
theorem envLe_of {S:Nat}:∀{e:Env},envOk S e→envLe S e
 | [],_=>trivial
 | (t,m)::up,h=>⟨h.2.2.2.1,envLe_of h.2.2.2.2.2.2⟩
theorem foldVs_le {S:Nat} {k:Int} (hk:0≤k):∀(l:List GV) (d n:Int),0≤d→d≤S→n≤4096→sizeVs l≤S→wkLe S n (foldVs k l d n)
 | [],d,n,h0,h1,h2,_=>by intro d' n' h;simp only [foldVs] at h;cases h;omega
 | x::l,d,n,h0,h1,h2,h3=>by
  intro d' n' he
  simp only [foldVs] at he
  simp only [sizeVs] at h3
  have hdl:=deepV_le x
  cases hs:spendN n (k*sizeV x) with
  | none=>rw [hs] at he;cases he
  | some n1=>
   rw [hs] at he
   obtain ⟨a1,a2⟩:=spendN_some hs
   have hm:0≤k*(sizeV x:Int):=Int.mul_nonneg hk (by omega)
   obtain ⟨b1,b2,b3,b4⟩:=foldVs_le (S:=S) hk l (max d (deepV x)) n1 (by omega) (by omega) a2 (by omega) d' n' he
   exact ⟨b1,b2,by omega,b4⟩
theorem wkLe.mono {D D':Nat} {n n':Int} {r:Option (Int×Int)} (h:wkLe D n r) (hD:D≤D') (hn:n'≤n):wkLe D' n' r:=fun d q hq=>by
 obtain ⟨a,b,c,d⟩:=h d q hq
 exact ⟨a,by omega,by omega,d⟩
theorem wkLe_none (D:Nat) (n:Int):wkLe D n none:=fun _ _ h=>by cases h
theorem stepS_le {S f:Nat} {g:GT→Env→Int→Int→Option (Int×Int)} (t:GT) (m:Int) (e:Env) (k n:Int) (hs:sizeT t≤S) (he:envLe S e) (hk:1≤k) (h0:0≤n) (hf:4098≤f+1+n)
  (h:∀x e (n:Int),sizeT x≤S→envLe S e→0≤n→n≤4096→4098≤f+n→wkLe (S+f) n (g x e k n)):wkLe (S+f) n (stepS g t m e k n):=by
 unfold stepS
 have hse:=sizeT_eq t
 cases hsp:spendN n k with
 | none=>exact wkLe_none _ _
 | some n1=>
  obtain ⟨a1,a2⟩:=spendN_some hsp
  simp only []
  split
  ·cases hx:t.a[0]? with
   | none=>exact wkLe_none _ _
   | some x=>
    obtain ⟨hl,rfl⟩:=List.getElem?_eq_some_iff.1 hx
    have:=sizeTs_get t.a 0 hl
    exact (h _ e n1 (by omega) he (by omega) a2 (by omega)).mono (Nat.le_refl _) (by omega)
  ·cases hx:t.a[1]? with
   | none=>exact wkLe_none _ _
   | some x=>
    obtain ⟨hl,rfl⟩:=List.getElem?_eq_some_iff.1 hx
    have:=sizeTs_get t.a 1 hl
    exact (h _ ((t,m - 1)::e) n1 (by omega) ⟨hs,he⟩ (by omega) a2 (by omega)).mono (Nat.le_refl _) (by omega)
theorem sizeT_mem {l:List GT} {x:GT} (h:x∈l):sizeT x≤sizeTs l:=by
 obtain ⟨i,hi,rfl⟩:=List.getElem_of_mem h
 exact sizeTs_get l i hi
theorem wkT_le (S:Nat):∀(f:Nat) (t:GT) (e:Env) (k n:Int),sizeT t≤S→envLe S e→1≤k→0≤n→n≤4096→4098≤f+n→wkLe (S+f) n (wkT f t e k n)
 | 0,t,e,k,n,_,_,_,_,_,_=>wkLe_none _ _
 | f+1,t,e,k,n,hs,he,hk,h0,h1,hf=>by
  have hse:=sizeT_eq t
  have ih:=wkT_le S f
  have hst:∀(s:GT) (m:Int) (e:Env),sizeT s≤S→envLe S e→wkLe (S+(f+1)) n (stepS (wkT f) s m e k n):=fun s m e h2 h3=>
   (stepS_le s m e k n h2 h3 hk h0 (by omega) (fun x e n a b c d q=>ih x e k n a b hk c d q)).mono (by omega) (Int.le_refl _)
  unfold wkT
  split
  ·cases hsp:spendN n (k*sizeV t.v) with
   | none=>exact wkLe_none _ _
   | some n1=>
    obtain ⟨a1,a2⟩:=spendN_some hsp
    have hm:0≤k*(sizeV t.v:Int):=Int.mul_nonneg (by omega) (by omega)
    have hdl:=deepV_le t.v
    intro d q hq;cases hq;omega
  ·split
   ·cases e with
    | nil=>exact wkLe_none _ _
    | cons p up=>obtain ⟨s,m⟩:=p;exact hst s m up he.1 he.2
   ·split
    ·exact hst t t.lo e hs he
    ·cases hsp:spendN n k with
     | none=>exact wkLe_none _ _
     | some n1=>
      obtain ⟨a1,a2⟩:=spendN_some hsp
      have hfold:∀k',1≤k'→wkLe (S+f) n1 (foldA (fun n x=>wkT f x e k' n) t.a 0 n1):=fun k' hk'=>
       foldA_le t.a 0 n1 (by omega) (by omega) a2 (fun n x hx c d q=>ih x e k' n (by have:=sizeT_mem hx;omega) he hk' c d q) (by omega) (by omega)
      simp only []
      split
      ·intro d q hq;cases hq;omega
      ·split
       ·exact (foldVs_le (S:=S) (by omega) t.vs 0 n1 (by omega) (by omega) a2 (by omega)).mono (by omega) (by omega)
       ·split
        ·have hm:=hfold (k*max 1 t.hi) (by have:=Int.mul_le_mul (a:=1) (b:=1) (c:=k) (d:=max 1 t.hi) hk (by omega) (by omega) (by omega);omega)
         cases hR:foldA (fun n x=>wkT f x e (k*max 1 t.hi) n) t.a 0 n1 with
         | none=>exact wkLe_none _ _
         | some p=>
          obtain ⟨d1,n2⟩:=p
          obtain ⟨b1,b2,b3,b4⟩:=hm d1 n2 hR
          simp only []
          split<;>(intro d q hq;cases hq;omega)
        ·split
         ·exact (hfold k hk).mono (by omega) (by omega)
         ·have hm:=hfold k hk
          cases hR:foldA (fun n x=>wkT f x e k n) t.a 0 n1 with
          | none=>exact wkLe_none _ _
          | some p=>
           obtain ⟨d1,n2⟩:=p
           obtain ⟨b1,b2,b3,b4⟩:=hm d1 n2 hR
           intro d q hq;simp only [plus1] at hq;cases hq;omega
theorem term_any (c S:Nat) (hS:S≤1099511627776):∀f,f≤1099511627776→WkIH c S f
 | 0,_=>by intro t e k n w m a _ _ _ _ _ _ hf;omega
 | f+1,hfu=>by
  have ih:=term_any c S hS f (by omega)
  intro t e k n w x a hg ox hs he hk hn hf hc hl hr hv
  refine ⟨wkT_le S (f+1) t e k n hs (envLe_of he) hk.1 hn.1 hn.2 hf,?_⟩
  have hfu':f≤1099511627776:=by omega
  by_cases h1:t.k=1
  ·exact term_1 c S f hS t e k n w x a ox hs hk hn hc hl hr h1
  by_cases h11:t.k=11
  ·exact term_11 c S f hS ih t e k n w x a hg he hk hn (by omega) hc hl hv h11
  by_cases h10:t.k=10
  ·exact term_10 c S f hS ih t e k n w x a hg ox hs he hk hn (by omega) hc hl hr hv h10
  cases hsp:spendN n k with
  | none=>exact term_x c S f hS hfu' ih t e k n w x a hg ox hs he hk hn (by omega) hc hl hr hv h1 h10 h11 hsp
  | some n1=>
   obtain ⟨a1,a2⟩:=spendN_some hsp
   have hse:=sizeT_eq t
   have hfold:∀k',1≤k'→∀d q,foldA (fun n x=>wkT f x e k' n) t.a 0 n1=some (d,q)→0≤d∧d≤S+f:=fun k' hk' d q h=>by
    have:=foldA_le (S:=S) (f:=f) t.a 0 n1 (by omega) (by omega) a2 (fun n x hx c d q=>wkT_le S f x e k' n (by have:=sizeT_mem hx;omega) (envLe_of he) hk' c d q) (by omega) (by omega) d q h
    omega
   by_cases h2:t.k=2
   ·exact term_2 c S f hS hfu' ih t e k n w x a hg ox hs he hk hn (by omega) hc hl hr hv h1 h10 h11 n1 a1 a2 hsp h2
   by_cases h4:t.k=4
   ·exact term_4 c S f hS hfu' ih t e k n w x a hg ox hs he hk hn (by omega) hc hl hr hv h1 h10 h11 n1 a1 a2 hsp h4
   by_cases h3:t.k=3
   ·exact term_3 c S f hS hfu' ih t e k n w x a hg ox hs he hk hn (by omega) hc hl hr hv h1 h10 h11 n1 a1 a2 hsp (.inl h3)
   by_cases h9:t.k=9
   ·exact term_3 c S f hS hfu' ih t e k n w x a hg ox hs he hk hn (by omega) hc hl hr hv h1 h10 h11 n1 a1 a2 hsp (.inr h9)
   by_cases h6:t.k=6
   ·obtain ⟨_,i1,i2,i3⟩:=node_list (goodT_eq.1 hg).1 h6
    by_cases hh0:t.hi=0
    ·exact term_60 c S f hS hfu' ih t e k n w x a hg ox hs he hk hn (by omega) hc hl hr hv h1 h10 h11 n1 a1 a2 hsp h6 hh0 (hfold k hk.1)
    by_cases hh1:t.hi=1
    ·exact term_61 c S f hS hfu' ih t e k n w x a hg ox hs he hk hn (by omega) hc hl hr hv h1 h10 h11 n1 a1 a2 hsp h6 hh1 (hfold k hk.1)
    ·have hkm:1≤k*t.hi:=by have:=Int.mul_le_mul (a:=1) (b:=1) (c:=k) (d:=t.hi) hk.1 (by omega) (by omega) (by omega);omega
     exact term_6h c S f hS hfu' ih t e k n w x a hg ox hs he hk hn (by omega) hc hl hr hv h1 h10 h11 n1 a1 a2 hsp h6 (by omega) (hfold _ hkm)
   ·exact term_5 c S f hS hfu' ih t e k n w x a hg ox hs he hk hn (by omega) hc hl hr hv h1 h10 h11 n1 a1 a2 hsp h2 h4 h6 h3 h9 (hfold k hk.1)
end Go.Proofs.YtclphfojkggcpaaGreat
