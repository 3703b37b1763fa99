/- What the proofs of the Trial statements need: part 46. -/
import Derived.Test.YtclphfojkggcpaaGreatZ16
import Derived.Test.YtclphfojkggcpaaGreatZ30
import Derived.Test.YtclphfojkggcpaaGreatZ31
import Derived.Test.YtclphfojkggcpaaGreatZ41
import Derived.Test.YtclphfojkggcpaaGreatZ42
import Derived.Test.YtclphfojkggcpaaGreatZ44
set_option linter.unusedVariables false
set_option linter.unusedSimpArgs false
namespace Go.Proofs.YtclphfojkggcpaaGreat
open Go.Lib (hid)
open Go Go.RowKit
theorem deepMax_rng:∀(l:List GV) (d:Int),0≤d→d≤4096→(∀x∈l,deepV x≤4096)→0≤deepMax l d∧deepMax l d≤4096
 | [],d,h0,h1,_=>⟨h0,h1⟩
 | x::l,d,h0,h1,h=>by
  simp only [deepMax]
  have:=h x (by simp)
  exact deepMax_rng l _ (by omega) (by omega) fun y hy=>h y (List.mem_cons_of_mem _ hy)
theorem foldA_rng {g:Int→GT→Option (Int×Int)} {B:Int}:∀(l:List GT) (d n D n':Int),(∀x∈l,∀n d n',g n x=some (d,n')→0≤d∧d≤B)→0≤d→d≤B→foldA g l d n=some (D,n')→0≤D∧D≤B
 | [],d,n,D,n',_,h0,h1,h=>by simp only [foldA,Option.some.injEq,Prod.mk.injEq] at h;omega
 | x::l,d,n,D,n',hx,h0,h1,h=>by
  simp only [foldA] at h
  cases hg:g n x with
  | none=>rw [hg] at h;cases h
  | some y=>
   obtain ⟨d2,n2⟩:=y
   rw [hg] at h
   have:=hx x (by simp) n d2 n2 hg
   exact foldA_rng l _ _ _ _ (fun y hy=>hx y (List.mem_cons_of_mem _ hy)) (by omega) (by omega) h
theorem wk_1 {t:GT} (hk:t.k=1) {g:Nat} {k n d n':Int} (h:wkT (g+1) t [] k n=some (d,n')):d=deepV t.v:=by
 simp only [wkT,hk,if_true] at h
 split at h<;>cases h
 rfl
theorem wk_2 {t:GT} (hk:t.k=2) {g:Nat} {k n d n':Int} (h:wkT (g+1) t [] k n=some (d,n')):d=1:=by
 simp only [wkT,hk,if_true,show ((2:Int)=1)=False by simp,show ((2:Int)=11)=False by simp,show ((2:Int)=10)=False by simp,if_false] at h
 split at h<;>cases h
 rfl
theorem wk_4 {t:GT} (hk:t.k=4) {g:Nat} {k n d n':Int} (h:wkT (g+1) t [] k n=some (d,n')):d=deepMax t.vs 0:=by
 simp only [wkT,hk,if_true,show ((4:Int)=1)=False by simp,show ((4:Int)=11)=False by simp,show ((4:Int)=10)=False by simp,show ((4:Int)=2)=False by simp,if_false] at h
 split at h
 ·cases h
 ·exact foldVs_max _ _ _ _ h
theorem wk_6 {t:GT} (hk:t.k=6) {g:Nat} {k n d n':Int} (h:wkT (g+1) t [] k n=some (d,n')):(t.hi=0∧d=1)∨(¬t.hi=0∧∃n1 D0,foldA (fun n x=>wkT g x [] (k*max 1 t.hi) n) t.a 0 n1=some (D0,n')∧d=D0+1):=by
 simp only [wkT,hk,if_true,show ((6:Int)=1)=False by simp,show ((6:Int)=11)=False by simp,show ((6:Int)=10)=False by simp,show ((6:Int)=2)=False by simp,show ((6:Int)=4)=False by simp,if_false] at h
 split at h
 ·cases h
 ·rename_i n1 _
  cases hx:foldA (fun n x=>wkT g x [] (k*max 1 t.hi) n) t.a 0 n1 with
  | none=>rw [hx] at h;cases h
  | some y=>
   obtain ⟨D0,n2⟩:=y
   rw [hx] at h
   dsimp only at h
   split at h
   ·rename_i h0;cases h;exact .inl ⟨h0,rfl⟩
   ·rename_i h0;cases h;exact .inr ⟨h0,n1,D0,hx,by omega⟩
theorem wk_a {t:GT} (hk:t.k=3∨t.k=5∨t.k=7∨t.k=8∨t.k=9) {g:Nat} {k n d n':Int} (h:wkT (g+1) t [] k n=some (d,n')):∃n1 D0,foldA (fun n x=>wkT g x [] k n) t.a 0 n1=some (D0,n')∧d=if t.k=3∨t.k=9 then D0 else D0+1:=by
 rw [wkT_kinds hk] at h
 cases hs:spendN n k with
 | none=>rw [hs] at h;cases h
 | some n1=>
  rw [hs] at h
  dsimp only at h
  cases hx:foldA (fun n x=>wkT g x [] k n) t.a 0 n1 with
  | none=>rw [hx] at h;cases h
  | some y=>
   obtain ⟨D0,n2⟩:=y
   rw [hx] at h
   simp only [Option.some.injEq,Prod.mk.injEq] at h
   obtain ⟨h1,rfl⟩:=h
   refine ⟨n1,D0,hx,?_⟩
   rw [←h1]
   split<;>omega
theorem wk_10 {t:GT} (hk:t.k=10) (hg:goodT false t) (h1:1 < t.a.length) {g:Nat} {k n d n':Int} (h:wkT (g+1) t [] k n=some (d,n')):∃n1,wkT g (stepT t t.a[0] t.a[1]) [] k n1=some (d,n'):=by
 rw [wkT_step hk hg (List.getElem?_eq_getElem (by omega)) (List.getElem?_eq_getElem h1)] at h
 cases hs:spendN n k with
 | none=>rw [hs] at h;cases h
 | some n1=>rw [hs] at h;exact ⟨n1,h⟩
theorem wk_11 {t:GT} (hk:t.k=11) (g:Nat) (k n:Int):wkT (g+1) t [] k n=none:=by
 simp only [wkT,hk,show ((11:Int)=1)=False by simp,if_false,if_true]
theorem wk_rng:∀(f:Nat) (t:GT) (k n d n':Int),wkT f t [] k n=some (d,n')→goodT false t→0≤d∧d≤4096+(f:Int)
 | 0,_,_,_,_,_,h,_=>by simp [wkT] at h
 | f+1,t,k,n,d,n',h,hg=>by
  have ih:=fun t k n d n' h hg=>wk_rng f t k n d n' h hg
  obtain ⟨hn,h11, -⟩:=goodT_eq.1 hg
  obtain ⟨⟨r1,r2⟩, -⟩:=node_ok hn
  by_cases k1:t.k=1
  ·have:=wk_1 k1 h
   have h2:=size_of_checkV (value_at k1 hn)
   have h3:=deepV_le t.v
   omega
  by_cases k2:t.k=2
  ·have:=wk_2 k2 h;omega
  by_cases k4:t.k=4
  ·have e:=wk_4 k4 h
   obtain ⟨-,hc⟩:=row_at k4 hn
   have:=deepMax_rng t.vs 0 (by omega) (by omega) fun x hx=>by
    obtain ⟨j,hj,rfl⟩:=List.getElem_of_mem hx
    have h2:=size_of_checkV (hc j hj)
    have h3:=deepV_le t.vs[j]
    omega
   omega
  by_cases k10:t.k=10
  ·have hl:=(node_sized hn k10).1
   obtain ⟨n1,h1⟩:=wk_10 k10 hg (by omega) h
   have:=ih _ _ _ _ _ h1 (step_good k10 hg (by omega))
   omega
  have hx:∀K,∀x∈t.a,∀n d n',wkT f x [] K n=some (d,n')→0≤d∧d≤4096+(f:Int):=fun K x hx n d n' h=>ih x K n d n' h (goodT_arg hg k10 hx)
  by_cases k6:t.k=6
  ·rcases wk_6 k6 h with ⟨-,e⟩|⟨-,n1,D0,hF,e⟩
   ·omega
   ·have:=foldA_rng t.a 0 n1 D0 n' (hx _) (by omega) (by omega) hF;omega
  by_cases k11:t.k=11
  ·rw [wk_11 k11] at h;cases h
  ·obtain ⟨n1,D0,hF,e⟩:=wk_a (by omega) h
   have:=foldA_rng t.a 0 n1 D0 n' (hx _) (by omega) (by omega) hF
   split at e<;>omega
set_option maxRecDepth 100000 in
set_option maxHeartbeats 4000000 in
theorem high_10 (t:GT) (w:World) (A:Nat→Prop) (m:TA) (hk:t.k=10) (f:Nat) (ih:HighIH f) (k n1 d n':Int) (hg:goodT false t) (h1l:1 < t.a.length) (h0:0≤t.lo) (hF:wkT f (stepT t t.a[0] t.a[1]) [] k n1=some (d,n')) (ox:okT t) (hl:RT w A t m):
  Calls Tryz.prog 71 #[TV t m] w fun e w'=>e=.returned (.int .i64 d)∧Below w.heap.size w w':=by
 obtain ⟨ma,mb,mc,md,me,mf,mg,mh,mi,mj,mk,ml⟩:=m
 obtain ⟨-, -, -, -, -, -, -,oal,oa⟩:=okT_iff.1 ox
 have HT:=hid hl
 have hgs:=step_good hk hg h1l
 have hos:okT (stepT t t.a[0] t.a[1]):=by
  unfold stepT
  split
  ·exact oa.get 0 (by omega)
  ·exact putT_ok (less_ok (by omega) ox) _ (oa.get 1 (by omega))
 have HS:=hid (fun (W:World) (h:RT W A t ⟨ma,mb,mc,md,me,mf,mg,mh,mi,mj,mk,ml⟩)=>r19step_any t W A ⟨ma,mb,mc,md,me,mf,mg,mh,mi,mj,mk,ml⟩ ox h1l h0 h)
 generalize stepT t t.a[0] t.a[1]=X at hgs hos HS hF
 have HC:=hid (fun (W:World) (A':Nat→Prop) (m':TA) (h:RT W A' X m')=>(ih X W A' m' k n1 d n' hF hgs hos h).2)
 have hk1:(t.k==1)=false:=by simp [hk]
 have hk2:(t.k==2)=false:=by simp [hk]
 have hk4:(t.k==4)=false:=by simp [hk]
 have hk6:(t.k==6)=false:=by simp [hk]
 have hk10:(t.k==10)=true:=by simp [hk]
 clear hg ox hl oa ih hk hgs hos h0 h1l hF
 go_enter Tryz.func71,Tryz.ntmps71
 go_wp2_with (first
  | (go_at_call 46;refine (HS.out _ (by exact RT.ext (Agree.below Below.r) _ _ HT.out)).mono ?_;rintro e w1 ⟨hb1,m1,rfl,hrt⟩;have HRT:=hid (RT.mono (A':=fun _=>True) (fun _ _ _=>trivial) _ _ hrt);clear hrt;have hz1:=hb1.size;(try simp at hz1))
  | (go_at_call 71;(with_reducible refine (HC.out _ (fun _=>True) m1 (by exact HRT.out)).mono ?_);rintro e w2 ⟨rfl,hb2⟩))
 go_ret
 exact ⟨rfl,Below.r⟩
theorem r19high_any:∀(f:Nat),f≤4098→HighIH f
 | 0,_=>fun t w A m k n d n' h=>by simp [wkT] at h
 | f+1,hf=>fun t w A m k n d n' h hg ox hl=>by
  refine ⟨wk_rng _ t k n d n' h hg,?_⟩
  have ih:=r19high_any f (by omega)
  obtain ⟨hn,h11, -⟩:=goodT_eq.1 hg
  obtain ⟨⟨r1,r2⟩, -⟩:=node_ok hn
  by_cases k1:t.k=1
  ·rw [wk_1 k1 h];exact high_1 t w A m k1 hg ox hl
  by_cases k2:t.k=2
  ·rw [wk_2 k2 h];exact high_2 t w A m k2 hg ox hl
  by_cases k4:t.k=4
  ·rw [wk_4 k4 h];exact high_4 t w A m k4 hg ox hl
  by_cases k10:t.k=10
  ·have hs:=node_sized hn k10
   obtain ⟨n1,h1⟩:=wk_10 k10 hg (by omega) h
   exact high_10 t w A m k10 f ih k n1 d n' hg (by omega) hs.2.1 h1 ox hl
  by_cases k6:t.k=6
  ·rcases wk_6 k6 h with ⟨h0,e⟩|⟨h0,n1,D0,hF,e⟩
   ·rw [e];exact high_60 t w A m k6 h0 hg ox hl
   ·rw [e];exact high_6 t w A m k6 h0 f (by omega) ih _ n1 D0 n' hF hg ox hl
  by_cases k11:t.k=11
  ·rw [wk_11 k11] at h;cases h
  ·obtain ⟨n1,D0,hF,e⟩:=wk_a (by omega) h
   by_cases k3:t.k=3
   ·rw [if_pos (.inl k3)] at e;rw [e];exact high_3 t w A m k3 f (by omega) ih _ n1 D0 n' hF hg ox hl
   by_cases k9:t.k=9
   ·rw [if_pos (.inr k9)] at e;rw [e];exact high_9 t w A m k9 f (by omega) ih _ n1 D0 n' hF hg ox hl
   ·rw [if_neg (by omega)] at e;rw [e];exact high_d t w A m (by omega) f (by omega) ih _ n1 D0 n' hF hg ox hl
set_option maxRecDepth 100000 in
set_option maxHeartbeats 4000000 in
theorem s22_10 (c:Nat) (s:ByteArray) (f:Nat) (ih:SamIH22 c s f) (t:GT) (i:Nat) (w:World) (m:TA) (hk:t.k=10) (hg:goodT false t) (ox:okT t) (hwk:∃k n,wkT (f+1) t [] k n≠none) (hi:i≤s.size) (hc:Cur w c s i false) (hl:RT w (fun b=>b≠c) t m):
  Calls Tryz.prog 53 #[.pointer (some ⟨c,0,none⟩),TV t m] w (Sam22 c s (sampT s (f+1) t [] i) w):=by
 obtain ⟨hn, -, -⟩:=goodT_eq.1 hg
 obtain ⟨hal,h0, -⟩:=node_sized hn hk
 have h1l:1 < t.a.length:=by omega
 rw [sampT_step s hk hg (List.getElem?_eq_getElem (by omega)) (List.getElem?_eq_getElem h1l) f i]
 obtain ⟨ma,mb,mc,md,me,mf,mg,mh,mi,mj,mk,ml⟩:=m
 obtain ⟨-, -, -, -, -, -, -,oal,oa⟩:=okT_iff.1 ox
 have HT:=hid hl
 have HC:=hid hc
 have hcs:c < w.heap.size:=World.block_lt_of_cell? _ _ hc.1.1
 have hgs:=step_good hk hg h1l
 have hos:okT (stepT t t.a[0] t.a[1]):=by
  unfold stepT
  split
  ·exact oa.get 0 (by omega)
  ·exact putT_ok (less_ok (by omega) ox) _ (oa.get 1 (by omega))
 have hw2:∃k n,wkT f (stepT t t.a[0] t.a[1]) [] k n≠none:=by
  obtain ⟨k,n,h⟩:=hwk
  cases hw:wkT (f+1) t [] k n with
  | none=>exact absurd hw h
  | some y=>
   obtain ⟨n1,h1⟩:=wk_10 hk hg h1l (d:=y.1) (n':=y.2) hw
   exact ⟨k,n1,by rw [h1];simp⟩
 have HS:=hid (fun (W:World) (h:RT W (fun b=>b≠c) t ⟨ma,mb,mc,md,me,mf,mg,mh,mi,mj,mk,ml⟩)=>r19step_any t W (fun b=>b≠c) ⟨ma,mb,mc,md,me,mf,mg,mh,mi,mj,mk,ml⟩ ox h1l h0 h)
 generalize stepT t t.a[0] t.a[1]=X at hgs hos HS hw2 ⊢
 have HI:=hid (fun (W:World) (m':TA) (h1:Cur W c s i false) (h2:RT W (fun b=>b≠c) X m')=>ih X i W m' hgs hos hi hw2 h1 h2)
 have hk1:(t.k==1)=false:=by simp [hk]
 have hk2:(t.k==2)=false:=by simp [hk]
 have hk3:(t.k==3)=false:=by simp [hk]
 have hk4:(t.k==4)=false:=by simp [hk]
 have hk5:(t.k==5)=false:=by simp [hk]
 have hk6:(t.k==6)=false:=by simp [hk]
 have hk7:(t.k==7)=false:=by simp [hk]
 have hk8:(t.k==8)=false:=by simp [hk]
 have hk9:(t.k==9)=false:=by simp [hk]
 clear hc hk hl hg ox hwk ih hgs hos hw2 hn oa h0 h1l hal
 rcases hW:sampT s f X [] i with ⟨v',q⟩|⟨k'⟩
 all_goals have HW2:=hid hW
 all_goals clear hW
 ·go_enter Tryz.func53,Tryz.ntmps53
  go_wp2_with (first
   | (go_at_call 46;refine (HS.out _ (by exact RT.ext (Agree.below Below.r) _ _ HT.out)).mono ?_;rintro e w1 ⟨hb1,m1,rfl,hrt⟩;have HRT:=hid (RT.mono (A':=fun b=>b≠c) (fun b hb _=>(by rcases hb with h|h;exact h;(try simp at h);omega)) _ _ hrt);clear hrt;obtain ⟨hc1,hf1⟩:=bcells hb1;have hz1:=hb1.size;(try simp at hz1);have y1:w.heap.size+1 < w1.heap.size:=(by omega))
   | (go_at_call 53;refine (HI.out _ m1 (by exact Cur.below (B:=w.heap.size) Below.r hcs HC.out) (by exact HRT.out)).mono ?_;rw [HW2.out];rintro e1 w3 ⟨hb3,⟨m3,rfl,hrv⟩,hc3⟩;have HRV:=hid hrv;have HC3:=hid hc3;clear hrv hc3;have hz3:=hb3.size;(try simp at hz3);obtain ⟨hc3,hf3⟩:=ccells hb3;have y4:w.heap.size+1 < w3.heap.size:=(by omega);have y2:¬w.heap.size+1=c:=(by omega);have y3:¬w.heap.size=c:=(by omega)))
  refine bodyPost_ret (v:=(.tuple #[VV v' m3,.int .u8 1])) (by first|(simp [results,Tryz.f53,go_sem];done)|(simp [results,Tryz.f53,go_sem, *];done)) rfl ?_
  exact ⟨But.r,⟨m3,rfl,RV.mono (fun b hb _=>by (try simp at hb);omega) _ _ (RV.ext (((Agree.set so).trans (Agree.set so)).trans (Agree.set so)) _ _ HRV.out)⟩,Cur.below (B:=w.heap.size+1) Below.r (by omega) HC3.out⟩
 ·go_enter Tryz.func53,Tryz.ntmps53
  go_wp2_with (first
   | (go_at_call 46;refine (HS.out _ (by exact RT.ext (Agree.below Below.r) _ _ HT.out)).mono ?_;rintro e w1 ⟨hb1,m1,rfl,hrt⟩;have HRT:=hid (RT.mono (A':=fun b=>b≠c) (fun b hb _=>(by rcases hb with h|h;exact h;(try simp at h);omega)) _ _ hrt);clear hrt;obtain ⟨hc1,hf1⟩:=bcells hb1;have hz1:=hb1.size;(try simp at hz1);have y1:w.heap.size+1 < w1.heap.size:=(by omega))
   | (go_at_call 53;refine (HI.out _ m1 (by exact Cur.below (B:=w.heap.size) Below.r hcs HC.out) (by exact HRT.out)).mono ?_;rw [HW2.out];rintro e1 w3 ⟨hb3,rfl,hk8,hk9⟩;have hz3:=hb3.size;(try simp at hz3);obtain ⟨hc3,hf3⟩:=ccells hb3;have y4:w.heap.size+1 < w3.heap.size:=(by omega);have y2:¬w.heap.size+1=c:=(by omega);have y3:¬w.heap.size=c:=(by omega)))
  refine bodyPost_ret (v:=(.tuple #[VV ⟨0,0,[]⟩ ⟨none,0⟩,.int .u8 k'])) (by first|(simp [results,Tryz.f53,go_sem];done)|(simp [results,Tryz.f53,go_sem, *];done)) rfl ?_
  exact ⟨But.r,rfl,hk8,hk9⟩
mutual
theorem chk_up {mo mo':Int} (hm:mo≤mo'):∀(t:GT) (pl d:Int) (inn:Bool),(chkT pl d mo inn t).2=0→chkT pl d mo' inn t=chkT pl d mo inn t
 | ⟨k,v,vs,lo,hi,ws,p,l⟩,pl,d,inn,h=>by
  simp only [chkT] at h ⊢
  by_cases h1:mo < d
  ·rw [if_pos h1] at h;simp at h
  ·rw [if_neg h1] at h ⊢
   rw [if_neg (by omega)]
   by_cases h2:nodeT ⟨k,v,vs,lo,hi,ws,p,l⟩≠0
   ·rw [if_pos h2,if_pos h2]
   ·rw [if_neg h2] at h ⊢
    rw [if_neg h2]
    by_cases h3:k=11∧inn=false
    ·rw [if_pos h3,if_pos h3]
    ·rw [if_neg h3] at h ⊢
     rw [if_neg h3]
     exact chks_up hm l _ _ _ _ _ h
theorem chks_up {mo mo':Int} (hm:mo≤mo'):∀(l:List GT) (pl d:Int) (inn:Bool) (k:Int) (i:Nat),(chkTs pl d mo inn k i l).2=0→chkTs pl d mo' inn k i l=chkTs pl d mo inn k i l
 | [],_,_,_,_,_,_=>rfl
 | x::l,pl,d,inn,k,i,h=>by
  simp only [chkTs] at h ⊢
  by_cases h1:(chkT pl d mo (inn||stepB k i) x).2=0
  ·have e:=chk_up hm x pl d (inn||stepB k i) h1
   rw [if_neg (by simpa using h1)] at h
   rw [e,if_neg (by simpa using h1),if_neg (by simpa using h1)]
   exact chks_up hm l _ _ _ _ _ h
  ·rw [if_pos h1] at h;exact absurd h h1
end
theorem bulk_measure {t:GT} {r:Int} (h:BX 4096 t r):r=(measureT t).1∧(r≤4096→∃d n',wkT 4098 t [] 1 0=some (d,n')∧(measureT t).2=d):=by
 rcases h with ⟨h1,h2,d,hE⟩|⟨rfl,hB⟩
 ·have h3:=(hE 4098 1 0 (by omega) (by omega)).1 (by omega) (by omega)
  unfold measureT
  rw [h3]
  exact ⟨by simp,fun _=>⟨d,_,rfl,rfl⟩⟩
 ·refine ⟨?_,fun h=>by omega⟩
  unfold measureT
  have hle:=wkT_le (sizeT t) 4098 t [] 1 0 (Nat.le_refl _) trivial (by omega) (by omega) (by omega) (by omega)
  cases hw:wkT 4098 t [] 1 0 with
  | none=>rfl
  | some y=>
   obtain ⟨d,n'⟩:=y
   have h9:=hle d n' hw
   have:=hB 4098 1 0 d n' (by omega) (by omega) hw
   omega
theorem measure_rng (t:GT):0≤(measureT t).1∧(measureT t).1≤4097:=by
 unfold measureT
 have hle:=wkT_le (sizeT t) 4098 t [] 1 0 (Nat.le_refl _) trivial (by omega) (by omega) (by omega) (by omega)
 cases hw:wkT 4098 t [] 1 0 with
 | none=>exact ⟨by simp,by simp⟩
 | some y=>
  obtain ⟨d,n'⟩:=y
  have h9:=hle d n' hw
  exact ⟨by dsimp only;omega,by dsimp only;omega⟩
theorem measure_wk {t:GT} (h:(measureT t).1≤4096):∃n',wkT 4098 t [] 1 0=some ((measureT t).2,n'):=by
 unfold measureT at h ⊢
 cases hw:wkT 4098 t [] 1 0 with
 | none=>rw [hw] at h;simp at h
 | some y=>exact ⟨y.2,rfl⟩
theorem measure_pos {t:GT} (h:(measureT t).1≤4096):1≤(measureT t).1:=by
 obtain ⟨n',hw⟩:=measure_wk h
 have:=wkT_up1 4098 t [] 1 0 _ n' (by omega) hw
 unfold measureT
 rw [hw]
 dsimp only
 omega
set_option maxRecDepth 100000 in
set_option maxHeartbeats 4000000 in
theorem r19BulkX_any (t:GT) (w:World) (A:Nat→Prop) (m:TA) (ox:okT t) (hs:sizeT t≤1048576) (hl:RT w A t m) (hE:(chkT 0 1 12 false t).2=0):
  Calls Tryz.prog 13 #[TV t m] w fun e w'=>e=.returned (.int .i64 (measureT t).1)∧Below w.heap.size w w':=by
 obtain ⟨ma,mb,mc,md,me,mf,mg,mh,mi,mj,mk,ml⟩:=m
 have HT:=hid hl
 have OX:=hid ox
 have HG:=hid (good_of_chk 12 t 0 1 false hE)
 have hE2:(chkT 0 1 1099511627776 false t).2=0:=by rw [chk_up (mo':=1099511627776) (by omega) t 0 1 false hE];exact hE
 have hE':((chkT 0 1 1099511627776 false t).2 != 0)=false:=by simp [hE2]
 clear hl ox hE hE2
 go_enter Tryz.func13,Tryz.ntmps13
 go_wp2_with (first
  | (go_at_call 28;refine (r19check_any (sizeT t) 1099511627776 ⟨by omega,by omega⟩ t _ A ⟨ma,mb,mc,md,me,mf,mg,mh,mi,mj,mk,ml⟩ 0 1 false (Nat.le_refl _) OX.out (by omega) (by omega) (by omega) (by omega) (by exact RT.ext (Agree.below Below.r) _ _ HT.out)).mono ?_;rintro e w1 ⟨rfl,hb1⟩;obtain ⟨hc1,hf1⟩:=bcells hb1;have hz1:=hb1.size;(try simp at hz1))
  | (go_at_call 29;refine (r19bulkX_any 4096 t _ A ⟨ma,mb,mc,md,me,mf,mg,mh,mi,mj,mk,ml⟩ 4096 (by omega) (by omega) (by omega) HG.out OX.out (by exact RT.ext (Agree.below Below.r) _ _ HT.out)).mono ?_;rintro e w2 ⟨⟨r,rfl,hbx⟩,hb2⟩;have HBX:=hid hbx;clear hbx))
 go_ret
 exact ⟨ret_int (bulk_measure HBX.out).1,Below.r⟩
set_option maxRecDepth 100000 in
set_option maxHeartbeats 4000000 in
theorem r19High_any (t:GT) (w:World) (A:Nat→Prop) (m:TA) (ox:okT t) (hs:sizeT t≤1048576) (hl:RT w A t m) (hE:(chkT 0 1 12 false t).2=0) (h4:(measureT t).1≤4096):
  Calls Tryz.prog 50 #[TV t m] w fun e w'=>e=.returned (.int .i64 (measureT t).2)∧Below w.heap.size w w':=by
 obtain ⟨ma,mb,mc,md,me,mf,mg,mh,mi,mj,mk,ml⟩:=m
 have HT:=hid hl
 have OX:=hid ox
 have HE:=hid hE
 have HG:=hid (good_of_chk 12 t 0 1 false hE)
 obtain ⟨n',hw⟩:=measure_wk h4
 have HW:=hid hw
 have h1:=measure_pos h4
 have b0:((measureT t).1==0)=false:=by simp;omega
 have b1:decide (4096 < (measureT t).1)=false:=by simp;omega
 clear hl ox hE hw h1 h4
 go_enter Tryz.func50,Tryz.ntmps50
 go_wp2_with (first
  | (go_at_call 13;refine (r19BulkX_any t _ A ⟨ma,mb,mc,md,me,mf,mg,mh,mi,mj,mk,ml⟩ OX.out hs (by exact RT.ext (Agree.below Below.r) _ _ HT.out) HE.out).mono ?_;rintro e w1 ⟨rfl,hb1⟩;obtain ⟨hc1,hf1⟩:=bcells hb1;have hz1:=hb1.size;(try simp at hz1))
  | (go_at_call 71;refine (r19high_any 4098 (by omega) t _ A ⟨ma,mb,mc,md,me,mf,mg,mh,mi,mj,mk,ml⟩ 1 0 (measureT t).2 n' HW.out HG.out OX.out (by exact RT.ext (Agree.below Below.r) _ _ HT.out)).2.mono ?_;rintro e w2 ⟨rfl,hb2⟩))
 go_ret
 exact ⟨rfl,Below.r⟩
set_option maxRecDepth 100000 in
set_option maxHeartbeats 4000000 in
theorem r19Sound_any (t:GT) (w:World) (A:Nat→Prop) (m:TA) (ox:okT t) (hs:sizeT t≤1048576) (hl:RT w A t m) (hE:(checkTE t).2=0):
  Calls Tryz.prog 52 #[TV t m] w fun e w'=>e=.returned (.bool true)∧Below w.heap.size w w':=by
 obtain ⟨ma,mb,mc,md,me,mf,mg,mh,mi,mj,mk,ml⟩:=m
 have HT:=hid hl
 have OX:=hid ox
 have hk:(chkT 0 1 12 false t).2=0∧(measureT t).1≤4096∧(measureT t).2≤128:=by
  unfold checkTE at hE
  split at hE
  ·rename_i h;exact absurd hE h
  ·rename_i h
   split at hE
   ·simp at hE
   ·rename_i h2
    split at hE
    ·simp at hE
    ·exact ⟨by simpa using h,by omega,by omega⟩
 obtain ⟨e1,e2,e3⟩:=hk
 have h1:=measure_pos e2
 have HE:=hid e1
 have b0:decide (0 < (measureT t).1)=true:=decide_eq_true (by omega)
 have b1:decide ((measureT t).1≤4096)=true:=decide_eq_true e2
 have b2:decide ((measureT t).2≤128)=true:=decide_eq_true e3
 clear hl ox hE e1
 go_enter Tryz.func52,Tryz.ntmps52
 go_wp2_with (first
  | (go_at_call 13;refine (r19BulkX_any t _ A ⟨ma,mb,mc,md,me,mf,mg,mh,mi,mj,mk,ml⟩ OX.out hs (by exact RT.ext (Agree.below Below.r) _ _ HT.out) HE.out).mono ?_;rintro e w1 ⟨rfl,hb1⟩;obtain ⟨hc1,hf1⟩:=bcells hb1;have hz1:=hb1.size;(try simp at hz1);have y1:w.heap.size < w1.heap.size:=(by omega))
  | (go_at_call 50;refine (r19High_any t _ A ⟨ma,mb,mc,md,me,mf,mg,mh,mi,mj,mk,ml⟩ OX.out hs (by exact RT.ext (Agree.below Below.r) _ _ HT.out) HE.out e2).mono ?_;rintro e w3 ⟨rfl,hb3⟩;obtain ⟨hc3,hf3⟩:=bcells hb3;have hz3:=hb3.size;(try simp at hz3)))
 go_ret
 exact ⟨rfl,Below.r⟩
set_option maxRecDepth 100000 in
set_option maxHeartbeats 4000000 in
theorem r19CheckE_any (t:GT) (w:World) (A:Nat→Prop) (m:TA) (ox:okT t) (hs:sizeT t≤1048576) (hl:RT w A t m):
  Calls Tryz.prog 31 #[TV t m] w fun e w'=>e=.returned (.tuple #[.int .i64 (checkTE t).1,.int .i64 (checkTE t).2])∧Below w.heap.size w w':=by
 obtain ⟨ma,mb,mc,md,me,mf,mg,mh,mi,mj,mk,ml⟩:=m
 have HT:=hid hl
 have OX:=hid ox
 have hnl:=nodesT_le t
 have hmr:=measure_rng t
 clear hl ox
 unfold checkTE
 by_cases h1:(chkT 0 1 12 false t).2=0
 case neg=>
  have h1':((chkT 0 1 12 false t).2 != 0)=true:=by simp [h1]
  rw [if_pos h1]
  clear h1
  as_aux_lemma=>
   go_enter Tryz.func31,Tryz.ntmps31
   go_wp2_with (go_at_call 28;refine (r19check_any (sizeT t) 12 ⟨by omega,by omega⟩ t _ A ⟨ma,mb,mc,md,me,mf,mg,mh,mi,mj,mk,ml⟩ 0 1 false (Nat.le_refl _) OX.out (by omega) (by omega) (by omega) (by omega) (by exact RT.ext (Agree.below Below.r) _ _ HT.out)).mono ?_;rintro e w1 ⟨rfl,hb1⟩)
   go_ret2
   exact ⟨rfl,Below.r⟩
 have HE:=hid h1
 have h1':((chkT 0 1 12 false t).2 != 0)=false:=by simp [h1]
 rw [if_neg (by simp [h1])]
 clear h1
 by_cases h5:512 < (nodesT t:Int)
 ·rw [if_pos (.inl h5)]
  have b5:decide ((512:Int) < (nodesT t:Int))=true:=decide_eq_true h5
  have b5':512 < nodesT t:=by omega
  as_aux_lemma=>
   go_enter Tryz.func31,Tryz.ntmps31
   go_wp2_with (first
    | (go_at_call 28;refine (r19check_any (sizeT t) 12 ⟨by omega,by omega⟩ t _ A ⟨ma,mb,mc,md,me,mf,mg,mh,mi,mj,mk,ml⟩ 0 1 false (Nat.le_refl _) OX.out (by omega) (by omega) (by omega) (by omega) (by exact RT.ext (Agree.below Below.r) _ _ HT.out)).mono ?_;rintro e w1 ⟨rfl,hb1⟩;obtain ⟨hc1,hf1⟩:=bcells hb1;have hz1:=hb1.size;(try simp at hz1);have y1:w.heap.size < w1.heap.size:=(by omega))
    | (go_at_call 49;refine (r19nodes_any _ t _ A ⟨ma,mb,mc,md,me,mf,mg,mh,mi,mj,mk,ml⟩ (Nat.le_refl _) OX.out (by omega) (by exact RT.ext (Agree.below Below.r) _ _ HT.out)).mono ?_;rintro e w2 ⟨rfl,hb2⟩;obtain ⟨hc2,hf2⟩:=bcells hb2;have hz2:=hb2.size;(try simp at hz2);have y2:w.heap.size < w2.heap.size:=(by omega)))
   go_ret2
   exact ⟨rfl,Below.r⟩
 by_cases h6:4096 < (measureT t).1
 ·rw [if_pos (.inr h6)]
  have b5:decide ((512:Int) < (nodesT t:Int))=false:=decide_eq_false h5
  have b5':¬512 < nodesT t:=by omega
  have b6:decide ((4096:Int) < (measureT t).1)=true:=decide_eq_true h6
  clear h5
  as_aux_lemma=>
   go_enter Tryz.func31,Tryz.ntmps31
   go_wp2_with (first
    | (go_at_call 28;refine (r19check_any (sizeT t) 12 ⟨by omega,by omega⟩ t _ A ⟨ma,mb,mc,md,me,mf,mg,mh,mi,mj,mk,ml⟩ 0 1 false (Nat.le_refl _) OX.out (by omega) (by omega) (by omega) (by omega) (by exact RT.ext (Agree.below Below.r) _ _ HT.out)).mono ?_;rintro e w1 ⟨rfl,hb1⟩;obtain ⟨hc1,hf1⟩:=bcells hb1;have hz1:=hb1.size;(try simp at hz1);have y1:w.heap.size < w1.heap.size:=(by omega))
    | (go_at_call 49;refine (r19nodes_any _ t _ A ⟨ma,mb,mc,md,me,mf,mg,mh,mi,mj,mk,ml⟩ (Nat.le_refl _) OX.out (by omega) (by exact RT.ext (Agree.below Below.r) _ _ HT.out)).mono ?_;rintro e w2 ⟨rfl,hb2⟩;obtain ⟨hc2,hf2⟩:=bcells hb2;have hz2:=hb2.size;(try simp at hz2);have y2:w.heap.size < w2.heap.size:=(by omega))
    | (go_at_call 13;refine (r19BulkX_any t _ A ⟨ma,mb,mc,md,me,mf,mg,mh,mi,mj,mk,ml⟩ OX.out hs (by exact RT.ext (Agree.below Below.r) _ _ HT.out) HE.out).mono ?_;rintro e w3 ⟨rfl,hb3⟩;obtain ⟨hc3,hf3⟩:=bcells hb3;have hz3:=hb3.size;(try simp at hz3);have y3:w.heap.size < w3.heap.size:=(by omega)))
   go_ret2
   exact ⟨rfl,Below.r⟩
 ·rw [if_neg (by omega)]
  have b5:decide ((512:Int) < (nodesT t:Int))=false:=decide_eq_false h5
  have b5':¬512 < nodesT t:=by omega
  have b6:decide ((4096:Int) < (measureT t).1)=false:=decide_eq_false h6
  clear h5
  by_cases h7:128 < (measureT t).2
  ·rw [if_pos h7]
   have b7:decide ((128:Int) < (measureT t).2)=true:=decide_eq_true h7
   clear h7
   as_aux_lemma=>
    go_enter Tryz.func31,Tryz.ntmps31
    go_wp2_with (first
     | (go_at_call 28;refine (r19check_any (sizeT t) 12 ⟨by omega,by omega⟩ t _ A ⟨ma,mb,mc,md,me,mf,mg,mh,mi,mj,mk,ml⟩ 0 1 false (Nat.le_refl _) OX.out (by omega) (by omega) (by omega) (by omega) (by exact RT.ext (Agree.below Below.r) _ _ HT.out)).mono ?_;rintro e w1 ⟨rfl,hb1⟩;obtain ⟨hc1,hf1⟩:=bcells hb1;have hz1:=hb1.size;(try simp at hz1);have y1:w.heap.size < w1.heap.size:=(by omega))
     | (go_at_call 49;refine (r19nodes_any _ t _ A ⟨ma,mb,mc,md,me,mf,mg,mh,mi,mj,mk,ml⟩ (Nat.le_refl _) OX.out (by omega) (by exact RT.ext (Agree.below Below.r) _ _ HT.out)).mono ?_;rintro e w2 ⟨rfl,hb2⟩;obtain ⟨hc2,hf2⟩:=bcells hb2;have hz2:=hb2.size;(try simp at hz2);have y2:w.heap.size < w2.heap.size:=(by omega))
     | (go_at_call 13;refine (r19BulkX_any t _ A ⟨ma,mb,mc,md,me,mf,mg,mh,mi,mj,mk,ml⟩ OX.out hs (by exact RT.ext (Agree.below Below.r) _ _ HT.out) HE.out).mono ?_;rintro e w3 ⟨rfl,hb3⟩;obtain ⟨hc3,hf3⟩:=bcells hb3;have hz3:=hb3.size;(try simp at hz3);have y3:w.heap.size < w3.heap.size:=(by omega))
     | (go_at_call 50;refine (r19High_any t _ A ⟨ma,mb,mc,md,me,mf,mg,mh,mi,mj,mk,ml⟩ OX.out hs (by exact RT.ext (Agree.below Below.r) _ _ HT.out) HE.out (by omega)).mono ?_;rintro e w4 ⟨rfl,hb4⟩;obtain ⟨hc4,hf4⟩:=bcells hb4;have hz4:=hb4.size;(try simp at hz4);have y4:w.heap.size < w4.heap.size:=(by omega)))
    go_ret2
    exact ⟨rfl,Below.r⟩
  ·rw [if_neg h7]
   have b7:decide ((128:Int) < (measureT t).2)=false:=decide_eq_false h7
   clear h7
   as_aux_lemma=>
    go_enter Tryz.func31,Tryz.ntmps31
    go_wp2_with (first
     | (go_at_call 28;refine (r19check_any (sizeT t) 12 ⟨by omega,by omega⟩ t _ A ⟨ma,mb,mc,md,me,mf,mg,mh,mi,mj,mk,ml⟩ 0 1 false (Nat.le_refl _) OX.out (by omega) (by omega) (by omega) (by omega) (by exact RT.ext (Agree.below Below.r) _ _ HT.out)).mono ?_;rintro e w1 ⟨rfl,hb1⟩;obtain ⟨hc1,hf1⟩:=bcells hb1;have hz1:=hb1.size;(try simp at hz1);have y1:w.heap.size < w1.heap.size:=(by omega))
     | (go_at_call 49;refine (r19nodes_any _ t _ A ⟨ma,mb,mc,md,me,mf,mg,mh,mi,mj,mk,ml⟩ (Nat.le_refl _) OX.out (by omega) (by exact RT.ext (Agree.below Below.r) _ _ HT.out)).mono ?_;rintro e w2 ⟨rfl,hb2⟩;obtain ⟨hc2,hf2⟩:=bcells hb2;have hz2:=hb2.size;(try simp at hz2);have y2:w.heap.size < w2.heap.size:=(by omega))
     | (go_at_call 13;refine (r19BulkX_any t _ A ⟨ma,mb,mc,md,me,mf,mg,mh,mi,mj,mk,ml⟩ OX.out hs (by exact RT.ext (Agree.below Below.r) _ _ HT.out) HE.out).mono ?_;rintro e w3 ⟨rfl,hb3⟩;obtain ⟨hc3,hf3⟩:=bcells hb3;have hz3:=hb3.size;(try simp at hz3);have y3:w.heap.size < w3.heap.size:=(by omega))
     | (go_at_call 50;refine (r19High_any t _ A ⟨ma,mb,mc,md,me,mf,mg,mh,mi,mj,mk,ml⟩ OX.out hs (by exact RT.ext (Agree.below Below.r) _ _ HT.out) HE.out (by omega)).mono ?_;rintro e w4 ⟨rfl,hb4⟩;obtain ⟨hc4,hf4⟩:=bcells hb4;have hz4:=hb4.size;(try simp at hz4);have y4:w.heap.size < w4.heap.size:=(by omega)))
    go_ret2
    exact ⟨rfl,Below.r⟩
end Go.Proofs.YtclphfojkggcpaaGreat
