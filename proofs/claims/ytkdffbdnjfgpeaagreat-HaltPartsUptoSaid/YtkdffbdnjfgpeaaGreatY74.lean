/- Part 75. -/
import Derived.Test.YtkdffbdnjfgpeaaGreatY19
import Derived.Test.YtkdffbdnjfgpeaaGreatY72
import Derived.Test.YtkdffbdnjfgpeaaGreatY76
set_option linter.all false
namespace Go.Proofs.YtkdffbdnjfgpeaaGreat
open Go.Lib (hid)
open Go Go.RowKit Go.Proofs.Tryz
theorem Zac:∀(l:List GV) (d:Int),0≤d→d≤4096→(∀x∈l,Yx x≤4096)→0≤Xn l d∧Xn l d≤4096
 | [],d,h0,h1,_=>⟨h0,h1⟩
 | x::l,d,h0,h1,h=>by
  simp only [Xn]
  have:=h x sm
  exact Zac l _ om om fun y hy=>h y (List.mem_cons_of_mem _ hy)
theorem JQ {g:Int→GT→Option (Int×Int)} {B:Int}:∀(l:List GT) (d n D n':Int),(∀x∈l,∀n d n',g n x=some (d,n')→0≤d∧d≤B)→0≤d→d≤B→Zx g l d n=some (D,n')→0≤D∧D≤B
 | [],d,n,D,n',_,h0,h1,h=>by simp only [Zx,Option.some.injEq,Prod.mk.injEq] at h;omega
 | x::l,d,n,D,n',hx,h0,h1,h=>by
  simp only [Zx] at h
  cases hg:g n x with
  | none=>rw [hg] at h;cases h
  | some y=>
   obtain ⟨d2,n2⟩:=y
   rw [hg] at h
   have:=hx x sm n d2 n2 hg
   exact JQ l _ _ _ _ (fun y hy=>hx y (List.mem_cons_of_mem _ hy)) om om h
theorem Zle {t:GT} (hk:t.k=1) {g:Nat} {k n d n':Int} (h:wkT (g+1) t [] k n=some (d,n')):d=Yx t.v:=by
 simp only [wkT,hk,if_true] at h
 split at h<;>cases h
 rfl
theorem Zlf {t:GT} (hk:t.k=2) {g:Nat} {k n d n':Int} (h:wkT (g+1) t [] k n=some (d,n')):d=1:=by
 simp only [wkT,hk,if_true,show ((2:Int)=1)=False by simp,show ((2:Int)=11)=False by simp,show ((2:Int)=10)=False by simp,if_false] at h
 split at h<;>cases h
 rfl
theorem Zlg {t:GT} (hk:t.k=4) {g:Nat} {k n d n':Int} (h:wkT (g+1) t [] k n=some (d,n')):d=Xn t.vs 0:=by
 simp only [wkT,hk,if_true,show ((4:Int)=1)=False by simp,show ((4:Int)=11)=False by simp,show ((4:Int)=10)=False by simp,show ((4:Int)=2)=False by simp,if_false] at h
 split at h
 ·cases h
 exact UQ _ _ _ _ h
theorem Zlh {t:GT} (hk:t.k=6) {g:Nat} {k n d n':Int} (h:wkT (g+1) t [] k n=some (d,n')):(t.hi=0∧d=1)∨(¬t.hi=0∧∃n1 D0,Zx (fun n x=>wkT g x [] (k*max 1 t.hi) n) t.a 0 n1=some (D0,n')∧d=D0+1):=by
 simp only [wkT,hk,if_true,show ((6:Int)=1)=False by simp,show ((6:Int)=11)=False by simp,show ((6:Int)=10)=False by simp,show ((6:Int)=2)=False by simp,show ((6:Int)=4)=False by simp,if_false] at h
 split at h
 ·cases h
 rename_i n1 _
 cases hx:Zx (fun n x=>wkT g x [] (k*max 1 t.hi) n) t.a 0 n1 with
 | none=>rw [hx] at h;cases h
 | some y=>
  obtain ⟨D0,n2⟩:=y
  rw [hx] at h
  dsimp only at h
  split at h
  ·rename_i h0;cases h;exact .inl ⟨h0,rfl⟩
  rename_i h0;cases h;exact .inr ⟨h0,n1,D0,hx,om⟩
theorem Zli {t:GT} (hk:t.k=3∨t.k=5∨t.k=7∨t.k=8∨t.k=9) {g:Nat} {k n d n':Int} (h:wkT (g+1) t [] k n=some (d,n')):∃n1 D0,Zx (fun n x=>wkT g x [] k n) t.a 0 n1=some (D0,n')∧d=if t.k=3∨t.k=9 then D0 else D0+1:=by
 rw [Q8 hk] at h
 cases hs:Zu n k with
 | none=>rw [hs] at h;cases h
 | some n1=>
  rw [hs] at h
  dsimp only at h
  cases hx:Zx (fun n x=>wkT g x [] k n) t.a 0 n1 with
  | none=>rw [hx] at h;cases h
  | some y=>
   obtain ⟨D0,n2⟩:=y
   rw [hx] at h
   simp only [Option.some.injEq,Prod.mk.injEq] at h
   obtain ⟨h1,rfl⟩:=h
   refine ⟨n1,D0,hx,?_⟩
   rw [←h1]
   split<;>omega
theorem ZiR {t:GT} (hk:t.k=10) (hg:Zp false t) (h1:1 < t.a.length) {g:Nat} {k n d n':Int} (h:wkT (g+1) t [] k n=some (d,n')):∃n1,wkT g (YY t t.a[0] t.a[1]) [] k n1=some (d,n'):=by
 rw [ZeL hk hg (List.getElem?_eq_getElem om) (List.getElem?_eq_getElem h1)] at h
 cases hs:Zu n k with
 | none=>rw [hs] at h;cases h
 | some n1=>rw [hs] at h;exact ⟨n1,h⟩
theorem ZjW {t:GT} (hk:t.k=11) (g:Nat) (k n:Int):wkT (g+1) t [] k n=none:=by
 simp only [wkT,hk,show ((11:Int)=1)=False by simp,if_false,if_true]
theorem ZiS:∀(f:Nat) (t:GT) (k n d n':Int),wkT f t [] k n=some (d,n')→Zp false t→0≤d∧d≤4096+(f:Int)
 | 0,_,_,_,_,_,h,_=>by simp [wkT] at h
 | f+1,t,k,n,d,n',h,hg=>by
  have ih:=fun t k n d n' h hg=>ZiS f t k n d n' h hg
  obtain ⟨hn,h11, -⟩:=Zk.1 hg
  obtain ⟨⟨r1,r2⟩, -⟩:=Y9 hn
  by_cases k1:t.k=1
  ·have:=Zle k1 h
   have h2:=YE (JF k1 hn)
   have h3:=Vb t.v
   omega
  by_cases k2:t.k=2
  ·have:=Zlf k2 h;omega
  by_cases k4:t.k=4
  ·have e:=Zlg k4 h
   obtain ⟨-,hc⟩:=Zdy k4 hn
   have:=Zac t.vs 0 om om fun x hx=>by
    obtain ⟨j,hj,rfl⟩:=List.getElem_of_mem hx
    have h2:=YE (hc j hj)
    have h3:=Vb t.vs[j]
    omega
   omega
  by_cases k10:t.k=10
  ·have hl:=(Yl hn k10).1
   obtain ⟨n1,h1⟩:=ZiR k10 hg om h
   have:=ih _ _ _ _ _ h1 (UE k10 hg om)
   omega
  have hx:∀K,∀x∈t.a,∀n d n',wkT f x [] K n=some (d,n')→0≤d∧d≤4096+(f:Int):=fun K x hx n d n' h=>ih x K n d n' h (YG hg k10 hx)
  by_cases k6:t.k=6
  ·rcases Zlh k6 h with ⟨-,e⟩|⟨-,n1,D0,hF,e⟩
   ·omega
   have:=JQ t.a 0 n1 D0 n' (hx _) om om hF;omega
  by_cases k11:t.k=11
  ·rw [ZjW k11] at h;cases h
  obtain ⟨n1,D0,hF,e⟩:=Zli om h
  have:=JQ t.a 0 n1 D0 n' (hx _) om om hF
  split at e<;>omega
set_option maxRecDepth 100000
set_option maxHeartbeats 4000000
theorem Zji (t:GT) (w:World) (A:Nat→Prop) (m:TA) (hk:t.k=10) (f:Nat) (ih:JI f) (k n1 d n':Int) (hg:Zp false t) (h1l:1 < t.a.length) (h0:0≤t.lo) (hF:wkT f (YY t t.a[0] t.a[1]) [] k n1=some (d,n')) (ox:okT t) (hl:RT w A t m):
  Calls prog 130 #[TV t m] w fun e w'=>e=.returned (.int .i64 d)∧Below w.heap.size w w':=by
 obtain ⟨ma,mb,mc,md,me,mf,mg,mh,mi,mj,mk,ml⟩:=m
 obtain ⟨-, -, -, -, -, -, -,oal,oa⟩:=Ze.1 ox
 have HT:=hid hl
 have hgs:=UE hk hg h1l
 have hos:okT (YY t t.a[0] t.a[1]):=by
  unfold YY
  split
  ·exact oa.get 0 om
  exact Jp (ZaL om ox) _ (oa.get 1 om)
 have HS:=hid (fun (W:World) (h:RT W A t ⟨ma,mb,mc,md,me,mf,mg,mh,mi,mj,mk,ml⟩)=>Ul t W A ⟨ma,mb,mc,md,me,mf,mg,mh,mi,mj,mk,ml⟩ ox h1l h0 h)
 generalize YY t t.a[0] t.a[1]=X at hgs hos HS hF
 have HC:=hid (fun (W:World) (A':Nat→Prop) (m':TA) (h:RT W A' X m')=>(ih X W A' m' k n1 d n' hF hgs hos h).2)
 have hk1:(t.k==1)=false:=by simp [hk]
 have hk2:(t.k==2)=false:=by simp [hk]
 have hk4:(t.k==4)=false:=by simp [hk]
 have hk6:(t.k==6)=false:=by simp [hk]
 have hk10:(t.k==10)=true:=by simp [hk]
 clear hg ox hl oa ih hk hgs hos h0 h1l hF
 go_enter func130,ntmps130
 go_wp2_with (first
  | (go_at_call 114;refine (HS.out _ (by exact Zt2 ar _ _ HT.out)).mono ?_;rintro e w1 ⟨hb1,m1,rfl,hrt⟩;have HRT:=hid (Zud (A':=fun _=>True) (fun _ _ _=>trivial) _ _ hrt);clear hrt;have hz1:=hb1.size;(try simp at hz1))
  | (go_at_call 130;(with_reducible refine (HC.out _ (fun _=>True) m1 (by exact HRT.out)).mono ?_);rintro e w2 ⟨rfl,hb2⟩))
 go_ret
 exact ⟨rfl,ZtZ⟩
set_option maxRecDepth 512
theorem Zay:∀(f:Nat),f≤4098→JI f
 | 0,_=>fun t w A m k n d n' h=>by simp [wkT] at h
 | f+1,hf=>fun t w A m k n d n' h hg ox hl=>by
  refine ⟨ZiS _ t k n d n' h hg,?_⟩
  have ih:=Zay f om
  obtain ⟨hn,h11, -⟩:=Zk.1 hg
  obtain ⟨⟨r1,r2⟩, -⟩:=Y9 hn
  by_cases k1:t.k=1
  ·rw [Zle k1 h];exact Zke t w A m k1 hg ox hl
  by_cases k2:t.k=2
  ·rw [Zlf k2 h];exact Zkf t w A m k2 hg ox hl
  by_cases k4:t.k=4
  ·rw [Zlg k4 h];exact Zkh t w A m k4 hg ox hl
  by_cases k10:t.k=10
  ·have hs:=Yl hn k10
   obtain ⟨n1,h1⟩:=ZiR k10 hg om h
   exact Zji t w A m k10 f ih k n1 d n' hg om hs.2.1 h1 ox hl
  by_cases k6:t.k=6
  ·rcases Zlh k6 h with ⟨h0,e⟩|⟨h0,n1,D0,hF,e⟩
   ·rw [e];exact Zjj t w A m k6 h0 hg ox hl
   rw [e];exact Zki t w A m k6 h0 f om ih _ n1 D0 n' hF hg ox hl
  by_cases k11:t.k=11
  ·rw [ZjW k11] at h;cases h
  obtain ⟨n1,D0,hF,e⟩:=Zli om h
  by_cases k3:t.k=3
  ·rw [if_pos (.inl k3)] at e;rw [e];exact Zkg t w A m k3 f om ih _ n1 D0 n' hF hg ox hl
  by_cases k9:t.k=9
  ·rw [if_pos (.inr k9)] at e;rw [e];exact Zkj t w A m k9 f om ih _ n1 D0 n' hF hg ox hl
  rw [if_neg om] at e;rw [e];exact Zkk t w A m om f om ih _ n1 D0 n' hF hg ox hl
mutual
theorem ZhR {mo mo':Int} (hm:mo≤mo'):∀(t:GT) (pl d:Int) (inn:Bool),(ZF pl d mo inn t).2=0→ZF pl d mo' inn t=ZF pl d mo inn t
 | ⟨k,v,vs,lo,hi,ws,p,l⟩,pl,d,inn,h=>by
  simp only [ZF] at h ⊢
  by_cases h1:mo < d
  ·rw [if_pos h1] at h;simp at h
  rw [if_neg h1] at h ⊢
  rw [if_neg om]
  by_cases h2:ZG ⟨k,v,vs,lo,hi,ws,p,l⟩≠0
  ·rw [if_pos h2,if_pos h2]
  rw [if_neg h2] at h ⊢
  rw [if_neg h2]
  by_cases h3:k=11∧inn=false
  ·rw [if_pos h3,if_pos h3]
  rw [if_neg h3] at h ⊢
  rw [if_neg h3]
  exact Zgh hm l _ _ _ _ _ h
theorem Zgh {mo mo':Int} (hm:mo≤mo'):∀(l:List GT) (pl d:Int) (inn:Bool) (k:Int) (i:Nat),(ZH pl d mo inn k i l).2=0→ZH pl d mo' inn k i l=ZH pl d mo inn k i l
 | [],_,_,_,_,_,_=>rfl
 | x::l,pl,d,inn,k,i,h=>by
  simp only [ZH] at h ⊢
  by_cases h1:(ZF pl d mo (inn||ZU k i) x).2=0
  ·have e:=ZhR hm x pl d (inn||ZU k i) h1
   rw [if_neg (by simpa using h1)] at h
   rw [e,if_neg (by simpa using h1),if_neg (by simpa using h1)]
   exact Zgh hm l _ _ _ _ _ h
  rw [if_pos h1] at h;exact absurd h h1
end
theorem Zc6 {t:GT} {r:Int} (h:BX 4096 t r):r=(Zz t).1∧(r≤4096→∃d n',wkT 4098 t [] 1 0=some (d,n')∧(Zz t).2=d):=by
 rcases h with ⟨h1,h2,d,hE⟩|⟨rfl,hB⟩
 ·have h3:=(hE 4098 1 0 om om).1 om om
  unfold Zz
  rw [h3]
  exact ⟨sm,fun _=>⟨d,_,rfl,rfl⟩⟩
 refine ⟨?_,fun h=>om⟩
 unfold Zz
 have hle:=ZbY (Zb t) 4098 t [] 1 0 (Nat.le_refl _) trivial om om om om
 cases hw:wkT 4098 t [] 1 0 with
 | none=>rfl
 | some y=>
  obtain ⟨d,n'⟩:=y
  have h9:=hle d n' hw
  have:=hB 4098 1 0 d n' om om hw
  omega
theorem Zd2 (t:GT):0≤(Zz t).1∧(Zz t).1≤4097:=by
 unfold Zz
 have hle:=ZbY (Zb t) 4098 t [] 1 0 (Nat.le_refl _) trivial om om om om
 cases hw:wkT 4098 t [] 1 0 with
 | none=>exact ⟨sm,sm⟩
 | some y=>
  obtain ⟨d,n'⟩:=y
  have h9:=hle d n' hw
  exact ⟨by dsimp only;omega,by dsimp only;omega⟩
theorem Zby {t:GT} (h:(Zz t).1≤4096):∃n',wkT 4098 t [] 1 0=some ((Zz t).2,n'):=by
 unfold Zz at h ⊢
 cases hw:wkT 4098 t [] 1 0 with
 | none=>rw [hw] at h;simp at h
 | some y=>exact ⟨y.2,rfl⟩
theorem Zao {t:GT} (h:(Zz t).1≤4096):1≤(Zz t).1:=by
 obtain ⟨n',hw⟩:=Zby h
 have:=ZgB 4098 t [] 1 0 _ n' om hw
 unfold Zz
 rw [hw]
 dsimp only
 omega
set_option maxRecDepth 100000
theorem WI (t:GT) (w:World) (A:Nat→Prop) (m:TA) (ox:okT t) (hs:Zb t≤1048576) (hl:RT w A t m) (hE:(ZF 0 1 12 false t).2=0):
  Calls prog 45 #[TV t m] w fun e w'=>e=.returned (.int .i64 (Zz t).1)∧Below w.heap.size w w':=by
 obtain ⟨ma,mb,mc,md,me,mf,mg,mh,mi,mj,mk,ml⟩:=m
 have HT:=hid hl
 have OX:=hid ox
 have HG:=hid (XL 12 t 0 1 false hE)
 have hE2:(ZF 0 1 1099511627776 false t).2=0:=by rw [ZhR (mo':=1099511627776) om t 0 1 false hE];exact hE
 have hE':((ZF 0 1 1099511627776 false t).2 != 0)=false:=by simp [hE2]
 clear hl ox hE hE2
 go_enter func45,ntmps45
 go_wp2_with (first
  | (go_at_call 75;refine (Y5 (Zb t) 1099511627776 ⟨om,om⟩ t _ A ⟨ma,mb,mc,md,me,mf,mg,mh,mi,mj,mk,ml⟩ 0 1 false (Nat.le_refl _) OX.out om om om om (by exact Zt2 ar _ _ HT.out)).mono ?_;rintro e w1 ⟨rfl,hb1⟩;obtain ⟨hc1,hf1⟩:=Za hb1;have hz1:=hb1.size;(try simp at hz1))
  | (go_at_call 76;refine (Zds 4096 t _ A ⟨ma,mb,mc,md,me,mf,mg,mh,mi,mj,mk,ml⟩ 4096 om om om HG.out OX.out (by exact Zt2 ar _ _ HT.out)).mono ?_;rintro e w2 ⟨⟨r,rfl,hbx⟩,hb2⟩;have HBX:=hid hbx;clear hbx))
 go_ret
 exact ⟨Zf (Zc6 HBX.out).1,ZtZ⟩
theorem QD (t:GT) (w:World) (A:Nat→Prop) (m:TA) (ox:okT t) (hs:Zb t≤1048576) (hl:RT w A t m) (hE:(ZF 0 1 12 false t).2=0) (h4:(Zz t).1≤4096):
  Calls prog 84 #[TV t m] w fun e w'=>e=.returned (.int .i64 (Zz t).2)∧Below w.heap.size w w':=by
 obtain ⟨ma,mb,mc,md,me,mf,mg,mh,mi,mj,mk,ml⟩:=m
 have HT:=hid hl
 have OX:=hid ox
 have HE:=hid hE
 have HG:=hid (XL 12 t 0 1 false hE)
 obtain ⟨n',hw⟩:=Zby h4
 have HW:=hid hw
 have h1:=Zao h4
 have b0:((Zz t).1==0)=false:=by simp;omega
 have b1:decide (4096 < (Zz t).1)=false:=by simp;omega
 clear hl ox hE hw h1 h4
 go_enter func84,ntmps84
 go_wp2_with (first
  | (go_at_call 45;refine (WI t _ A ⟨ma,mb,mc,md,me,mf,mg,mh,mi,mj,mk,ml⟩ OX.out hs (by exact Zt2 ar _ _ HT.out) HE.out).mono ?_;rintro e w1 ⟨rfl,hb1⟩;obtain ⟨hc1,hf1⟩:=Za hb1;have hz1:=hb1.size;(try simp at hz1))
  | (go_at_call 130;refine (Zay 4098 om t _ A ⟨ma,mb,mc,md,me,mf,mg,mh,mi,mj,mk,ml⟩ 1 0 (Zz t).2 n' HW.out HG.out OX.out (by exact Zt2 ar _ _ HT.out)).2.mono ?_;rintro e w2 ⟨rfl,hb2⟩))
 go_ret
 exact ⟨rfl,ZtZ⟩
theorem Jt (t:GT) (w:World) (A:Nat→Prop) (m:TA) (ox:okT t) (hs:Zb t≤1048576) (hl:RT w A t m) (hE:(Z3 t).2=0):
  Calls prog 116 #[TV t m] w fun e w'=>e=.returned (.bool true)∧Below w.heap.size w w':=by
 obtain ⟨ma,mb,mc,md,me,mf,mg,mh,mi,mj,mk,ml⟩:=m
 have HT:=hid hl
 have OX:=hid ox
 have hk:(ZF 0 1 12 false t).2=0∧(Zz t).1≤4096∧(Zz t).2≤128:=by
  unfold Z3 at hE
  split at hE
  ·rename_i h;exact absurd hE h
  rename_i h
  split at hE
  ·simp at hE
  rename_i h2
  split at hE
  ·simp at hE
  exact ⟨by simpa using h,om,om⟩
 obtain ⟨e1,e2,e3⟩:=hk
 have h1:=Zao e2
 have HE:=hid e1
 have b0:decide (0 < (Zz t).1)=true:=decide_eq_true om
 have b1:decide ((Zz t).1≤4096)=true:=decide_eq_true e2
 have b2:decide ((Zz t).2≤128)=true:=decide_eq_true e3
 clear hl ox hE e1
 go_enter func116,ntmps116
 go_wp2_with (first
  | (go_at_call 45;refine (WI t _ A ⟨ma,mb,mc,md,me,mf,mg,mh,mi,mj,mk,ml⟩ OX.out hs (by exact Zt2 ar _ _ HT.out) HE.out).mono ?_;rintro e w1 ⟨rfl,hb1⟩;obtain ⟨hc1,hf1⟩:=Za hb1;have hz1:=hb1.size;(try simp at hz1);have y1:w.heap.size < w1.heap.size:=om)
  | (go_at_call 84;refine (QD t _ A ⟨ma,mb,mc,md,me,mf,mg,mh,mi,mj,mk,ml⟩ OX.out hs (by exact Zt2 ar _ _ HT.out) HE.out e2).mono ?_;rintro e w3 ⟨rfl,hb3⟩;obtain ⟨hc3,hf3⟩:=Za hb3;have hz3:=hb3.size;(try simp at hz3)))
 go_ret
 exact ⟨rfl,ZtZ⟩
set_option maxRecDepth 512
theorem Zxv {p:Prop} (h:p:=by
 clear h7
 as_aux_lemma=>
  go_enter func55,ntmps55
  go_wp2_with (first
   | (go_at_call 75;refine (Y5 (Zb t) 12 ⟨om,om⟩ t _ A ⟨ma,mb,mc,md,me,mf,mg,mh,mi,mj,mk,ml⟩ 0 1 false (Nat.le_refl _) OX.out om om om om (by exact Zt2 ar _ _ HT.out)).mono ?_;rintro e w1 ⟨rfl,hb1⟩;obtain ⟨hc1,hf1⟩:=Za hb1;have hz1:=hb1.size;(try simp at hz1);have y1:w.heap.size < w1.heap.size:=om)
   | (go_at_call 83;refine (Vx _ t _ A ⟨ma,mb,mc,md,me,mf,mg,mh,mi,mj,mk,ml⟩ (Nat.le_refl _) OX.out om (by exact Zt2 ar _ _ HT.out)).mono ?_;rintro e w2 ⟨rfl,hb2⟩;obtain ⟨hc2,hf2⟩:=Za hb2;have hz2:=hb2.size;(try simp at hz2);have y2:w.heap.size < w2.heap.size:=om)
   | (go_at_call 45;refine (WI t _ A ⟨ma,mb,mc,md,me,mf,mg,mh,mi,mj,mk,ml⟩ OX.out hs (by exact Zt2 ar _ _ HT.out) HE.out).mono ?_;rintro e w3 ⟨rfl,hb3⟩;obtain ⟨hc3,hf3⟩:=Za hb3;have hz3:=hb3.size;(try simp at hz3);have y3:w.heap.size < w3.heap.size:=om)
   | (go_at_call 84;refine (QD t _ A ⟨ma,mb,mc,md,me,mf,mg,mh,mi,mj,mk,ml⟩ OX.out hs (by exact Zt2 ar _ _ HT.out) HE.out om).mono ?_;rintro e w4 ⟨rfl,hb4⟩;obtain ⟨hc4,hf4⟩:=Za hb4;have hz4:=hb4.size;(try simp at hz4);have y4:w.heap.size < w4.heap.size:=om))
  go_ret2
  exact ⟨rfl,ZtZ⟩):p:=h
set_option maxRecDepth 100000
theorem WV (t:GT) (w:World) (A:Nat→Prop) (m:TA) (ox:okT t) (hs:Zb t≤1048576) (hl:RT w A t m):
  Calls prog 55 #[TV t m] w fun e w'=>e=.returned (.tuple #[.int .i64 (Z3 t).1,.int .i64 (Z3 t).2])∧Below w.heap.size w w':=by
 obtain ⟨ma,mb,mc,md,me,mf,mg,mh,mi,mj,mk,ml⟩:=m
 have HT:=hid hl
 have OX:=hid ox
 have hnl:=Xh t
 have hmr:=Zd2 t
 clear hl ox
 unfold Z3
 by_cases h1:(ZF 0 1 12 false t).2=0
 case neg=>
  have h1':((ZF 0 1 12 false t).2 != 0)=true:=by simp [h1]
  rw [if_pos h1]
  clear h1
  as_aux_lemma=>
   go_enter func55,ntmps55
   go_wp2_with (go_at_call 75;refine (Y5 (Zb t) 12 ⟨om,om⟩ t _ A ⟨ma,mb,mc,md,me,mf,mg,mh,mi,mj,mk,ml⟩ 0 1 false (Nat.le_refl _) OX.out om om om om (by exact Zt2 ar _ _ HT.out)).mono ?_;rintro e w1 ⟨rfl,hb1⟩)
   go_ret2
   exact ⟨rfl,ZtZ⟩
 have HE:=hid h1
 have h1':((ZF 0 1 12 false t).2 != 0)=false:=by simp [h1]
 rw [if_neg (by simp [h1])]
 clear h1
 by_cases h5:512 < (Z8 t:Int)
 ·rw [if_pos (.inl h5)]
  have b5:decide ((512:Int) < (Z8 t:Int))=true:=decide_eq_true h5
  have b5':512 < Z8 t:=om
  as_aux_lemma=>
   go_enter func55,ntmps55
   go_wp2_with (first
    | (go_at_call 75;refine (Y5 (Zb t) 12 ⟨om,om⟩ t _ A ⟨ma,mb,mc,md,me,mf,mg,mh,mi,mj,mk,ml⟩ 0 1 false (Nat.le_refl _) OX.out om om om om (by exact Zt2 ar _ _ HT.out)).mono ?_;rintro e w1 ⟨rfl,hb1⟩;obtain ⟨hc1,hf1⟩:=Za hb1;have hz1:=hb1.size;(try simp at hz1);have y1:w.heap.size < w1.heap.size:=om)
    | (go_at_call 83;refine (Vx _ t _ A ⟨ma,mb,mc,md,me,mf,mg,mh,mi,mj,mk,ml⟩ (Nat.le_refl _) OX.out om (by exact Zt2 ar _ _ HT.out)).mono ?_;rintro e w2 ⟨rfl,hb2⟩;obtain ⟨hc2,hf2⟩:=Za hb2;have hz2:=hb2.size;(try simp at hz2);have y2:w.heap.size < w2.heap.size:=om))
   go_ret2
   exact ⟨rfl,ZtZ⟩
 by_cases h6:4096 < (Zz t).1
 ·rw [if_pos (.inr h6)]
  have b5:decide ((512:Int) < (Z8 t:Int))=false:=decide_eq_false h5
  have b5':¬512 < Z8 t:=om
  have b6:decide ((4096:Int) < (Zz t).1)=true:=decide_eq_true h6
  clear h5
  as_aux_lemma=>
   go_enter func55,ntmps55
   go_wp2_with (first
    | (go_at_call 75;refine (Y5 (Zb t) 12 ⟨om,om⟩ t _ A ⟨ma,mb,mc,md,me,mf,mg,mh,mi,mj,mk,ml⟩ 0 1 false (Nat.le_refl _) OX.out om om om om (by exact Zt2 ar _ _ HT.out)).mono ?_;rintro e w1 ⟨rfl,hb1⟩;obtain ⟨hc1,hf1⟩:=Za hb1;have hz1:=hb1.size;(try simp at hz1);have y1:w.heap.size < w1.heap.size:=om)
    | (go_at_call 83;refine (Vx _ t _ A ⟨ma,mb,mc,md,me,mf,mg,mh,mi,mj,mk,ml⟩ (Nat.le_refl _) OX.out om (by exact Zt2 ar _ _ HT.out)).mono ?_;rintro e w2 ⟨rfl,hb2⟩;obtain ⟨hc2,hf2⟩:=Za hb2;have hz2:=hb2.size;(try simp at hz2);have y2:w.heap.size < w2.heap.size:=om)
    | (go_at_call 45;refine (WI t _ A ⟨ma,mb,mc,md,me,mf,mg,mh,mi,mj,mk,ml⟩ OX.out hs (by exact Zt2 ar _ _ HT.out) HE.out).mono ?_;rintro e w3 ⟨rfl,hb3⟩;obtain ⟨hc3,hf3⟩:=Za hb3;have hz3:=hb3.size;(try simp at hz3);have y3:w.heap.size < w3.heap.size:=om))
   go_ret2
   exact ⟨rfl,ZtZ⟩
 rw [if_neg om]
 have b5:decide ((512:Int) < (Z8 t:Int))=false:=decide_eq_false h5
 have b5':¬512 < Z8 t:=om
 have b6:decide ((4096:Int) < (Zz t).1)=false:=decide_eq_false h6
 clear h5
 by_cases h7:128 < (Zz t).2
 ·rw [if_pos h7]
  have b7:decide ((128:Int) < (Zz t).2)=true:=decide_eq_true h7
  exact Zxv
 rw [if_neg h7]
 have b7:decide ((128:Int) < (Zz t).2)=false:=decide_eq_false h7
 exact Zxv
theorem Zkw (c:Nat) (s:ByteArray) (f:Nat) (ih:WT c s f) (t:GT) (i:Nat) (w:World) (m:TA) (hk:t.k=10) (hg:Zp false t) (ox:okT t) (hwk:∃k n,wkT (f+1) t [] k n≠none) (hi:i≤s.size) (hc:Cur w c s i false) (hl:RT w (fun b=>b≠c) t m):
  Calls prog 117 #[.pointer (some ⟨c,0,none⟩),TV t m] w (WL c s (Zd s (f+1) t [] i) w):=by
 obtain ⟨hn, -, -⟩:=Zk.1 hg
 obtain ⟨hal,h0, -⟩:=Yl hn hk
 have h1l:1 < t.a.length:=om
 rw [Zf1 s hk hg (List.getElem?_eq_getElem om) (List.getElem?_eq_getElem h1l) f i]
 obtain ⟨ma,mb,mc,md,me,mf,mg,mh,mi,mj,mk,ml⟩:=m
 obtain ⟨-, -, -, -, -, -, -,oal,oa⟩:=Ze.1 ox
 have HT:=hid hl
 have HC:=hid hc
 have hcs:c < w.heap.size:=World.block_lt_of_cell? _ _ hc.1.1
 have hgs:=UE hk hg h1l
 have hos:okT (YY t t.a[0] t.a[1]):=by
  unfold YY
  split
  ·exact oa.get 0 om
  exact Jp (ZaL om ox) _ (oa.get 1 om)
 have hw2:∃k n,wkT f (YY t t.a[0] t.a[1]) [] k n≠none:=by
  obtain ⟨k,n,h⟩:=hwk
  cases hw:wkT (f+1) t [] k n with
  | none=>exact absurd hw h
  | some y=>
   obtain ⟨n1,h1⟩:=ZiR hk hg h1l (d:=y.1) (n':=y.2) hw
   exact ⟨k,n1,by rw [h1];simp⟩
 have HS:=hid (fun (W:World) (h:RT W (fun b=>b≠c) t ⟨ma,mb,mc,md,me,mf,mg,mh,mi,mj,mk,ml⟩)=>Ul t W (fun b=>b≠c) ⟨ma,mb,mc,md,me,mf,mg,mh,mi,mj,mk,ml⟩ ox h1l h0 h)
 generalize YY t t.a[0] t.a[1]=X at hgs hos HS hw2 ⊢
 have HI:=hid (fun (W:World) (m':TA) (h1:Cur W c s i false) (h2:RT W (fun b=>b≠c) X m')=>ih X i W m' hgs hos hi hw2 h1 h2)
 have hk1:(t.k==1)=false:=by simp [hk]
 have hk2:(t.k==2)=false:=by simp [hk]
 have hk3:(t.k==3)=false:=by simp [hk]
 have hk4:(t.k==4)=false:=by simp [hk]
 have hk5:(t.k==5)=false:=by simp [hk]
 have hk6:(t.k==6)=false:=by simp [hk]
 have hk7:(t.k==7)=false:=by simp [hk]
 have hk8:(t.k==8)=false:=by simp [hk]
 have hk9:(t.k==9)=false:=by simp [hk]
 clear hc hk hl hg ox hwk ih hgs hos hw2 hn oa h0 h1l hal
 rcases hW:Zd s f X [] i with ⟨v',q⟩|⟨k'⟩
 all_goals have HW2:=hid hW
 all_goals clear hW
 ·go_enter func117,ntmps117
  go_wp2_with (first
   | (go_at_call 114;refine (HS.out _ (by exact Zt2 ar _ _ HT.out)).mono ?_;rintro e w1 ⟨hb1,m1,rfl,hrt⟩;have HRT:=hid (Zud (A':=fun b=>b≠c) (fun b hb _=>(by rcases hb with h|h;exact h;(try simp at h);omega)) _ _ hrt);clear hrt;obtain ⟨hc1,hf1⟩:=Za hb1;have hz1:=hb1.size;(try simp at hz1);have y1:w.heap.size+1 < w1.heap.size:=om)
   | (go_at_call 117;refine (HI.out _ m1 (by exact Zt3 (B:=w.heap.size) ZtZ hcs HC.out) (by exact HRT.out)).mono ?_;rw [HW2.out];rintro e1 w3 ⟨hb3,⟨m3,rfl,hrv⟩,hc3⟩;have HRV:=hid hrv;have HC3:=hid hc3;clear hrv hc3;have hz3:=hb3.size;(try simp at hz3);obtain ⟨hc3,hf3⟩:=ZE hb3;have y4:w.heap.size+1 < w3.heap.size:=om;have y2:¬w.heap.size+1=c:=om;have y3:¬w.heap.size=c:=om))
  refine bodyPost_ret (v:=(.tuple #[VV v' m3,.int .u8 1])) (by first|(simp [results,Tryz.f117,go_sem];done)|(simp [results,Tryz.f117,go_sem, *];done)) rfl ?_
  exact ⟨ZxG,⟨m3,rfl,Zt9 (fun b hb _=>by (try simp at hb);omega) _ _ (Zt5 (((Zt4 so).trans (Zt4 so)).trans (Zt4 so)) _ _ HRV.out)⟩,Zt3 (B:=w.heap.size+1) ZtZ om HC3.out⟩
 go_enter func117,ntmps117
 go_wp2_with (first
  | (go_at_call 114;refine (HS.out _ (by exact Zt2 ar _ _ HT.out)).mono ?_;rintro e w1 ⟨hb1,m1,rfl,hrt⟩;have HRT:=hid (Zud (A':=fun b=>b≠c) (fun b hb _=>(by rcases hb with h|h;exact h;(try simp at h);omega)) _ _ hrt);clear hrt;obtain ⟨hc1,hf1⟩:=Za hb1;have hz1:=hb1.size;(try simp at hz1);have y1:w.heap.size+1 < w1.heap.size:=om)
  | (go_at_call 117;refine (HI.out _ m1 (by exact Zt3 (B:=w.heap.size) ZtZ hcs HC.out) (by exact HRT.out)).mono ?_;rw [HW2.out];rintro e1 w3 ⟨hb3,rfl,hk8,hk9⟩;have hz3:=hb3.size;(try simp at hz3);obtain ⟨hc3,hf3⟩:=ZE hb3;have y4:w.heap.size+1 < w3.heap.size:=om;have y2:¬w.heap.size+1=c:=om;have y3:¬w.heap.size=c:=om))
 refine bodyPost_ret (v:=(.tuple #[VV ⟨0,0,[]⟩ ⟨none,0⟩,.int .u8 k'])) (by first|(simp [results,Tryz.f117,go_sem];done)|(simp [results,Tryz.f117,go_sem, *];done)) rfl ?_
 exact ⟨ZxG,rfl,hk8,hk9⟩
end Go.Proofs.YtkdffbdnjfgpeaaGreat
