/- Part 62. -/
import Derived.Test.YtkdffbdnjfgpeaaGreatY10
import Derived.Test.YtkdffbdnjfgpeaaGreatY18
set_option linter.all false
namespace Go.Proofs.YtkdffbdnjfgpeaaGreat
open Go Go.RowKit
def Ex (t:GT) (r d:Int):Prop:=∀(f:Nat) (k n:Int),1≤k→0≤n→(r≤(f:Int)→n+k*r≤4096→wkT f t [] k n=some (d,n+k*r))∧∀x,wkT f t [] k n=some x→n+k*r≤4096∧x=(d,n+k*r)
def Big (t:GT) (M:Int):Prop:=∀(f:Nat) (k n d n':Int),1≤k→0≤n→wkT f t [] k n=some (d,n')→n+k*(M+1)≤n'
def BX (M:Int) (t:GT) (r:Int):Prop:=(1≤r∧r≤M∧∃d,Ex t r d)∨(r=M+1∧Big t M)
theorem Qm {M r:Int} {t:GT} (hM:0≤M) (h:BX M t r):1≤r∧r≤M+1:=by
 rcases h with ⟨h1,h2,_⟩|⟨h1,_⟩<;>omega
theorem ZdK {M r d:Int} {t:GT} (h:Ex t r d) (h1:1≤r):BX M t (min r (M+1)):=by
 by_cases hr:r≤M
 ·rw [show min r (M+1)=r by omega]
  exact .inl ⟨h1,hr,d,h⟩
 rw [show min r (M+1)=M+1 by omega]
 refine .inr ⟨rfl,fun f k n d' n' hk hn hw=>?_⟩
 obtain ⟨_,e⟩:=(h f k n hk hn).2 _ hw
 simp only [Prod.mk.injEq] at e
 have:=Int.mul_le_mul_of_nonneg_left (show M+1≤r by omega) (show 0≤k by omega)
 omega
theorem WQ {n k:Int} (h:n+k≤4096):Zu n k=some (n+k):=by
 unfold Zu
 rw [if_neg om]
theorem VB {t:GT} {k n:Int} {x:Int×Int}:∀{f:Nat},wkT f t [] k n=some x→∃g,f=g+1
 | 0,h=>by simp [wkT] at h
 | f+1,_=>⟨f,rfl⟩
theorem Zlv {t:GT} (hk:t.k=1):Ex t (Zg t.v) (Yx t.v):=fun f k n h1 h0=>by
 have hp:=Zr t.v
 have hw:∀g,wkT (g+1) t [] k n=match Zu n (k*Zg t.v) with|none=>none|some n'=>some ((Yx t.v:Int),n'):=fun g=>by
  rw [wkT,if_pos hk]
  cases Zu n (k*(Zg t.v:Int))<;>rfl
 refine ⟨fun hf hn=>?_,fun x h=>?_⟩
 ·obtain ⟨g,rfl⟩:∃g,f=g+1:=⟨f - 1,om⟩
  rw [hw,WQ hn]
 obtain ⟨g,rfl⟩:=VB h
 rw [hw] at h
 cases hs:Zu n (k*(Zg t.v:Int)) with
 | none=>rw [hs] at h;cases h
 | some n'=>
  rw [hs] at h
  obtain ⟨e1,e2⟩:=ZC hs
  cases h
  exact ⟨om,by rw [e1]⟩
theorem Zcu {k:Int} (hk:1≤k):∀(l:List GV) (d n:Int),0≤n→n≤4096→∃D:Int,(∀n',0≤n'→n'+k*Zi l≤4096→YB k l d n'=some (D,n'+k*Zi l))∧∀n' x,0≤n'→n'≤4096→YB k l d n'=some x→n'+k*Zi l≤4096∧x=(D,n'+k*Zi l)
 | [],d,n,h0,h1=>⟨d,fun n' _ _=>by simp [YB,Zi],fun n' x _ h2 h=>by simp [YB,Zi] at h ⊢;exact ⟨h2,h.symm⟩⟩
 | x::l,d,n,h0,h1=>by
  obtain ⟨D,g1,g2⟩:=Zcu hk l (max d (Yx x)) n h0 h1
  have hp:=Zr x
  have hq:0≤k*(Zg x:Int):=Int.mul_nonneg om om
  have hr:0≤k*(Zi l:Int):=Int.mul_nonneg om om
  have he:k*((Zg x+Zi l:Nat):Int)=k*(Zg x:Int)+k*(Zi l:Int):=by rw [Int.natCast_add,Int.mul_add]
  refine ⟨D,fun n' h2 h3=>?_,fun n' y h2 h3 h=>?_⟩
  ·simp only [Zi] at h3 ⊢
   rw [he] at h3 ⊢
   rw [YB,WQ om]
   dsimp only
   rw [g1 _ om om]
   congr 2
   omega
  simp only [Zi]
  rw [he]
  rw [YB] at h
  cases hs:Zu n' (k*(Zg x:Int)) with
  | none=>rw [hs] at h;cases h
  | some n1=>
   rw [hs] at h
   obtain ⟨e1,e2⟩:=ZC hs
   obtain ⟨h4,h5⟩:=g2 n1 y om e2 h
   exact ⟨om,by rw [h5];congr 1;omega⟩
theorem ZdU {k:Int} (hk:1≤k) (l:List GV) (d:Int):∃D:Int,(∀n',0≤n'→n'+k*Zi l≤4096→YB k l d n'=some (D,n'+k*Zi l))∧∀n' x,0≤n'→n'≤4096→YB k l d n'=some x→n'+k*Zi l≤4096∧x=(D,n'+k*Zi l):=Zcu hk l d 0 om om
def Xn:List GV→Int→Int
 | [],d=>d
 | x::l,d=>Xn l (max d (Yx x))
theorem UQ {k:Int}:∀(l:List GV) (d n:Int) (x:Int×Int),YB k l d n=some x→x.1=Xn l d
 | [],d,n,x,h=>by simp [YB] at h;rw [←h];rfl
 | y::l,d,n,x,h=>by
  rw [YB] at h
  cases hs:Zu n (k*(Zg y:Int)) with
  | none=>rw [hs] at h;cases h
  | some n1=>rw [hs] at h;exact UQ l _ _ _ h
theorem Zlx {t:GT} (hk:t.k=4):Ex t (1+(Zi t.vs:Int)) (Xn t.vs 0):=fun f k n h1 h0=>by
 have hr:0≤k*(Zi t.vs:Int):=Int.mul_nonneg om om
 have he:k*(1+(Zi t.vs:Int))=k+k*(Zi t.vs:Int):=by rw [Int.mul_add,Int.mul_one]
 rw [he]
 obtain ⟨D,g1,g2⟩:=ZdU h1 t.vs 0
 have hw:∀g,wkT (g+1) t [] k n=match Zu n k with|none=>none|some n1=>YB k t.vs 0 n1:=fun g=>by
  rw [wkT]
  simp only [hk,show ((4:Int)=1)=False by simp,show ((4:Int)=11)=False by simp,show ((4:Int)=10)=False by simp,show ((4:Int)=2)=False by simp,if_false,if_true]
  cases Zu n k<;>rfl
 refine ⟨fun hf hn=>?_,fun x h=>?_⟩
 ·obtain ⟨g,rfl⟩:∃g,f=g+1:=⟨f - 1,om⟩
  have hx:=g1 (n+k) om om
  have:=UQ _ _ _ _ hx
  dsimp only at this
  rw [hw,WQ om]
  dsimp only
  rw [hx,this,Int.add_assoc]
 obtain ⟨g,rfl⟩:=VB h
 rw [hw] at h
 cases hs:Zu n k with
 | none=>rw [hs] at h;cases h
 | some n1=>
  rw [hs] at h
  obtain ⟨e1,e2⟩:=ZC hs
  obtain ⟨h4,h5⟩:=g2 n1 x om e2 h
  have:=UQ _ _ _ _ h
  rw [h5] at this
  dsimp only at this
  exact ⟨om,by rw [h5,this];congr 1;omega⟩
theorem Jb {g:Int→GT→Option (Int×Int)} (hg:∀n x d n',g n x=some (d,n')→n≤n'):∀(l:List GT) (d n d' n':Int),Zx g l d n=some (d',n')→n≤n'
 | [],d,n,d',n',h=>by simp [Zx] at h;omega
 | x::l,d,n,d',n',h=>by
  rw [Zx] at h
  cases hx:g n x with
  | none=>rw [hx] at h;cases h
  | some y=>
   obtain ⟨d1,n1⟩:=y
   rw [hx] at h
   have h1:=hg _ _ _ _ hx
   have h2:=Jb hg l _ _ _ _ h
   omega
theorem JR {k:Int} (hk:0≤k):∀(l:List GV) (d n d' n':Int),YB k l d n=some (d',n')→n≤n'
 | [],d,n,d',n',h=>by simp [YB] at h;omega
 | x::l,d,n,d',n',h=>by
  rw [YB] at h
  cases hs:Zu n (k*(Zg x:Int)) with
  | none=>rw [hs] at h;cases h
  | some n1=>
   rw [hs] at h
   obtain ⟨e1,e2⟩:=ZC hs
   have hq:0≤k*(Zg x:Int):=Int.mul_nonneg hk om
   have h2:=JR hk l _ _ _ _ h
   omega
theorem KQ:∀(f:Nat) (t:GT) (e:Env) (k n d n':Int),0≤k→wkT f t e k n=some (d,n')→n≤n'
 | 0,_,_,_,_,_,_,_,h=>by simp [wkT] at h
 | f+1,t,e,k,n,d,n',hk,h=>by
  have hst:∀t m up,Xx (wkT f) t m up k n=some (d,n')→n≤n':=fun t m up h=>by
   unfold Xx at h
   cases hs:Zu n k with
   | none=>rw [hs] at h;cases h
   | some n1=>
    rw [hs] at h
    obtain ⟨e1,e2⟩:=ZC hs
    dsimp only at h
    split at h
    ·split at h
     ·have:=KQ f _ _ _ _ _ _ hk h;omega
     cases h
    split at h
    ·have:=KQ f _ _ _ _ _ _ hk h;omega
    cases h
  have hfo:∀(j:Int),0≤j→∀l d0 n0 d1 n1,Zx (fun n x=>wkT f x e j n) l d0 n0=some (d1,n1)→n0≤n1:=fun j hj l d0 n0 d1 n1 h=>Jb (fun n x d n' h=>KQ f x e j n d n' hj h) l _ _ _ _ h
  simp only [wkT] at h
  split at h
  ·cases hs:Zu n (k*(Zg t.v:Int)) with
   | none=>rw [hs] at h;cases h
   | some n1=>
    rw [hs] at h
    obtain ⟨e1,e2⟩:=ZC hs
    have hq:0≤k*(Zg t.v:Int):=Int.mul_nonneg hk om
    cases h
    omega
  split at h
  ·split at h
   ·cases h
   exact hst _ _ _ h
  split at h
  ·exact hst _ _ _ h
  cases hs:Zu n k with
  | none=>rw [hs] at h;cases h
  | some n1=>
   rw [hs] at h
   obtain ⟨e1,e2⟩:=ZC hs
   dsimp only at h
   split at h
   ·cases h;omega
   split at h
   ·have:=JR hk _ _ _ _ _ h;omega
   split at h
   ·cases hx:Zx (fun n x=>wkT f x e (k*max 1 t.hi) n) t.a 0 n1 with
    | none=>rw [hx] at h;cases h
    | some y=>
     obtain ⟨d2,n2⟩:=y
     have h3:=hfo _ (Int.mul_nonneg hk om) _ _ _ _ _ hx
     rw [hx] at h
     dsimp only at h
     split at h<;>(cases h;omega)
   split at h
   ·have:=hfo _ hk _ _ _ _ _ h;omega
   cases hx:Zx (fun n x=>wkT f x e k n) t.a 0 n1 with
   | none=>rw [hx] at h;cases h
   | some y=>
    obtain ⟨d2,n2⟩:=y
    have h3:=hfo _ hk _ _ _ _ _ hx
    rw [hx] at h
    simp only [ZcE] at h
    cases h
    omega
def FA (l:List GT) (s D:Int):Prop:=∀(f:Nat) (k n:Int),1≤k→0≤n→n≤4096→(s≤(f:Int)→n+k*s≤4096→Zx (fun n x=>wkT f x [] k n) l 0 n=some (D,n+k*s))∧∀x,Zx (fun n x=>wkT f x [] k n) l 0 n=some x→n+k*s≤4096∧x=(D,n+k*s)
def FB (l:List GT) (M:Int):Prop:=∀(f:Nat) (k n:Int) (x:Int×Int),1≤k→0≤n→n≤4096→Zx (fun n x=>wkT f x [] k n) l 0 n=some x→n+k*M≤x.2
theorem QU {g:Int→GT→Option (Int×Int)} (y:GT):∀(l:List GT) (d n:Int),Zx g (l++[y]) d n=match Zx g l d n with|none=>none|some (d1,n1)=>match g n1 y with|none=>none|some (d2,n2)=>some (max d1 d2,n2)
 | [],d,n=>by
  simp only [List.nil_append,Zx]
  cases g n y<;>rfl
 | x::l,d,n=>by
  simp only [List.cons_append,Zx]
  cases g n x with
  | none=>rfl
  | some z=>exact QU y l _ _
theorem Zkc:FA [] 0 0:=fun f k n h1 h0 h=>by
 rw [Int.mul_zero,Int.add_zero]
 exact ⟨fun _ _=>rfl,fun x e=>by simp only [Zx,Option.some.injEq] at e;exact ⟨h,e.symm⟩⟩
theorem Zjd {l:List GT} {y:GT} {s D r d:Int} (h:FA l s D) (hs:0≤s) (hx:Ex y r d) (hr:1≤r):FA (l++[y]) (s+r) (max D d):=fun f k n h1 h0 hn=>by
 obtain ⟨g1,g2⟩:=h f k n h1 h0 hn
 have hq:0≤k*s:=Int.mul_nonneg om hs
 have hq2:0≤k*r:=Int.mul_nonneg om om
 have he:k*(s+r)=k*s+k*r:=Int.mul_add _ _ _
 rw [he]
 refine ⟨fun hf h2=>?_,fun x hw=>?_⟩
 ·rw [QU,g1 om om]
  dsimp only
  rw [(hx f k (n+k*s) h1 om).1 om om]
  dsimp only
  rw [Int.add_assoc]
 rw [QU] at hw
 cases ha:Zx (fun n x=>wkT f x [] k n) l 0 n with
 | none=>rw [ha] at hw;cases hw
 | some z=>
  rw [ha] at hw
  obtain ⟨h3,rfl⟩:=g2 z ha
  dsimp only at hw
  cases hb:wkT f y [] k (n+k*s) with
  | none=>rw [hb] at hw;cases hw
  | some u=>
   rw [hb] at hw
   obtain ⟨h4,rfl⟩:=(hx f k (n+k*s) h1 om).2 _ hb
   cases hw
   exact ⟨om,by rw [Int.add_assoc]⟩
theorem Zjf {l:List GT} {y:GT} {s D M:Int} (h:FA l s D) (hs:0≤s) (hx:Big y (M - (1+s))):FB (l++[y]) M:=fun f k n x h1 h0 hn hw=>by
 rw [QU] at hw
 cases ha:Zx (fun n x=>wkT f x [] k n) l 0 n with
 | none=>rw [ha] at hw;cases hw
 | some z=>
  rw [ha] at hw
  obtain ⟨h3,rfl⟩:=(h f k n h1 h0 hn).2 z ha
  have hq:0≤k*s:=Int.mul_nonneg om hs
  dsimp only at hw
  cases hb:wkT f y [] k (n+k*s) with
  | none=>rw [hb] at hw;cases hw
  | some u=>
   obtain ⟨d2,n2⟩:=u
   rw [hb] at hw
   have h5:=hx f k (n+k*s) d2 n2 h1 om hb
   cases hw
   dsimp only
   have he:k*(M - (1+s)+1)=k*M - k*s:=by rw [show M - (1+s)+1=M - s by omega,Int.mul_sub]
   omega
theorem Zct {g:Int→GT→Option (Int×Int)} (r:List GT):∀(l:List GT) (d n:Int),Zx g (l++r) d n=match Zx g l d n with|none=>none|some (d1,n1)=>Zx g r d1 n1
 | [],d,n=>rfl
 | x::l,d,n=>by
  simp only [List.cons_append,Zx]
  cases g n x with
  | none=>rfl
  | some z=>exact Zct r l _ _
theorem Zje {l r:List GT} {M:Int} (h:FB l M):FB (l++r) M:=fun f k n x h1 h0 hn hw=>by
 rw [Zct] at hw
 cases ha:Zx (fun n x=>wkT f x [] k n) l 0 n with
 | none=>rw [ha] at hw;cases hw
 | some z=>
  rw [ha] at hw
  have h2:=h f k n z h1 h0 hn ha
  have h3:=Jb (fun n x d n' h=>KQ f x [] k n d n' om h) r _ _ x.1 x.2 hw
  omega
def FX (M:Int) (l:List GT) (j:Nat) (q:Int):Prop:=(1≤q∧q≤M∧∃D,FA (l.take j) (q - 1) D)∨(q=M+1∧FB l M)
theorem Zkd {M:Int} (l:List GT) (hM:1≤M):FX M l 0 1:=.inl ⟨om,hM,0,by rw [List.take_zero];exact Zkc⟩
theorem Zjh {M q r:Int} {l:List GT} {j:Nat} (hj:j < l.length) (h:FX M l j q) (hq:q≤M) (hx:BX (M - q) l[j] r):FX M l (j+1) (q+r):=by
 rcases h with ⟨h1,h2,D,hD⟩|⟨h1,_⟩
 case inr=>omega
 rcases hx with ⟨h3,h4,d,hd⟩|⟨h3,hb⟩
 ·refine .inl ⟨om,om,max D d,?_⟩
  rw [List.take_succ_eq_append_getElem hj,show q+r - 1=(q - 1)+r by omega]
  exact Zjd hD om hd h3
 refine .inr ⟨om,?_⟩
 have h9:=Zjf (M:=M) hD om (y:=l[j]) (by rw [show M - (1+(q - 1))=M - q by omega];exact hb)
 have h8:=Zje (r:=l.drop (j+1)) h9
 rw [←List.take_succ_eq_append_getElem hj,List.take_append_drop] at h8
 exact h8
theorem Q8 {t:GT} (hk:t.k=3∨t.k=5∨t.k=7∨t.k=8∨t.k=9) (g:Nat) (k n:Int):wkT (g+1) t [] k n=match Zu n k with|none=>none|some n1=>match Zx (fun n x=>wkT g x [] k n) t.a 0 n1 with|none=>none|some x=>some (if t.k=3∨t.k=9 then x.1 else 1+x.1,x.2):=by
 rw [wkT,if_neg om,if_neg om,if_neg om]
 cases Zu n k with
 | none=>rfl
 | some n1=>
  dsimp only
  rw [if_neg om,if_neg om,if_neg om]
  split
  ·cases Zx (fun n x=>wkT g x [] k n) t.a 0 n1<;>simp_all
  cases Zx (fun n x=>wkT g x [] k n) t.a 0 n1<;>simp_all [ZcE]
theorem Zlu {M q:Int} {t:GT} (hk:t.k=3∨t.k=5∨t.k=7∨t.k=8∨t.k=9) (h:FX M t.a t.a.length q):BX M t q:=by
 rcases h with ⟨h1,h2,D,hD⟩|⟨h1,hb⟩
 ·rw [List.take_length] at hD
  refine .inl ⟨h1,h2,if t.k=3∨t.k=9 then D else 1+D,fun f k n hk1 hn=>?_⟩
  have he:k*q=k+k*(q - 1):=by rw [Int.mul_sub,Int.mul_one];omega
  have hq:0≤k*(q - 1):=Int.mul_nonneg om om
  rw [he]
  refine ⟨fun hf h3=>?_,fun x hx=>?_⟩
  ·obtain ⟨g,rfl⟩:∃g,f=g+1:=⟨f - 1,om⟩
   rw [Q8 hk,WQ om]
   dsimp only
   rw [(hD g k (n+k) hk1 om om).1 om om]
   dsimp only
   rw [Int.add_assoc]
  obtain ⟨g,rfl⟩:=VB hx
  rw [Q8 hk] at hx
  cases hs:Zu n k with
  | none=>rw [hs] at hx;cases hx
  | some n1=>
   rw [hs] at hx
   obtain ⟨rfl,e2⟩:=ZC hs
   dsimp only at hx
   cases ha:Zx (fun n x=>wkT g x [] k n) t.a 0 (n+k) with
   | none=>rw [ha] at hx;cases hx
   | some z=>
    rw [ha] at hx
    obtain ⟨h5,rfl⟩:=(hD g k (n+k) hk1 om e2).2 z ha
    cases hx
    exact ⟨om,by rw [Int.add_assoc]⟩
 refine .inr ⟨h1,fun f k n d n' hk1 hn hx=>?_⟩
 obtain ⟨g,rfl⟩:=VB hx
 rw [Q8 hk] at hx
 cases hs:Zu n k with
 | none=>rw [hs] at hx;cases hx
 | some n1=>
  rw [hs] at hx
  obtain ⟨rfl,e2⟩:=ZC hs
  dsimp only at hx
  cases ha:Zx (fun n x=>wkT g x [] k n) t.a 0 (n+k) with
  | none=>rw [ha] at hx;cases hx
  | some z=>
   rw [ha] at hx
   have h5:=hb g k (n+k) z hk1 om e2 ha
   have he:k*(M+1)=k*M+k:=by rw [Int.mul_add,Int.mul_one]
   cases hx
   omega
theorem Zlw {t:GT} (hk:t.k=2):Ex t 1 1:=fun f k n h1 h0=>by
 rw [Int.mul_one]
 have hw:∀g,wkT (g+1) t [] k n=match Zu n k with|none=>none|some n1=>some (1,n1):=fun g=>by
  rw [wkT,if_neg om,if_neg om,if_neg om]
  cases Zu n k with
  | none=>rfl
  | some n1=>dsimp only;rw [if_pos hk]
 refine ⟨fun hf hn=>?_,fun x h=>?_⟩
 ·obtain ⟨g,rfl⟩:∃g,f=g+1:=⟨f - 1,om⟩
  rw [hw,WQ hn]
 obtain ⟨g,rfl⟩:=VB h
 rw [hw] at h
 cases hs:Zu n k with
 | none=>rw [hs] at h;cases h
 | some n1=>
  rw [hs] at h
  obtain ⟨e1,e2⟩:=ZC hs
  cases h
  exact ⟨om,by rw [e1]⟩
theorem ZiQ {t:GT} (hk:t.k=6) {x:GT} (hx:t.a=[x]) (g:Nat) (k n:Int):wkT (g+1) t [] k n=match Zu n k with|none=>none|some n1=>match wkT g x [] (k*max 1 t.hi) n1 with|none=>none|some y=>some (if t.hi=0 then 1 else 1+max 0 y.1,y.2):=by
 rw [wkT,if_neg om,if_neg om,if_neg om]
 cases Zu n k with
 | none=>rfl
 | some n1=>
  dsimp only
  rw [if_neg om,if_neg om,if_pos hk,hx]
  simp only [Zx]
  cases wkT g x [] (k*max 1 t.hi) n1 with
  | none=>rfl
  | some y=>
   dsimp only
   split<;>simp_all
theorem Zlt {M r:Int} {t x:GT} (hk:t.k=6) (hx:t.a=[x]) (hM:0≤M) (h:BX M x r):BX M t (min (1+max 1 t.hi*r) (M+1)):=by
 generalize hH:max 1 t.hi=H
 have hH1:1≤H:=om
 have hw:=fun g k n=>ZiQ hk hx g k n
 rw [hH] at hw
 rcases h with ⟨h1,h2,d,hd⟩|⟨h1,hb⟩
 ·have hHr:r≤H*r:=by have:=Int.mul_le_mul_of_nonneg_right hH1 (show 0≤r by omega);omega
  refine ZdK (d:=if t.hi=0 then 1 else 1+max 0 d) (fun f k n hk1 hn=>?_) om
  have hkH:1≤k*H:=by have:=Int.mul_le_mul_of_nonneg_right hk1 (show 0≤H by omega);omega
  have he:k*(1+H*r)=k+k*H*r:=by rw [Int.mul_add,Int.mul_one,Int.mul_assoc]
  have hq:0≤k*H*r:=Int.mul_nonneg om om
  rw [he]
  refine ⟨fun hf h3=>?_,fun y hy=>?_⟩
  ·obtain ⟨g,rfl⟩:∃g,f=g+1:=⟨f - 1,om⟩
   rw [hw,WQ om]
   dsimp only
   rw [(hd g (k*H) (n+k) hkH om).1 om om]
   dsimp only
   rw [Int.add_assoc]
  obtain ⟨g,rfl⟩:=VB hy
  rw [hw] at hy
  cases hs:Zu n k with
  | none=>rw [hs] at hy;cases hy
  | some n1=>
   rw [hs] at hy
   obtain ⟨rfl,e2⟩:=ZC hs
   dsimp only at hy
   cases ha:wkT g x [] (k*H) (n+k) with
   | none=>rw [ha] at hy;cases hy
   | some z=>
    rw [ha] at hy
    obtain ⟨h5,rfl⟩:=(hd g (k*H) (n+k) hkH om).2 z ha
    cases hy
    exact ⟨om,by rw [Int.add_assoc]⟩
 subst h1
 have hHr:M+1≤H*(M+1):=by have:=Int.mul_le_mul_of_nonneg_right hH1 (show 0≤M+1 by omega);omega
 rw [show min (1+H*(M+1)) (M+1)=M+1 by omega]
 refine .inr ⟨rfl,fun f k n d n' hk1 hn hy=>?_⟩
 have hkH:1≤k*H:=by have:=Int.mul_le_mul_of_nonneg_right hk1 (show 0≤H by omega);omega
 have hkH2:k≤k*H:=by have:=Int.mul_le_mul_of_nonneg_left hH1 (show 0≤k by omega);omega
 obtain ⟨g,rfl⟩:=VB hy
 rw [hw] at hy
 cases hs:Zu n k with
 | none=>rw [hs] at hy;cases hy
 | some n1=>
  rw [hs] at hy
  obtain ⟨rfl,e2⟩:=ZC hs
  dsimp only at hy
  cases ha:wkT g x [] (k*H) (n+k) with
  | none=>rw [ha] at hy;cases hy
  | some z=>
   obtain ⟨z1,z2⟩:=z
   rw [ha] at hy
   have h5:=hb g (k*H) (n+k) z1 z2 hkH om ha
   have h6:=Int.mul_le_mul_of_nonneg_right hkH2 (show 0≤M+1 by omega)
   cases hy
   omega
theorem ZkR {M r:Int} {t a0 a1:GT} (hk:t.k=10) (hg:Zp false t) (h0:t.a[0]? =some a0) (h1:t.a[1]? =some a1) (h:BX (M - 1) (YY t a0 a1) r):BX M t (min (1+r) (M+1)):=by
 have hw:=fun f k n=>ZeL hk hg h0 h1 f k n
 rcases h with ⟨h2,h3,d,hd⟩|⟨h2,hb⟩
 ·refine ZdK (d:=d) (fun f k n hk1 hn=>?_) om
  have he:k*(1+r)=k+k*r:=by rw [Int.mul_add,Int.mul_one]
  have hq:0≤k*r:=Int.mul_nonneg om om
  rw [he]
  refine ⟨fun hf h3=>?_,fun y hy=>?_⟩
  ·obtain ⟨g,rfl⟩:∃g,f=g+1:=⟨f - 1,om⟩
   rw [hw,WQ om]
   dsimp only
   rw [(hd g k (n+k) hk1 om).1 om om,Int.add_assoc]
  obtain ⟨g,rfl⟩:=VB hy
  rw [hw] at hy
  cases hs:Zu n k with
  | none=>rw [hs] at hy;cases hy
  | some n1=>
   rw [hs] at hy
   obtain ⟨rfl,e2⟩:=ZC hs
   obtain ⟨h5,rfl⟩:=(hd g k (n+k) hk1 om).2 y hy
   exact ⟨om,by rw [Int.add_assoc]⟩
 rw [show min (1+r) (M+1)=M+1 by omega]
 refine .inr ⟨rfl,fun f k n d n' hk1 hn hy=>?_⟩
 obtain ⟨g,rfl⟩:=VB hy
 rw [hw] at hy
 cases hs:Zu n k with
 | none=>rw [hs] at hy;cases hy
 | some n1=>
  rw [hs] at hy
  obtain ⟨rfl,e2⟩:=ZC hs
  have h5:=hb g k (n+k) d n' hk1 om hy
  have he:k*(M+1)=k*(M - 1+1)+k:=by rw [show M - 1+1=M by omega,Int.mul_add,Int.mul_one]
  omega
end Go.Proofs.YtkdffbdnjfgpeaaGreat
