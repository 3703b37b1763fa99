/- What the proofs of the Trial statements need: part 41. -/
import Derived.Test.YtclphfojkggcpaaGreatZ29
import Derived.Test.YtclphfojkggcpaaGreatZ37
import Derived.Test.YtclphfojkggcpaaGreatZ39
set_option linter.unusedVariables false
set_option linter.unusedSimpArgs false
namespace Go.Proofs.YtclphfojkggcpaaGreat
open Go Go.RowKit
def Ex (t:GT) (r d:Int):Prop:=∀(f:Nat) (k n:Int),1≤k→0≤n→(r≤(f:Int)→n+k*r≤4096→wkT f t [] k n=some (d,n+k*r))∧∀x,wkT f t [] k n=some x→n+k*r≤4096∧x=(d,n+k*r)
def Big (t:GT) (M:Int):Prop:=∀(f:Nat) (k n d n':Int),1≤k→0≤n→wkT f t [] k n=some (d,n')→n+k*(M+1)≤n'
def BX (M:Int) (t:GT) (r:Int):Prop:=(1≤r∧r≤M∧∃d,Ex t r d)∨(r=M+1∧Big t M)
theorem bx_range {M r:Int} {t:GT} (hM:0≤M) (h:BX M t r):1≤r∧r≤M+1:=by
 rcases h with ⟨h1,h2,_⟩|⟨h1,_⟩<;>omega
theorem bx_ex {M r d:Int} {t:GT} (h:Ex t r d) (h1:1≤r):BX M t (min r (M+1)):=by
 by_cases hr:r≤M
 ·rw [show min r (M+1)=r by omega]
  exact .inl ⟨h1,hr,d,h⟩
 ·rw [show min r (M+1)=M+1 by omega]
  refine .inr ⟨rfl,fun f k n d' n' hk hn hw=>?_⟩
  obtain ⟨_,e⟩:=(h f k n hk hn).2 _ hw
  simp only [Prod.mk.injEq] at e
  have:=Int.mul_le_mul_of_nonneg_left (show M+1≤r by omega) (show 0≤k by omega)
  omega
theorem spendN_ok {n k:Int} (h:n+k≤4096):spendN n k=some (n+k):=by
 unfold spendN
 rw [if_neg (by omega)]
theorem wkT_pos {t:GT} {k n:Int} {x:Int×Int}:∀{f:Nat},wkT f t [] k n=some x→∃g,f=g+1
 | 0,h=>by simp [wkT] at h
 | f+1,_=>⟨f,rfl⟩
theorem ex_1 {t:GT} (hk:t.k=1):Ex t (sizeV t.v) (deepV t.v):=fun f k n h1 h0=>by
 have hp:=sizeV_pos t.v
 have hw:∀g,wkT (g+1) t [] k n=match spendN n (k*sizeV t.v) with|none=>none|some n'=>some ((deepV t.v:Int),n'):=fun g=>by
  rw [wkT,if_pos hk]
  cases spendN n (k*(sizeV t.v:Int))<;>rfl
 refine ⟨fun hf hn=>?_,fun x h=>?_⟩
 ·obtain ⟨g,rfl⟩:∃g,f=g+1:=⟨f - 1,by omega⟩
  rw [hw,spendN_ok hn]
 ·obtain ⟨g,rfl⟩:=wkT_pos h
  rw [hw] at h
  cases hs:spendN n (k*(sizeV t.v:Int)) with
  | none=>rw [hs] at h;cases h
  | some n'=>
   rw [hs] at h
   obtain ⟨e1,e2⟩:=spendN_some hs
   cases h
   exact ⟨by omega,by rw [e1]⟩
theorem foldVs_eq {k:Int} (hk:1≤k):∀(l:List GV) (d n:Int),0≤n→n≤4096→∃D:Int,(∀n',0≤n'→n'+k*sizeVs l≤4096→foldVs k l d n'=some (D,n'+k*sizeVs l))∧∀n' x,0≤n'→n'≤4096→foldVs k l d n'=some x→n'+k*sizeVs l≤4096∧x=(D,n'+k*sizeVs l)
 | [],d,n,h0,h1=>⟨d,fun n' _ _=>by simp [foldVs,sizeVs],fun n' x _ h2 h=>by simp [foldVs,sizeVs] at h ⊢;exact ⟨h2,h.symm⟩⟩
 | x::l,d,n,h0,h1=>by
  obtain ⟨D,g1,g2⟩:=foldVs_eq hk l (max d (deepV x)) n h0 h1
  have hp:=sizeV_pos x
  have hq:0≤k*(sizeV x:Int):=Int.mul_nonneg (by omega) (by omega)
  have hr:0≤k*(sizeVs l:Int):=Int.mul_nonneg (by omega) (by omega)
  have he:k*((sizeV x+sizeVs l:Nat):Int)=k*(sizeV x:Int)+k*(sizeVs l:Int):=by rw [Int.natCast_add,Int.mul_add]
  refine ⟨D,fun n' h2 h3=>?_,fun n' y h2 h3 h=>?_⟩
  ·simp only [sizeVs] at h3 ⊢
   rw [he] at h3 ⊢
   rw [foldVs,spendN_ok (by omega)]
   dsimp only
   rw [g1 _ (by omega) (by omega)]
   congr 2
   omega
  ·simp only [sizeVs]
   rw [he]
   rw [foldVs] at h
   cases hs:spendN n' (k*(sizeV x:Int)) with
   | none=>rw [hs] at h;cases h
   | some n1=>
    rw [hs] at h
    obtain ⟨e1,e2⟩:=spendN_some hs
    obtain ⟨h4,h5⟩:=g2 n1 y (by omega) e2 h
    exact ⟨by omega,by rw [h5];congr 1;omega⟩
theorem foldVs_deep {k:Int} (hk:1≤k) (l:List GV) (d:Int):∃D:Int,(∀n',0≤n'→n'+k*sizeVs l≤4096→foldVs k l d n'=some (D,n'+k*sizeVs l))∧∀n' x,0≤n'→n'≤4096→foldVs k l d n'=some x→n'+k*sizeVs l≤4096∧x=(D,n'+k*sizeVs l):=foldVs_eq hk l d 0 (by omega) (by omega)
def deepMax:List GV→Int→Int
 | [],d=>d
 | x::l,d=>deepMax l (max d (deepV x))
theorem foldVs_max {k:Int}:∀(l:List GV) (d n:Int) (x:Int×Int),foldVs k l d n=some x→x.1=deepMax l d
 | [],d,n,x,h=>by simp [foldVs] at h;rw [←h];rfl
 | y::l,d,n,x,h=>by
  rw [foldVs] at h
  cases hs:spendN n (k*(sizeV y:Int)) with
  | none=>rw [hs] at h;cases h
  | some n1=>rw [hs] at h;exact foldVs_max l _ _ _ h
theorem ex_4 {t:GT} (hk:t.k=4):Ex t (1+(sizeVs t.vs:Int)) (deepMax t.vs 0):=fun f k n h1 h0=>by
 have hr:0≤k*(sizeVs t.vs:Int):=Int.mul_nonneg (by omega) (by omega)
 have he:k*(1+(sizeVs t.vs:Int))=k+k*(sizeVs t.vs:Int):=by rw [Int.mul_add,Int.mul_one]
 rw [he]
 obtain ⟨D,g1,g2⟩:=foldVs_deep h1 t.vs 0
 have hw:∀g,wkT (g+1) t [] k n=match spendN n k with|none=>none|some n1=>foldVs k t.vs 0 n1:=fun g=>by
  rw [wkT]
  simp only [hk,show ((4:Int)=1)=False by simp,show ((4:Int)=11)=False by simp,show ((4:Int)=10)=False by simp,show ((4:Int)=2)=False by simp,if_false,if_true]
  cases spendN n k<;>rfl
 refine ⟨fun hf hn=>?_,fun x h=>?_⟩
 ·obtain ⟨g,rfl⟩:∃g,f=g+1:=⟨f - 1,by omega⟩
  have hx:=g1 (n+k) (by omega) (by omega)
  have:=foldVs_max _ _ _ _ hx
  dsimp only at this
  rw [hw,spendN_ok (by omega)]
  dsimp only
  rw [hx,this,Int.add_assoc]
 ·obtain ⟨g,rfl⟩:=wkT_pos h
  rw [hw] at h
  cases hs:spendN n k with
  | none=>rw [hs] at h;cases h
  | some n1=>
   rw [hs] at h
   obtain ⟨e1,e2⟩:=spendN_some hs
   obtain ⟨h4,h5⟩:=g2 n1 x (by omega) e2 h
   have:=foldVs_max _ _ _ _ h
   rw [h5] at this
   dsimp only at this
   exact ⟨by omega,by rw [h5,this];congr 1;omega⟩
theorem foldA_up {g:Int→GT→Option (Int×Int)} (hg:∀n x d n',g n x=some (d,n')→n≤n'):∀(l:List GT) (d n d' n':Int),foldA g l d n=some (d',n')→n≤n'
 | [],d,n,d',n',h=>by simp [foldA] at h;omega
 | x::l,d,n,d',n',h=>by
  rw [foldA] at h
  cases hx:g n x with
  | none=>rw [hx] at h;cases h
  | some y=>
   obtain ⟨d1,n1⟩:=y
   rw [hx] at h
   have h1:=hg _ _ _ _ hx
   have h2:=foldA_up hg l _ _ _ _ h
   omega
theorem foldVs_up {k:Int} (hk:0≤k):∀(l:List GV) (d n d' n':Int),foldVs k l d n=some (d',n')→n≤n'
 | [],d,n,d',n',h=>by simp [foldVs] at h;omega
 | x::l,d,n,d',n',h=>by
  rw [foldVs] at h
  cases hs:spendN n (k*(sizeV x:Int)) with
  | none=>rw [hs] at h;cases h
  | some n1=>
   rw [hs] at h
   obtain ⟨e1,e2⟩:=spendN_some hs
   have hq:0≤k*(sizeV x:Int):=Int.mul_nonneg hk (by omega)
   have h2:=foldVs_up hk l _ _ _ _ h
   omega
theorem wkT_up:∀(f:Nat) (t:GT) (e:Env) (k n d n':Int),0≤k→wkT f t e k n=some (d,n')→n≤n'
 | 0,_,_,_,_,_,_,_,h=>by simp [wkT] at h
 | f+1,t,e,k,n,d,n',hk,h=>by
  have hst:∀t m up,stepS (wkT f) t m up k n=some (d,n')→n≤n':=fun t m up h=>by
   unfold stepS at h
   cases hs:spendN n k with
   | none=>rw [hs] at h;cases h
   | some n1=>
    rw [hs] at h
    obtain ⟨e1,e2⟩:=spendN_some hs
    dsimp only at h
    split at h
    ·split at h
     ·have:=wkT_up f _ _ _ _ _ _ hk h;omega
     ·cases h
    ·split at h
     ·have:=wkT_up f _ _ _ _ _ _ hk h;omega
     ·cases h
  have hfo:∀(j:Int),0≤j→∀l d0 n0 d1 n1,foldA (fun n x=>wkT f x e j n) l d0 n0=some (d1,n1)→n0≤n1:=fun j hj l d0 n0 d1 n1 h=>foldA_up (fun n x d n' h=>wkT_up f x e j n d n' hj h) l _ _ _ _ h
  simp only [wkT] at h
  split at h
  ·cases hs:spendN n (k*(sizeV t.v:Int)) with
   | none=>rw [hs] at h;cases h
   | some n1=>
    rw [hs] at h
    obtain ⟨e1,e2⟩:=spendN_some hs
    have hq:0≤k*(sizeV t.v:Int):=Int.mul_nonneg hk (by omega)
    cases h
    omega
  ·split at h
   ·split at h
    ·cases h
    ·exact hst _ _ _ h
   ·split at h
    ·exact hst _ _ _ h
    ·cases hs:spendN n k with
     | none=>rw [hs] at h;cases h
     | some n1=>
      rw [hs] at h
      obtain ⟨e1,e2⟩:=spendN_some hs
      dsimp only at h
      split at h
      ·cases h;omega
      ·split at h
       ·have:=foldVs_up hk _ _ _ _ _ h;omega
       ·split at h
        ·cases hx:foldA (fun n x=>wkT f x e (k*max 1 t.hi) n) t.a 0 n1 with
         | none=>rw [hx] at h;cases h
         | some y=>
          obtain ⟨d2,n2⟩:=y
          have h3:=hfo _ (Int.mul_nonneg hk (by omega)) _ _ _ _ _ hx
          rw [hx] at h
          dsimp only at h
          split at h<;>(cases h;omega)
        ·split at h
         ·have:=hfo _ hk _ _ _ _ _ h;omega
         ·cases hx:foldA (fun n x=>wkT f x e k n) t.a 0 n1 with
          | none=>rw [hx] at h;cases h
          | some y=>
           obtain ⟨d2,n2⟩:=y
           have h3:=hfo _ hk _ _ _ _ _ hx
           rw [hx] at h
           simp only [plus1] at h
           cases h
           omega
def FA (l:List GT) (s D:Int):Prop:=∀(f:Nat) (k n:Int),1≤k→0≤n→n≤4096→(s≤(f:Int)→n+k*s≤4096→foldA (fun n x=>wkT f x [] k n) l 0 n=some (D,n+k*s))∧∀x,foldA (fun n x=>wkT f x [] k n) l 0 n=some x→n+k*s≤4096∧x=(D,n+k*s)
def FB (l:List GT) (M:Int):Prop:=∀(f:Nat) (k n:Int) (x:Int×Int),1≤k→0≤n→n≤4096→foldA (fun n x=>wkT f x [] k n) l 0 n=some x→n+k*M≤x.2
theorem foldA_app {g:Int→GT→Option (Int×Int)} (y:GT):∀(l:List GT) (d n:Int),foldA g (l++[y]) d n=match foldA g l d n with|none=>none|some (d1,n1)=>match g n1 y with|none=>none|some (d2,n2)=>some (max d1 d2,n2)
 | [],d,n=>by
  simp only [List.nil_append,foldA]
  cases g n y<;>rfl
 | x::l,d,n=>by
  simp only [List.cons_append,foldA]
  cases g n x with
  | none=>rfl
  | some z=>exact foldA_app y l _ _
theorem fa_nil:FA [] 0 0:=fun f k n h1 h0 h=>by
 rw [Int.mul_zero,Int.add_zero]
 exact ⟨fun _ _=>rfl,fun x e=>by simp only [foldA,Option.some.injEq] at e;exact ⟨h,e.symm⟩⟩
theorem fa_step {l:List GT} {y:GT} {s D r d:Int} (h:FA l s D) (hs:0≤s) (hx:Ex y r d) (hr:1≤r):FA (l++[y]) (s+r) (max D d):=fun f k n h1 h0 hn=>by
 obtain ⟨g1,g2⟩:=h f k n h1 h0 hn
 have hq:0≤k*s:=Int.mul_nonneg (by omega) hs
 have hq2:0≤k*r:=Int.mul_nonneg (by omega) (by omega)
 have he:k*(s+r)=k*s+k*r:=Int.mul_add _ _ _
 rw [he]
 refine ⟨fun hf h2=>?_,fun x hw=>?_⟩
 ·rw [foldA_app,g1 (by omega) (by omega)]
  dsimp only
  rw [(hx f k (n+k*s) h1 (by omega)).1 (by omega) (by omega)]
  dsimp only
  rw [Int.add_assoc]
 ·rw [foldA_app] at hw
  cases ha:foldA (fun n x=>wkT f x [] k n) l 0 n with
  | none=>rw [ha] at hw;cases hw
  | some z=>
   rw [ha] at hw
   obtain ⟨h3,rfl⟩:=g2 z ha
   dsimp only at hw
   cases hb:wkT f y [] k (n+k*s) with
   | none=>rw [hb] at hw;cases hw
   | some u=>
    rw [hb] at hw
    obtain ⟨h4,rfl⟩:=(hx f k (n+k*s) h1 (by omega)).2 _ hb
    cases hw
    exact ⟨by omega,by rw [Int.add_assoc]⟩
theorem fb_step {l:List GT} {y:GT} {s D M:Int} (h:FA l s D) (hs:0≤s) (hx:Big y (M - (1+s))):FB (l++[y]) M:=fun f k n x h1 h0 hn hw=>by
 rw [foldA_app] at hw
 cases ha:foldA (fun n x=>wkT f x [] k n) l 0 n with
 | none=>rw [ha] at hw;cases hw
 | some z=>
  rw [ha] at hw
  obtain ⟨h3,rfl⟩:=(h f k n h1 h0 hn).2 z ha
  have hq:0≤k*s:=Int.mul_nonneg (by omega) hs
  dsimp only at hw
  cases hb:wkT f y [] k (n+k*s) with
  | none=>rw [hb] at hw;cases hw
  | some u=>
   obtain ⟨d2,n2⟩:=u
   rw [hb] at hw
   have h5:=hx f k (n+k*s) d2 n2 h1 (by omega) hb
   cases hw
   dsimp only
   have he:k*(M - (1+s)+1)=k*M - k*s:=by rw [show M - (1+s)+1=M - s by omega,Int.mul_sub]
   omega
theorem foldA_two {g:Int→GT→Option (Int×Int)} (r:List GT):∀(l:List GT) (d n:Int),foldA g (l++r) d n=match foldA g l d n with|none=>none|some (d1,n1)=>foldA g r d1 n1
 | [],d,n=>rfl
 | x::l,d,n=>by
  simp only [List.cons_append,foldA]
  cases g n x with
  | none=>rfl
  | some z=>exact foldA_two r l _ _
theorem fb_more {l r:List GT} {M:Int} (h:FB l M):FB (l++r) M:=fun f k n x h1 h0 hn hw=>by
 rw [foldA_two] at hw
 cases ha:foldA (fun n x=>wkT f x [] k n) l 0 n with
 | none=>rw [ha] at hw;cases hw
 | some z=>
  rw [ha] at hw
  have h2:=h f k n z h1 h0 hn ha
  have h3:=foldA_up (fun n x d n' h=>wkT_up f x [] k n d n' (by omega) h) r _ _ x.1 x.2 hw
  omega
def FX (M:Int) (l:List GT) (j:Nat) (q:Int):Prop:=(1≤q∧q≤M∧∃D,FA (l.take j) (q - 1) D)∨(q=M+1∧FB l M)
theorem fx_nil {M:Int} (l:List GT) (hM:1≤M):FX M l 0 1:=.inl ⟨by omega,hM,0,by rw [List.take_zero];exact fa_nil⟩
theorem fx_step {M q r:Int} {l:List GT} {j:Nat} (hj:j < l.length) (h:FX M l j q) (hq:q≤M) (hx:BX (M - q) l[j] r):FX M l (j+1) (q+r):=by
 rcases h with ⟨h1,h2,D,hD⟩|⟨h1,_⟩
 case inr=>omega
 rcases hx with ⟨h3,h4,d,hd⟩|⟨h3,hb⟩
 ·refine .inl ⟨by omega,by omega,max D d,?_⟩
  rw [List.take_succ_eq_append_getElem hj,show q+r - 1=(q - 1)+r by omega]
  exact fa_step hD (by omega) hd h3
 ·refine .inr ⟨by omega,?_⟩
  have h9:=fb_step (M:=M) hD (by omega) (y:=l[j]) (by rw [show M - (1+(q - 1))=M - q by omega];exact hb)
  have h8:=fb_more (r:=l.drop (j+1)) h9
  rw [←List.take_succ_eq_append_getElem hj,List.take_append_drop] at h8
  exact h8
theorem wkT_kinds {t:GT} (hk:t.k=3∨t.k=5∨t.k=7∨t.k=8∨t.k=9) (g:Nat) (k n:Int):wkT (g+1) t [] k n=match spendN n k with|none=>none|some n1=>match foldA (fun n x=>wkT g x [] k n) t.a 0 n1 with|none=>none|some x=>some (if t.k=3∨t.k=9 then x.1 else 1+x.1,x.2):=by
 rw [wkT,if_neg (by omega),if_neg (by omega),if_neg (by omega)]
 cases spendN n k with
 | none=>rfl
 | some n1=>
  dsimp only
  rw [if_neg (by omega),if_neg (by omega),if_neg (by omega)]
  split
  ·cases foldA (fun n x=>wkT g x [] k n) t.a 0 n1<;>simp_all
  ·cases foldA (fun n x=>wkT g x [] k n) t.a 0 n1<;>simp_all [plus1]
theorem bx_d {M q:Int} {t:GT} (hk:t.k=3∨t.k=5∨t.k=7∨t.k=8∨t.k=9) (h:FX M t.a t.a.length q):BX M t q:=by
 rcases h with ⟨h1,h2,D,hD⟩|⟨h1,hb⟩
 ·rw [List.take_length] at hD
  refine .inl ⟨h1,h2,if t.k=3∨t.k=9 then D else 1+D,fun f k n hk1 hn=>?_⟩
  have he:k*q=k+k*(q - 1):=by rw [Int.mul_sub,Int.mul_one];omega
  have hq:0≤k*(q - 1):=Int.mul_nonneg (by omega) (by omega)
  rw [he]
  refine ⟨fun hf h3=>?_,fun x hx=>?_⟩
  ·obtain ⟨g,rfl⟩:∃g,f=g+1:=⟨f - 1,by omega⟩
   rw [wkT_kinds hk,spendN_ok (by omega)]
   dsimp only
   rw [(hD g k (n+k) hk1 (by omega) (by omega)).1 (by omega) (by omega)]
   dsimp only
   rw [Int.add_assoc]
  ·obtain ⟨g,rfl⟩:=wkT_pos hx
   rw [wkT_kinds hk] at hx
   cases hs:spendN n k with
   | none=>rw [hs] at hx;cases hx
   | some n1=>
    rw [hs] at hx
    obtain ⟨rfl,e2⟩:=spendN_some hs
    dsimp only at hx
    cases ha:foldA (fun n x=>wkT g x [] k n) t.a 0 (n+k) with
    | none=>rw [ha] at hx;cases hx
    | some z=>
     rw [ha] at hx
     obtain ⟨h5,rfl⟩:=(hD g k (n+k) hk1 (by omega) e2).2 z ha
     cases hx
     exact ⟨by omega,by rw [Int.add_assoc]⟩
 ·refine .inr ⟨h1,fun f k n d n' hk1 hn hx=>?_⟩
  obtain ⟨g,rfl⟩:=wkT_pos hx
  rw [wkT_kinds hk] at hx
  cases hs:spendN n k with
  | none=>rw [hs] at hx;cases hx
  | some n1=>
   rw [hs] at hx
   obtain ⟨rfl,e2⟩:=spendN_some hs
   dsimp only at hx
   cases ha:foldA (fun n x=>wkT g x [] k n) t.a 0 (n+k) with
   | none=>rw [ha] at hx;cases hx
   | some z=>
    rw [ha] at hx
    have h5:=hb g k (n+k) z hk1 (by omega) e2 ha
    have he:k*(M+1)=k*M+k:=by rw [Int.mul_add,Int.mul_one]
    cases hx
    omega
theorem ex_2 {t:GT} (hk:t.k=2):Ex t 1 1:=fun f k n h1 h0=>by
 rw [Int.mul_one]
 have hw:∀g,wkT (g+1) t [] k n=match spendN n k with|none=>none|some n1=>some (1,n1):=fun g=>by
  rw [wkT,if_neg (by omega),if_neg (by omega),if_neg (by omega)]
  cases spendN n k with
  | none=>rfl
  | some n1=>dsimp only;rw [if_pos hk]
 refine ⟨fun hf hn=>?_,fun x h=>?_⟩
 ·obtain ⟨g,rfl⟩:∃g,f=g+1:=⟨f - 1,by omega⟩
  rw [hw,spendN_ok hn]
 ·obtain ⟨g,rfl⟩:=wkT_pos h
  rw [hw] at h
  cases hs:spendN n k with
  | none=>rw [hs] at h;cases h
  | some n1=>
   rw [hs] at h
   obtain ⟨e1,e2⟩:=spendN_some hs
   cases h
   exact ⟨by omega,by rw [e1]⟩
theorem wkT_list {t:GT} (hk:t.k=6) {x:GT} (hx:t.a=[x]) (g:Nat) (k n:Int):wkT (g+1) t [] k n=match spendN n k with|none=>none|some n1=>match wkT g x [] (k*max 1 t.hi) n1 with|none=>none|some y=>some (if t.hi=0 then 1 else 1+max 0 y.1,y.2):=by
 rw [wkT,if_neg (by omega),if_neg (by omega),if_neg (by omega)]
 cases spendN n k with
 | none=>rfl
 | some n1=>
  dsimp only
  rw [if_neg (by omega),if_neg (by omega),if_pos hk,hx]
  simp only [foldA]
  cases wkT g x [] (k*max 1 t.hi) n1 with
  | none=>rfl
  | some y=>
   dsimp only
   split<;>simp_all
theorem bx_6 {M r:Int} {t x:GT} (hk:t.k=6) (hx:t.a=[x]) (hM:0≤M) (h:BX M x r):BX M t (min (1+max 1 t.hi*r) (M+1)):=by
 generalize hH:max 1 t.hi=H
 have hH1:1≤H:=by omega
 have hw:=fun g k n=>wkT_list hk hx g k n
 rw [hH] at hw
 rcases h with ⟨h1,h2,d,hd⟩|⟨h1,hb⟩
 ·have hHr:r≤H*r:=by have:=Int.mul_le_mul_of_nonneg_right hH1 (show 0≤r by omega);omega
  refine bx_ex (d:=if t.hi=0 then 1 else 1+max 0 d) (fun f k n hk1 hn=>?_) (by omega)
  have hkH:1≤k*H:=by have:=Int.mul_le_mul_of_nonneg_right hk1 (show 0≤H by omega);omega
  have he:k*(1+H*r)=k+k*H*r:=by rw [Int.mul_add,Int.mul_one,Int.mul_assoc]
  have hq:0≤k*H*r:=Int.mul_nonneg (by omega) (by omega)
  rw [he]
  refine ⟨fun hf h3=>?_,fun y hy=>?_⟩
  ·obtain ⟨g,rfl⟩:∃g,f=g+1:=⟨f - 1,by omega⟩
   rw [hw,spendN_ok (by omega)]
   dsimp only
   rw [(hd g (k*H) (n+k) hkH (by omega)).1 (by omega) (by omega)]
   dsimp only
   rw [Int.add_assoc]
  ·obtain ⟨g,rfl⟩:=wkT_pos hy
   rw [hw] at hy
   cases hs:spendN n k with
   | none=>rw [hs] at hy;cases hy
   | some n1=>
    rw [hs] at hy
    obtain ⟨rfl,e2⟩:=spendN_some hs
    dsimp only at hy
    cases ha:wkT g x [] (k*H) (n+k) with
    | none=>rw [ha] at hy;cases hy
    | some z=>
     rw [ha] at hy
     obtain ⟨h5,rfl⟩:=(hd g (k*H) (n+k) hkH (by omega)).2 z ha
     cases hy
     exact ⟨by omega,by rw [Int.add_assoc]⟩
 ·subst h1
  have hHr:M+1≤H*(M+1):=by have:=Int.mul_le_mul_of_nonneg_right hH1 (show 0≤M+1 by omega);omega
  rw [show min (1+H*(M+1)) (M+1)=M+1 by omega]
  refine .inr ⟨rfl,fun f k n d n' hk1 hn hy=>?_⟩
  have hkH:1≤k*H:=by have:=Int.mul_le_mul_of_nonneg_right hk1 (show 0≤H by omega);omega
  have hkH2:k≤k*H:=by have:=Int.mul_le_mul_of_nonneg_left hH1 (show 0≤k by omega);omega
  obtain ⟨g,rfl⟩:=wkT_pos hy
  rw [hw] at hy
  cases hs:spendN n k with
  | none=>rw [hs] at hy;cases hy
  | some n1=>
   rw [hs] at hy
   obtain ⟨rfl,e2⟩:=spendN_some hs
   dsimp only at hy
   cases ha:wkT g x [] (k*H) (n+k) with
   | none=>rw [ha] at hy;cases hy
   | some z=>
    obtain ⟨z1,z2⟩:=z
    rw [ha] at hy
    have h5:=hb g (k*H) (n+k) z1 z2 hkH (by omega) ha
    have h6:=Int.mul_le_mul_of_nonneg_right hkH2 (show 0≤M+1 by omega)
    cases hy
    omega
theorem bx_10 {M r:Int} {t a0 a1:GT} (hk:t.k=10) (hg:goodT false t) (h0:t.a[0]? =some a0) (h1:t.a[1]? =some a1) (h:BX (M - 1) (stepT t a0 a1) r):BX M t (min (1+r) (M+1)):=by
 have hw:=fun f k n=>wkT_step hk hg h0 h1 f k n
 rcases h with ⟨h2,h3,d,hd⟩|⟨h2,hb⟩
 ·refine bx_ex (d:=d) (fun f k n hk1 hn=>?_) (by omega)
  have he:k*(1+r)=k+k*r:=by rw [Int.mul_add,Int.mul_one]
  have hq:0≤k*r:=Int.mul_nonneg (by omega) (by omega)
  rw [he]
  refine ⟨fun hf h3=>?_,fun y hy=>?_⟩
  ·obtain ⟨g,rfl⟩:∃g,f=g+1:=⟨f - 1,by omega⟩
   rw [hw,spendN_ok (by omega)]
   dsimp only
   rw [(hd g k (n+k) hk1 (by omega)).1 (by omega) (by omega),Int.add_assoc]
  ·obtain ⟨g,rfl⟩:=wkT_pos hy
   rw [hw] at hy
   cases hs:spendN n k with
   | none=>rw [hs] at hy;cases hy
   | some n1=>
    rw [hs] at hy
    obtain ⟨rfl,e2⟩:=spendN_some hs
    obtain ⟨h5,rfl⟩:=(hd g k (n+k) hk1 (by omega)).2 y hy
    exact ⟨by omega,by rw [Int.add_assoc]⟩
 ·rw [show min (1+r) (M+1)=M+1 by omega]
  refine .inr ⟨rfl,fun f k n d n' hk1 hn hy=>?_⟩
  obtain ⟨g,rfl⟩:=wkT_pos hy
  rw [hw] at hy
  cases hs:spendN n k with
  | none=>rw [hs] at hy;cases hy
  | some n1=>
   rw [hs] at hy
   obtain ⟨rfl,e2⟩:=spendN_some hs
   have h5:=hb g k (n+k) d n' hk1 (by omega) hy
   have he:k*(M+1)=k*(M - 1+1)+k:=by rw [show M - 1+1=M by omega,Int.mul_add,Int.mul_one]
   omega
end Go.Proofs.YtclphfojkggcpaaGreat
