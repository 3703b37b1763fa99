/- Part 48. -/
import Derived.Test.YtclphfojkggcpaaGreatDoorX25
set_option linter.all false
namespace Go.Proofs.YtclphfojkggcpaaGreatDoor
open Go Go.RowKit
inductive Sub:GT→Env→GT→Env→Prop where
 | refl (x:GT) (e:Env):Sub x e x e
 | base (r t:GT) (m:Int) (up:Env) (hk:r.k=10) (hl:r.lo=m) (ha:r.a=t.a) (x:GT) (hg:Zp true x):Sub x ((t,m)::up) (UB r x) up
 | lift (t t':GT) (m:Int) (e e':Env) (a0 a0':GT) (h0:t.a[0]? =some a0) (h0':t'.a[0]? =some a0') (hs:Sub a0 e a0' e') (h1:t'.a[1]? =t.a[1]?) (x:GT):Sub x ((t,m)::e) x ((t',m)::e')
 | lone (t t':GT) (m:Int) (e e':Env) (h0:t.a[0]? =none) (h0':t'.a[0]? =none) (h1:t'.a[1]? =t.a[1]?) (x:GT):Sub x ((t,m)::e) x ((t',m)::e')
theorem Sub.frame {x:GT} {e:Env} {x':GT} {e':Env} (h:Sub x e x' e') (h1:∀a0,x.a[0]? =some a0→∃a0',x'.a[0]? =some a0'∧Sub a0 e a0' e') (h2:x.a[0]? =none→x'.a[0]? =none) (h3:x'.a[1]? =x.a[1]?) (m:Int) (y:GT):Sub y ((x,m)::e) y ((x',m)::e'):=by
 cases ha:x.a[0]? with
 | none=>exact .lone x x' m e e' ha (h2 ha) h3 y
 | some a0=>
  obtain ⟨a0',e1,e2⟩:=h1 a0 ha
  exact .lift x x' m e e' a0 a0' ha e1 e2 h3 y
inductive Subs:List GT→Env→List GT→Env→Prop where
 | nil (e e':Env):Subs [] e [] e'
 | cons {x x':GT} {l l':List GT} {e e':Env}:Sub x e x' e'→Subs l e l' e'→Subs (x::l) e (x'::l') e'
theorem Subs.all {e e':Env} (h:∀x,Sub x e x e'):∀l,Subs l e l e'
 | []=>.nil _ _
 | x::l=>.cons (h x) (Subs.all h l)
theorem Subs.put {r t:GT} {m:Int} {up:Env} (hk:r.k=10) (hl:r.lo=m) (ha:r.a=t.a) {k:Int} (h10:k≠10):∀(l:List GT) (i:Nat),goodTs true k i l→Subs l ((t,m)::up) (YH r k i l) up
 | [],_,_=>.nil _ _
 | x::l,i,h=>by
  simp only [goodTs,Bool.true_or] at h
  rw [YH,if_neg (by simp [ZU,h10])]
  exact .cons (.base r t m up hk hl ha x h.1) (Subs.put hk hl ha h10 l (i+1) h.2)
theorem Sub.node {x x':GT} {e e':Env} (h:Sub x e x' e') (h11:x.k≠11):x'.k=x.k∧x'.v=x.v∧x'.vs=x.vs∧x'.lo=x.lo∧x'.hi=x.hi∧x'.w=x.w∧x'.p=x.p∧x'.a.length=x.a.length∧(x.k≠10→Subs x.a e x'.a e') ∧
  ((∀a0,x.a[0]? =some a0→∃a0',x'.a[0]? =some a0'∧Sub a0 e a0' e')∧(x.a[0]? =none→x'.a[0]? =none)∧((x.k=10∨x.k < 1∨11 < x.k)→x'.a[1]? =x.a[1]?)):=by
 cases h with
 | refl=>exact ⟨rfl,rfl,rfl,rfl,rfl,rfl,rfl,rfl,fun _=>Subs.all (fun x=>.refl x _) _,fun a0 h=>⟨a0,h,.refl _ _⟩,id,fun _=>rfl⟩
 | base r t m up hk hl ha _ hg=>
  obtain ⟨hn, -,hgs⟩:=Zk.1 hg
  have hkr:=(Y9 hn).1
  rw [Jo,if_neg h11]
  refine ⟨rfl,rfl,rfl,rfl,rfl,rfl,rfl,Yb _ _ _ _,fun h10=>Subs.put hk hl ha h10 _ _ hgs,fun a0 h=>?_,fun h=>?_,fun h10=>?_⟩
  ·cases hx:x.a with
   | nil=>rw [hx] at h;simp at h
   | cons y l=>
    rw [hx] at h
    simp only [List.getElem?_cons_zero,Option.some.injEq] at h
    subst h
    rw [hx] at hgs
    simp only [goodTs,Bool.true_or] at hgs
    refine ⟨UB r y,?_,.base r t m _ hk hl ha y hgs.1⟩
    simp [YH,ZU]
  ·cases hx:x.a with
   | nil=>simp [YH]
   | cons y l=>rw [hx] at h;simp at h
  cases hx:x.a with
  | nil=>simp [YH]
  | cons y l=>
   cases l with
   | nil=>simp [YH]
   | cons z l=>simp [YH,ZU,show x.k=10 by omega]
 | lift t t' m e e' a0 a0' h0 h0' hs h1=>
  exact ⟨rfl,rfl,rfl,rfl,rfl,rfl,rfl,rfl,fun _=>Subs.all (fun y=>.lift t t' m _ _ a0 a0' h0 h0' hs h1 y) _,fun b h=>⟨b,h,.lift t t' m _ _ a0 a0' h0 h0' hs h1 b⟩,id,fun _=>rfl⟩
 | lone t t' m e e' h0 h0' h1=>
  exact ⟨rfl,rfl,rfl,rfl,rfl,rfl,rfl,rfl,fun _=>Subs.all (fun y=>.lone t t' m _ _ h0 h0' h1 y) _,fun b h=>⟨b,h,.lone t t' m _ _ h0 h0' h1 b⟩,id,fun _=>rfl⟩
theorem Sub.self {x x':GT} {e e':Env} (h:Sub x e x' e') (h11:x.k=11):(x'=x∧e=e') ∨
  ∃(t t':GT) (m:Int) (up up':Env),e=(t,m)::up∧((x'=x∧e'=(t',m)::up')∨(x'=t'∧x'.k=10∧x'.lo=m∧e'=up'))∧t'.a[1]? =t.a[1]? ∧(∀a0,t.a[0]? =some a0→∃a0',t'.a[0]? =some a0'∧Sub a0 up a0' up')∧(t.a[0]? =none→t'.a[0]? =none):=by
 cases h with
 | refl=>exact .inl ⟨rfl,rfl⟩
 | base r t m up hk hl ha _ hg=>
  refine .inr ⟨t,r,m,_,_,rfl,.inr ?_,by rw [ha],fun a0 h=>⟨a0,by rw [ha];exact h,.refl _ _⟩,fun h=>by rw [ha];exact h⟩
  rw [Jo,if_pos h11]
  exact ⟨rfl,hk,hl,rfl⟩
 | lift t t' m e e' a0 a0' h0 h0' hs h1=>
  exact .inr ⟨t,t',m,_,_,rfl,.inl ⟨rfl,rfl⟩,h1,fun b h=>⟨a0',h0',by rw [h0] at h;cases h;exact hs⟩,fun h=>(by rw [h0] at h;cases h)⟩
 | lone t t' m e e' h0 h0' h1=>
  exact .inr ⟨t,t',m,_,_,rfl,.inl ⟨rfl,rfl⟩,h1,fun b h=>(by rw [h0] at h;cases h),fun _=>h0'⟩
theorem Sub.step {t t':GT} {up up':Env} (h1:t'.a[1]? =t.a[1]?) (h2:∀a0,t.a[0]? =some a0→∃a0',t'.a[0]? =some a0'∧Sub a0 up a0' up') (h3:t.a[0]? =none→t'.a[0]? =none) (m:Int) (y:GT):Sub y ((t,m)::up) y ((t',m)::up'):=by
 cases ha:t.a[0]? with
 | none=>exact .lone t t' m up up' ha (h3 ha) h1 y
 | some a0=>
  obtain ⟨a0',e1,e2⟩:=h2 a0 ha
  exact .lift t t' m up up' a0 a0' ha e1 e2 h1 y
theorem ZcV {g:GT→Env→Nat→Res GV} {t t':GT} {up up':Env} (hg:∀x e x' e' i,Sub x e x' e'→g x e i=g x' e' i) (h1:t'.a[1]? =t.a[1]?) (h2:∀a0,t.a[0]? =some a0→∃a0',t'.a[0]? =some a0'∧Sub a0 up a0' up') (h3:t.a[0]? =none→t'.a[0]? =none) (m:Int) (i:Nat):
  Wd g t m up i=Wd g t' m up' i:=by
 unfold Wd atD
 split
 ·cases ha:t.a[0]? with
  | none=>rw [h3 ha]
  | some a0=>
   obtain ⟨a0',e1,e2⟩:=h2 a0 ha
   rw [e1]
   exact hg _ _ _ _ _ e2
 rw [h1]
 cases hb:t.a[1]? with
 | none=>rfl
 | some b=>exact hg _ _ _ _ _ (Sub.step h1 h2 h3 (m - 1) b)
theorem Za2 {g:GT→Env→Nat→Res GV} (hg:∀x e x' e' i,Sub x e x' e'→g x e i=g x' e' i):∀{l l':List GT} {e e':Env},Subs l e l' e'→∀i,Xt (fun x=>g x e) l i=Xt (fun x=>g x e') l' i
 | _,_,_,_,.nil _ _,i=>rfl
 | _,_,_,_,.cons h hs,i=>by
  simp only [Xt]
  rw [hg _ _ _ _ _ h]
  congr 1
  funext v j
  rw [Za2 hg hs]
theorem Subs.get {l l':List GT} {e e':Env} (h:Subs l e l' e'):∀(j:Nat),(∀x,l[j]? =some x→∃x',l'[j]? =some x'∧Sub x e x' e')∧(l[j]? =none→l'[j]? =none):=by
 induction h with
 | nil=>intro j;simp
 | cons h hs ih=>
  intro j
  cases j with
  | zero=>simp;exact h
  | succ j=>simpa using ih j
theorem Zi4 {g:GT→Env→Nat→Res GV} (hg:∀x e x' e' i,Sub x e x' e'→g x e i=g x' e' i) {l l':List GT} {e e':Env} (h:Subs l e l' e') (n i:Nat):atD (fun x=>g x e) l n i=atD (fun x=>g x e') l' n i:=by
 unfold atD
 obtain ⟨h1,h2⟩:=h.get n
 cases ha:l[n]? with
 | none=>rw [h2 ha]
 | some x=>
  obtain ⟨x',e1,e2⟩:=h1 x ha
  rw [e1]
  exact hg _ _ _ _ _ e2
theorem Subs.pick {l l':List GT} {e e':Env} (h:Subs l e l' e'):∀row:List Int,Subs (YC l row) e (YC l' row) e'
 | []=>.nil _ _
 | i::row=>by
  obtain ⟨h1,h2⟩:=h.get i.toNat
  unfold YC
  rw [List.filterMap_cons,List.filterMap_cons]
  cases ha:l[i.toNat]? with
  | none=>rw [h2 ha];exact Subs.pick h row
  | some x=>
   obtain ⟨x',e1,e2⟩:=h1 x ha
   rw [e1]
   exact .cons e2 (Subs.pick h row)
theorem Subs.length {l l':List GT} {e e':Env} (h:Subs l e l' e'):l'.length=l.length:=by
 induction h with
 | nil=>rfl
 | cons _ _ ih=>simp [ih]
theorem ZcN (s:ByteArray):∀(f:Nat) (x:GT) (e:Env) (x':GT) (e':Env) (i:Nat),Sub x e x' e'→Zd s f x e i=Zd s f x' e' i
 | 0,_,_,_,_,_,_=>rfl
 | f+1,x,e,x',e',i,h=>by
  have ih:=fun x e x' e' i h=>ZcN s f x e x' e' i h
  by_cases h11:x.k=11
  ·rcases h.self h11 with ⟨rfl,rfl⟩|⟨t,t',m,up,up',rfl,h1,h2,h3,h4⟩
   ·rfl
   have hl:Zd s (f+1) x ((t,m)::up) i=Wd (Zd s f) t m up i:=by
    simp [Zd,h11]
   rw [hl,ZcV ih h2 h3 h4]
   rcases h1 with ⟨rfl,rfl⟩|⟨rfl,h5,h6,rfl⟩
   ·simp [Zd,h11]
   simp [Zd,h5,h6]
  obtain ⟨e1,e2,e3,e4,e5,e6,e7,e8,e9,e10,e11,e12⟩:=h.node h11
  have hst:(x.k=10∨x.k < 1∨11 < x.k)→Wd (Zd s f) x x.lo e i=Wd (Zd s f) x' x.lo e' i:=fun h=>ZcV ih (e12 h) e10 e11 _ _
  by_cases h10:x.k=10∨x.k < 1∨11 < x.k
  ·have hl:∀y e,(y:GT).k=x.k→Zd s (f+1) y e i=Wd (Zd s f) y y.lo e i:=fun y e hy=>by
    simp only [Zd]
    rw [if_neg om,if_neg om,if_neg om,if_neg om,if_neg om,if_neg om,if_neg om,if_neg om,if_neg om,if_neg om]
   rw [hl x e rfl,hl x' e' e1,e4]
   exact hst h10
  have hs:=e9 om
  have ha:=fun i=>Za2 ih hs i
  have hat:=fun n i=>Zi4 ih hs n i
  have hp:=fun row i=>Za2 ih (hs.pick row) i
  simp only [Zd]
  rw [e1,e2,e3,e4,e5,e6,e7,e8]
  simp only [ha,hat,hp,h11,if_false]
  by_cases h1:x.k=1
  ·rw [if_pos h1,if_pos h1]
  rw [if_neg h1,if_neg h1]
  by_cases h2:x.k=2
  ·rw [if_pos h2,if_pos h2]
  rw [if_neg h2,if_neg h2]
  by_cases h3:x.k=3
  ·rw [if_pos h3,if_pos h3]
  rw [if_neg h3,if_neg h3]
  by_cases h4:x.k=4
  ·rw [if_pos h4,if_pos h4]
  rw [if_neg h4,if_neg h4]
  by_cases h5:x.k=5
  ·rw [if_pos h5,if_pos h5]
  rw [if_neg h5,if_neg h5]
  by_cases h6:x.k=6
  ·rw [if_pos h6,if_pos h6]
  rw [if_neg h6,if_neg h6]
  by_cases h7:x.k=7
  ·rw [if_pos h7,if_pos h7]
  rw [if_neg h7,if_neg h7]
  by_cases h8:x.k=8
  ·rw [if_pos h8,if_pos h8]
  rw [if_neg h8,if_neg h8,if_pos om,if_pos om]
theorem ZcW {g:GT→Env→Int→Int→Option (Int×Int)} {t t':GT} {up up':Env} (hg:∀x e x' e' k n,Sub x e x' e'→g x e k n=g x' e' k n) (h1:t'.a[1]? =t.a[1]?) (h2:∀a0,t.a[0]? =some a0→∃a0',t'.a[0]? =some a0'∧Sub a0 up a0' up') (h3:t.a[0]? =none→t'.a[0]? =none) (m k n:Int):
  Xx g t m up k n=Xx g t' m up' k n:=by
 unfold Xx
 cases Zu n k with
 | none=>rfl
 | some n1=>
  dsimp only
  split
  ·cases ha:t.a[0]? with
   | none=>rw [h3 ha]
   | some a0=>
    obtain ⟨a0',e1,e2⟩:=h2 a0 ha
    rw [e1]
    exact hg _ _ _ _ _ _ e2
  rw [h1]
  cases hb:t.a[1]? with
  | none=>rfl
  | some b=>exact hg _ _ _ _ _ _ (Sub.step h1 h2 h3 (m - 1) b)
theorem Zcs {g:GT→Env→Int→Int→Option (Int×Int)} (hg:∀x e x' e' k n,Sub x e x' e'→g x e k n=g x' e' k n) (k:Int):∀{l l':List GT} {e e':Env},Subs l e l' e'→∀d n,Zx (fun n x=>g x e k n) l d n=Zx (fun n x=>g x e' k n) l' d n
 | _,_,_,_,.nil _ _,d,n=>rfl
 | _,_,_,_,.cons h hs,d,n=>by
  simp only [Zx]
  rw [hg _ _ _ _ _ _ h]
  split
  ·rfl
  exact Zcs hg k hs _ _
theorem ZgA:∀(f:Nat) (x:GT) (e:Env) (x':GT) (e':Env) (k n:Int),Sub x e x' e'→wkT f x e k n=wkT f x' e' k n
 | 0,_,_,_,_,_,_,_=>rfl
 | f+1,x,e,x',e',k,n,h=>by
  have ih:=fun x e x' e' k n h=>ZgA f x e x' e' k n h
  by_cases h11:x.k=11
  ·rcases h.self h11 with ⟨rfl,rfl⟩|⟨t,t',m,up,up',rfl,h1,h2,h3,h4⟩
   ·rfl
   have hl:wkT (f+1) x ((t,m)::up) k n=Xx (wkT f) t m up k n:=by
    simp [wkT,h11]
   rw [hl,ZcW ih h2 h3 h4]
   rcases h1 with ⟨rfl,rfl⟩|⟨rfl,h5,h6,rfl⟩
   ·simp [wkT,h11]
   simp [wkT,h5,h6]
  obtain ⟨e1,e2,e3,e4,e5,e6,e7,e8,e9,e10,e11,e12⟩:=h.node h11
  by_cases h10:x.k=10
  ·have hl:∀y e,(y:GT).k=10→wkT (f+1) y e k n=Xx (wkT f) y y.lo e k n:=fun y e hy=>by
    simp [wkT,hy]
   rw [hl x e h10,hl x' e' (e1.trans h10),e4]
   exact ZcW ih (e12 (.inl h10)) e10 e11 _ _ _
  have ha:=fun k d n=>Zcs ih k (e9 h10) d n
  simp only [wkT]
  rw [e1,e2,e3,e5]
  simp only [h11,h10,if_false]
  split
  ·rfl
  split
  ·rfl
  split
  ·rfl
  split
  ·rfl
  split
  ·rw [ha]
  split
  ·rw [ha]
  rw [ha]
theorem ZeF {t:GT} (hk:t.k=10) (hg:Zp false t) {a0 a1:GT} (h0:t.a[0]? =some a0) (h1:t.a[1]? =some a1):(t.lo=0→YY t a0 a1=a0)∧(t.lo≠0→Sub a1 [(t,t.lo - 1)] (YY t a0 a1) []):=by
 refine ⟨fun h=>by rw [YY,if_pos h],fun h=>?_⟩
 rw [YY,if_neg h]
 have hl:=(List.getElem?_eq_some_iff.1 h1).1
 have hh:=(Zk.1 hg).2.2.get 1 hl
 have he:=(List.getElem?_eq_some_iff.1 h1).2
 rw [he] at hh
 exact .base (Qe t) t (t.lo - 1) [] hk rfl rfl a1 (by simpa [ZU,hk] using hh)
theorem ZeL {t:GT} (hk:t.k=10) (hg:Zp false t) {a0 a1:GT} (h0:t.a[0]? =some a0) (h1:t.a[1]? =some a1) (f:Nat) (k n:Int):wkT (f+1) t [] k n=match Zu n k with|none=>none|some n1=>wkT f (YY t a0 a1) [] k n1:=by
 obtain ⟨g1,g2⟩:=ZeF hk hg h0 h1
 rw [wkT]
 simp only [hk,Xx,h0,h1,if_true,if_false,show ((10:Int)=1)=False by simp,show ((10:Int)=11)=False by simp]
 cases Zu n k with
 | none=>rfl
 | some n1=>
  dsimp only
  by_cases hl:t.lo=0
  ·rw [if_pos hl,g1 hl]
  rw [if_neg hl]
  exact ZgA f _ _ _ _ _ _ (g2 hl)
theorem Zf1 (s:ByteArray) {t:GT} (hk:t.k=10) (hg:Zp false t) {a0 a1:GT} (h0:t.a[0]? =some a0) (h1:t.a[1]? =some a1) (f i:Nat):Zd s (f+1) t [] i=Zd s f (YY t a0 a1) [] i:=by
 obtain ⟨g1,g2⟩:=ZeF hk hg h0 h1
 rw [Zd]
 simp only [hk,Wd,atD,h0,h1]
 simp only [show ((10:Int)=1)=False by simp,show ((10:Int)=2)=False by simp,show ((10:Int)=3)=False by simp,show ((10:Int)=4)=False by simp,show ((10:Int)=5)=False by simp,show ((10:Int)=6)=False by simp,show ((10:Int)=7)=False by simp,show ((10:Int)=8)=False by simp,show ((10:Int)=9)=False by simp,show ((10:Int)=11)=False by simp,if_false]
 by_cases hl:t.lo=0
 ·rw [if_pos hl,g1 hl]
 rw [if_neg hl]
 exact ZcN s f _ _ _ _ _ (g2 hl)
end Go.Proofs.YtclphfojkggcpaaGreatDoor
