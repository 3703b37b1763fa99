/- Part 9. -/
import Derived.WalkSmall
import Derived.Test.YtkdffbdnjfgpeaaGreatZ6
set_option linter.all false
namespace Go.Proofs.YtkdffbdnjfgpeaaGreat
open Go Go.RowKit Go.Proofs.Tryz
def Zu (n k:Int):Option Int:=if 4096 < n+k then none else some (n+k)
def Zx (g:Int→GT→Option (Int×Int)):List GT→Int→Int→Option (Int×Int)
 | [],d,n=>some (d,n)
 | x::l,d,n=>match g n x with
  | none=>none
  | some (d',n')=>Zx g l (max d d') n'
def YB (k:Int):List GV→Int→Int→Option (Int×Int)
 | [],d,n=>some (d,n)
 | x::l,d,n=>match Zu n (k*Zg x) with
  | none=>none
  | some n'=>YB k l (max d (Yx x)) n'
abbrev Env:=List (GT×Int)
def Xx (g:GT→Env→Int→Int→Option (Int×Int)) (t:GT) (m:Int) (up:Env) (k n:Int):Option (Int×Int):=
 match Zu n k with
 | none=>none
 | some n1=>if m=0 then (match t.a[0]? with|some x=>g x up k n1|none=>none) else (match t.a[1]? with|some x=>g x ((t,m - 1)::up) k n1|none=>none)
def ZcE:Option (Int×Int)→Option (Int×Int)
 | none=>none
 | some (d,n)=>some (1+d,n)
def wkT:Nat→GT→Env→Int→Int→Option (Int×Int)
 | 0,_,_,_,_=>none
 | f+1,t,e,k,n=>
  if t.k=1 then (match Zu n (k*Zg t.v) with|none=>none|some n'=>some (Yx t.v,n'))
  else if t.k=11 then (match e with|[]=>none|(t',m)::up=>Xx (wkT f) t' m up k n)
  else if t.k=10 then Xx (wkT f) t t.lo e k n
  else match Zu n k with
   | none=>none
   | some n1=>
    if t.k=2 then some (1,n1)
    else if t.k=4 then YB k t.vs 0 n1
    else if t.k=6 then (match Zx (fun n x=>wkT f x e (k*max 1 t.hi) n) t.a 0 n1 with|none=>none|some (d,n2)=>if t.hi=0 then some (1,n2) else some (1+d,n2))
    else if t.k=3∨t.k=9 then Zx (fun n x=>wkT f x e k n) t.a 0 n1
    else ZcE (Zx (fun n x=>wkT f x e k n) t.a 0 n1)
mutual
def Zp (inn:Bool):GT→Prop
 | ⟨k,v,vs,lo,hi,ws,p,l⟩=>ZG ⟨k,v,vs,lo,hi,ws,p,l⟩=0∧(k=11→inn=true)∧goodTs inn k 0 l
def goodTs (inn:Bool) (k:Int) (i:Nat):List GT→Prop
 | []=>True
 | x::l=>Zp (inn||ZU k i) x∧goodTs inn k (i+1) l
end
theorem Zk {inn:Bool} {t:GT}:Zp inn t↔ZG t=0∧(t.k=11→inn=true)∧goodTs inn t.k 0 t.a:=by cases t;simp only [Zp]
theorem goodTs.get {inn:Bool} {k:Int}:∀{l:List GT} {i:Nat},goodTs inn k i l→∀j (h:j < l.length),Zp (inn||ZU k (i+j)) l[j]
 | [],_,_,j,h=>absurd h sm
 | x::l,i,hx,0,_=>by simp only [goodTs] at hx;exact hx.1
 | x::l,i,hx,j+1,h=>by simp only [goodTs] at hx;have:=goodTs.get hx.2 j (by simpa using h);rw [show i+(j+1)=i+1+j by omega];exact this
mutual
theorem XL (mo:Int):∀(t:GT) (pl d:Int) (inn:Bool),(ZF pl d mo inn t).2=0→Zp inn t
 | ⟨k,v,vs,lo,hi,ws,p,l⟩,pl,d,inn,h=>by
  simp only [ZF] at h
  split at h
  ·simp at h
  split at h
  ·rename_i h1;exact absurd h h1
  rename_i h1
  split at h
  ·simp at h
  rename_i h2
  simp only [Zp]
  refine ⟨by simpa using h1,fun h3=>?_,Jf mo l _ _ inn k 0 h⟩
  cases inn
  ·exact absurd ⟨h3,rfl⟩ h2
  rfl
theorem Jf (mo:Int):∀(l:List GT) (pl d:Int) (inn:Bool) (k:Int) (i:Nat),(ZH pl d mo inn k i l).2=0→goodTs inn k i l
 | [],pl,d,inn,k,i,h=>by simp only [goodTs]
 | x::l,pl,d,inn,k,i,h=>by
  simp only [ZH] at h
  split at h
  ·rename_i h1;exact absurd h h1
  rename_i h1
  simp only [goodTs]
  exact ⟨XL mo x _ _ _ (by simpa using h1),Jf mo l _ _ _ _ _ h⟩
end
theorem Y9 {t:GT} (h:ZG t=0):(1≤t.k∧t.k≤11)∧Z6 t=0∧ZB t=0∧Ya t=0∧Zn t=0:=by
 unfold ZG at h
 (repeat' split at h)<;>simp_all<;>omega
theorem Wu {n a b:Int} (h:Xl n a b=0):a≤n∧n≤b:=by
 unfold Xl at h;(repeat' split at h)<;>simp_all<;>omega
theorem Yl {t:GT} (h:ZG t=0) (hk:t.k=10):t.a.length=2∧0≤t.lo∧t.lo≤8:=by
 obtain ⟨_,_,_,h1,h2⟩:=Y9 h
 simp only [Zn,Ya,hk] at h1 h2
 simp [Yi] at h1
 have:=Wu h2
 split at h1<;>omega
theorem WO {t:GT} (h:ZG t=0) (hk:t.k=6):t.a.length=1∧0≤t.lo∧t.lo≤t.hi∧t.hi≤16:=by
 obtain ⟨_,_,_,h1,h2⟩:=Y9 h
 simp only [Zn,Ya,hk] at h1 h2
 simp [Yi] at h1
 have:=Wu h2
 omega
def Ye (S:Nat):Env→Prop
 | []=>True
 | (t,m)::up=>Zp (!up.isEmpty) t∧t.k=10∧okT t∧Zb t≤S∧0≤m∧m≤8∧Ye S up
def REnv (w:World) (A:Nat→Prop):Env→Option Addr→Prop
 | [],a=>a=none
 | (t,m)::up,a=>∃b x a',a=some ⟨b,0,none⟩∧A b∧At w b 0 [.int .u8 t.k,.int .u8 t.v.k,.int .i64 t.v.n,.slice (TA.va x) t.v.l.length (TA.vc x),.slice (TA.vsa x) t.vs.length (TA.vsc x),.int .i64 t.lo,.int .i64 t.hi,
    .slice (TA.wa x) t.w.length (TA.wc x),.int .u8 t.p.k,.int .u8 t.p.v.k,.int .i64 t.p.v.n,.slice (TA.pva x) t.p.v.l.length (TA.pvc x),.int .i64 t.p.n,.slice (TA.pa x) t.p.a.length (TA.pc x),.slice (TA.a x) t.a.length (TA.c x),.int .i64 m,.pointer a'] ∧
   RT w A t x∧REnv w A up a'
theorem REnv.ext {w w':World} {A:Nat→Prop} (h:Agree A w w'):∀(e:Env) a,REnv w A e a→REnv w' A e a
 | [],_,hx=>hx
 | (t,m)::up,a,hx=>by
  simp only [REnv] at hx ⊢
  obtain ⟨b,x,a',e,hA,h0,h1,h2⟩:=hx
  exact ⟨b,x,a',e,hA,h0.ext h hA,Zt2 h t _ h1,REnv.ext h up _ h2⟩
abbrev Zua:=@REnv.ext
theorem Ko {w b c0 c1 c2 c3 c4 c5 c6 c7 c8 c9 ca cb cc cd ce cf cg}:At w b 0 [c0,c1,c2,c3,c4,c5,c6,c7,c8,c9,ca,cb,cc,cd,ce,cf,cg]↔w.cell? ⟨b,0,none⟩=some c0∧w.cell? ⟨b,1,none⟩=some c1∧w.cell? ⟨b,2,none⟩=some c2 ∧
  w.cell? ⟨b,3,none⟩=some c3∧w.cell? ⟨b,4,none⟩=some c4∧w.cell? ⟨b,5,none⟩=some c5∧w.cell? ⟨b,6,none⟩=some c6∧w.cell? ⟨b,7,none⟩=some c7∧w.cell? ⟨b,8,none⟩=some c8 ∧
  w.cell? ⟨b,9,none⟩=some c9∧w.cell? ⟨b,10,none⟩=some ca∧w.cell? ⟨b,11,none⟩=some cb∧w.cell? ⟨b,12,none⟩=some cc∧w.cell? ⟨b,13,none⟩=some cd∧w.cell? ⟨b,14,none⟩=some ce∧w.cell? ⟨b,15,none⟩=some cf∧w.cell? ⟨b,16,none⟩=some cg:=by
 simp only [At,Nat.add_assoc,Nat.reduceAdd,and_true,Nat.zero_add]
def Ctr (w:World) (c:Nat) (n:Int):Prop:=w.cell? ⟨c,0,none⟩=some (.int .i64 n)∧w.frozen? ⟨c,0,none⟩=false
def WkR (c:Nat) (w:World) (r:Option (Int×Int)):Ending→World→Prop:=fun e w'=>But c w.heap.size w w' ∧
 match r with
 | some (d,n)=>e=.returned (.int .i64 d)∧Ctr w' c n
 | none=>e=.panicked [{ v:=.iface 200 (.agg #[]),recovered:=false }]
def SpR (c:Nat) (w:World) (r:Option Int):Ending→World→Prop:=fun e w'=>But c w.heap.size w w' ∧
 match r with
 | some n=>e=.returned (.tuple #[])∧Ctr w' c n
 | none=>e=.panicked [{ v:=.iface 200 (.agg #[]),recovered:=false }]
theorem ZW (c:Nat) (n k:Int) (w:World) (hc:c < w.heap.size) (hn:0≤n∧n≤4096) (hk:0≤k∧k≤144115188075855872) (hl:Ctr w c n):
  Calls prog 215 #[.pointer (some ⟨c,0,none⟩),.int .i64 k] w (SpR c w (Zu n k)):=by
 obtain ⟨h1,h2⟩:=hl
 obtain ⟨n1,n2⟩:=hn
 obtain ⟨k1,k2⟩:=hk
 by_cases h:4096 < n+k
 ·rw [Zu,if_pos h]
  go_enter func215,ntmps215
  go_wp2_with fail
  exact ⟨rfl,Zt1,rfl⟩
 rw [Zu,if_neg h]
 go_enter func215,ntmps215
 go_wp2_with fail
 go_end0
 exact ⟨Zt1,rfl,gs,gs⟩
end Go.Proofs.YtkdffbdnjfgpeaaGreat
