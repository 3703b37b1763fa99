/- Part 10. -/
import Derived.WalkSmall
import Derived.Test.YtkdffbdnjfgpeaaGreatY2
import Derived.Test.YtkdffbdnjfgpeaaGreatY8
set_option linter.all false
namespace Go.Proofs.YtkdffbdnjfgpeaaGreat
open Go Go.RowKit Go.Proofs.Tryz
def Zu (n k:Int):Option Int:=if 4096 < n+k then none else some (n+k)
def Zx (g:Int→GT→Option (Int×Int)):List GT→Int→Int→Option (Int×Int)
 | [],d,n=>some (d,n)
 | x::l,d,n=>match g n x with
  | none=>none
  | some (d',n')=>Zx g l (max d d') n'
def YB (k:Int):List GV→Int→Int→Option (Int×Int)
 | [],d,n=>some (d,n)
 | x::l,d,n=>match Zu n (k*Zg x) with
  | none=>none
  | some n'=>YB k l (max d (Yx x)) n'
abbrev Env:=List (GT×Int)
def Xx (g:GT→Env→Int→Int→Option (Int×Int)) (t:GT) (m:Int) (up:Env) (k n:Int):Option (Int×Int):=
 match Zu n k with
 | none=>none
 | some n1=>if m=0 then (match t.a[0]? with|some x=>g x up k n1|none=>none) else (match t.a[1]? with|some x=>g x ((t,m - 1)::up) k n1|none=>none)
def ZcE:Option (Int×Int)→Option (Int×Int)
 | none=>none
 | some (d,n)=>some (1+d,n)
def wkT:Nat→GT→Env→Int→Int→Option (Int×Int)
 | 0,_,_,_,_=>none
 | f+1,t,e,k,n=>
  if t.k=1 then (match Zu n (k*Zg t.v) with|none=>none|some n'=>some (Yx t.v,n'))
  else if t.k=11 then (match e with|[]=>none|(t',m)::up=>Xx (wkT f) t' m up k n)
  else if t.k=10 then Xx (wkT f) t t.lo e k n
  else match Zu n k with
   | none=>none
   | some n1=>
    if t.k=2 then some (1,n1)
    else if t.k=4 then YB k t.vs 0 n1
    else if t.k=6 then (match Zx (fun n x=>wkT f x e (k*max 1 t.hi) n) t.a 0 n1 with|none=>none|some (d,n2)=>if t.hi=0 then some (1,n2) else some (1+d,n2))
    else if t.k=3∨t.k=9 then Zx (fun n x=>wkT f x e k n) t.a 0 n1
    else ZcE (Zx (fun n x=>wkT f x e k n) t.a 0 n1)
mutual
def Zp (inn:Bool):GT→Prop
 | ⟨k,v,vs,lo,hi,ws,p,l⟩=>ZG ⟨k,v,vs,lo,hi,ws,p,l⟩=0∧(k=11→inn=true)∧goodTs inn k 0 l
def goodTs (inn:Bool) (k:Int) (i:Nat):List GT→Prop
 | []=>True
 | x::l=>Zp (inn||ZU k i) x∧goodTs inn k (i+1) l
end
theorem Zk {inn:Bool} {t:GT}:Zp inn t↔ZG t=0∧(t.k=11→inn=true)∧goodTs inn t.k 0 t.a:=by cases t;simp only [Zp]
theorem goodTs.get {inn:Bool} {k:Int}:∀{l:List GT} {i:Nat},goodTs inn k i l→∀j (h:j < l.length),Zp (inn||ZU k (i+j)) l[j]
 | [],_,_,j,h=>absurd h sm
 | x::l,i,hx,0,_=>by simp only [goodTs] at hx;exact hx.1
 | x::l,i,hx,j+1,h=>by simp only [goodTs] at hx;have:=goodTs.get hx.2 j (by simpa using h);rw [show i+(j+1)=i+1+j by omega];exact this
mutual
theorem XL (mo:Int):∀(t:GT) (pl d:Int) (inn:Bool),(ZF pl d mo inn t).2=0→Zp inn t
 | ⟨k,v,vs,lo,hi,ws,p,l⟩,pl,d,inn,h=>by
  simp only [ZF] at h
  split at h
  ·simp at h
  split at h
  ·rename_i h1;exact absurd h h1
  rename_i h1
  split at h
  ·simp at h
  rename_i h2
  simp only [Zp]
  refine ⟨by simpa using h1,fun h3=>?_,Jf mo l _ _ inn k 0 h⟩
  cases inn
  ·exact absurd ⟨h3,rfl⟩ h2
  rfl
theorem Jf (mo:Int):∀(l:List GT) (pl d:Int) (inn:Bool) (k:Int) (i:Nat),(ZH pl d mo inn k i l).2=0→goodTs inn k i l
 | [],pl,d,inn,k,i,h=>by simp only [goodTs]
 | x::l,pl,d,inn,k,i,h=>by
  simp only [ZH] at h
  split at h
  ·rename_i h1;exact absurd h h1
  rename_i h1
  simp only [goodTs]
  exact ⟨XL mo x _ _ _ (by simpa using h1),Jf mo l _ _ _ _ _ h⟩
end
theorem Y9 {t:GT} (h:ZG t=0):(1≤t.k∧t.k≤11)∧Z6 t=0∧ZB t=0∧Ya t=0∧Zn t=0:=by
 unfold ZG at h
 (repeat' split at h)<;>simp_all<;>omega
theorem Wu {n a b:Int} (h:Xl n a b=0):a≤n∧n≤b:=by
 unfold Xl at h;(repeat' split at h)<;>simp_all<;>omega
theorem Yl {t:GT} (h:ZG t=0) (hk:t.k=10):t.a.length=2∧0≤t.lo∧t.lo≤8:=by
 obtain ⟨_,_,_,h1,h2⟩:=Y9 h
 simp only [Zn,Ya,hk] at h1 h2
 simp [Yi] at h1
 have:=Wu h2
 split at h1<;>omega
theorem WO {t:GT} (h:ZG t=0) (hk:t.k=6):t.a.length=1∧0≤t.lo∧t.lo≤t.hi∧t.hi≤16:=by
 obtain ⟨_,_,_,h1,h2⟩:=Y9 h
 simp only [Zn,Ya,hk] at h1 h2
 simp [Yi] at h1
 have:=Wu h2
 omega
def Ye (S:Nat):Env→Prop
 | []=>True
 | (t,m)::up=>Zp (!up.isEmpty) t∧t.k=10∧okT t∧Zb t≤S∧0≤m∧m≤8∧Ye S up
def REnv (w:World) (A:Nat→Prop):Env→Option Addr→Prop
 | [],a=>a=none
 | (t,m)::up,a=>∃b x a',a=some ⟨b,0,none⟩∧A b∧At w b 0 [.int .u8 t.k,.int .u8 t.v.k,.int .i64 t.v.n,.slice (TA.va x) t.v.l.length (TA.vc x),.slice (TA.vsa x) t.vs.length (TA.vsc x),.int .i64 t.lo,.int .i64 t.hi,
    .slice (TA.wa x) t.w.length (TA.wc x),.int .u8 t.p.k,.int .u8 t.p.v.k,.int .i64 t.p.v.n,.slice (TA.pva x) t.p.v.l.length (TA.pvc x),.int .i64 t.p.n,.slice (TA.pa x) t.p.a.length (TA.pc x),.slice (TA.a x) t.a.length (TA.c x),.int .i64 m,.pointer a'] ∧
   RT w A t x∧REnv w A up a'
theorem REnv.ext {w w':World} {A:Nat→Prop} (h:Agree A w w'):∀(e:Env) a,REnv w A e a→REnv w' A e a
 | [],_,hx=>hx
 | (t,m)::up,a,hx=>by
  simp only [REnv] at hx ⊢
  obtain ⟨b,x,a',e,hA,h0,h1,h2⟩:=hx
  exact ⟨b,x,a',e,hA,h0.ext h hA,Zt2 h t _ h1,REnv.ext h up _ h2⟩
abbrev Zua:=@REnv.ext
theorem Ko {w b c0 c1 c2 c3 c4 c5 c6 c7 c8 c9 ca cb cc cd ce cf cg}:At w b 0 [c0,c1,c2,c3,c4,c5,c6,c7,c8,c9,ca,cb,cc,cd,ce,cf,cg]↔w.cell? ⟨b,0,none⟩=some c0∧w.cell? ⟨b,1,none⟩=some c1∧w.cell? ⟨b,2,none⟩=some c2 ∧
  w.cell? ⟨b,3,none⟩=some c3∧w.cell? ⟨b,4,none⟩=some c4∧w.cell? ⟨b,5,none⟩=some c5∧w.cell? ⟨b,6,none⟩=some c6∧w.cell? ⟨b,7,none⟩=some c7∧w.cell? ⟨b,8,none⟩=some c8 ∧
  w.cell? ⟨b,9,none⟩=some c9∧w.cell? ⟨b,10,none⟩=some ca∧w.cell? ⟨b,11,none⟩=some cb∧w.cell? ⟨b,12,none⟩=some cc∧w.cell? ⟨b,13,none⟩=some cd∧w.cell? ⟨b,14,none⟩=some ce∧w.cell? ⟨b,15,none⟩=some cf∧w.cell? ⟨b,16,none⟩=some cg:=by
 simp only [At,Nat.add_assoc,Nat.reduceAdd,and_true,Nat.zero_add]
def Ctr (w:World) (c:Nat) (n:Int):Prop:=w.cell? ⟨c,0,none⟩=some (.int .i64 n)∧w.frozen? ⟨c,0,none⟩=false
def WkR (c:Nat) (w:World) (r:Option (Int×Int)):Ending→World→Prop:=fun e w'=>But c w.heap.size w w' ∧
 match r with
 | some (d,n)=>e=.returned (.int .i64 d)∧Ctr w' c n
 | none=>e=.panicked [{ v:=.iface 200 (.agg #[]),recovered:=false }]
def SpR (c:Nat) (w:World) (r:Option Int):Ending→World→Prop:=fun e w'=>But c w.heap.size w w' ∧
 match r with
 | some n=>e=.returned (.tuple #[])∧Ctr w' c n
 | none=>e=.panicked [{ v:=.iface 200 (.agg #[]),recovered:=false }]
theorem ZW (c:Nat) (n k:Int) (w:World) (hc:c < w.heap.size) (hn:0≤n∧n≤4096) (hk:0≤k∧k≤144115188075855872) (hl:Ctr w c n):
  Calls prog 215 #[.pointer (some ⟨c,0,none⟩),.int .i64 k] w (SpR c w (Zu n k)):=by
 obtain ⟨h1,h2⟩:=hl
 obtain ⟨n1,n2⟩:=hn
 obtain ⟨k1,k2⟩:=hk
 by_cases h:4096 < n+k
 ·rw [Zu,if_pos h]
  go_enter func215,ntmps215
  go_wp2_with fail
  exact ⟨rfl,Zt1,rfl⟩
 rw [Zu,if_neg h]
 go_enter func215,ntmps215
 go_wp2_with fail
 go_end0
 exact ⟨Zt1,rfl,gs,gs⟩
mutual
def UB (s:GT):GT→GT
 | ⟨k,v,vs,lo,hi,ws,p,l⟩=>if k=11 then s else ⟨k,v,vs,lo,hi,ws,p,YH s k 0 l⟩
def YH (s:GT) (k:Int) (i:Nat):List GT→List GT
 | []=>[]
 | x::l=>(if ZU k i=true then x else UB s x)::YH s k (i+1) l
end
theorem Jo (s t:GT):UB s t=if t.k=11 then s else ⟨t.k,t.v,t.vs,t.lo,t.hi,t.w,t.p,YH s t.k 0 t.a⟩:=by cases t;simp only [UB]
theorem Yb (s:GT) (k:Int):∀(l:List GT) (i:Nat),(YH s k i l).length=l.length
 | [],_=>by simp [YH]
 | x::l,i=>by simp [YH,Yb s k l (i+1)]
theorem ZcH (s:GT) (k:Int):∀(l:List GT) (i j:Nat) (h:j < l.length) (h':j < (YH s k i l).length),(YH s k i l)[j]=if ZU k (i+j)=true then l[j] else UB s l[j]
 | x::l,i,0,_,_=>by simp [YH]
 | x::l,i,j+1,h,h'=>by
  have:=ZcH s k l (i+1) j (by simpa using h) (by rw [Yb];simpa using h)
  simp only [YH,List.getElem_cons_succ]
  rw [this,show i+1+j=i+(j+1) by omega]
theorem ZbH (s:GT) (k:Int) (l:List GT) (j:Nat) (h:j < l.length):(YH s k 0 l).take (j+1)=(YH s k 0 l).take j++[if ZU k j=true then l[j] else UB s l[j]]:=by
 have h':j < (YH s k 0 l).length:=by rw [Yb];exact h
 rw [List.take_succ_eq_append_getElem h',ZcH s k l 0 j h h',Nat.zero_add]
theorem Zfi (k:Int) (v:GV) (vs:List GV) (lo hi:Int) (ws:List Int) (p:GP) (l l':List GT) (h:l'.length=l.length):ZG ⟨k,v,vs,lo,hi,ws,p,l'⟩=ZG ⟨k,v,vs,lo,hi,ws,p,l⟩:=by
 simp only [ZG,Z6,Vo,ZB,Vp,Ya,Zn,h]
mutual
theorem ZcG {b:Bool} {s:GT} (hs:Zp b s):∀(t:GT),Zp true t→Zp b (UB s t)
 | ⟨k,v,vs,lo,hi,ws,p,l⟩,h=>by
  simp only [UB]
  split
  ·exact hs
  rename_i hk
  simp only [Zp] at h ⊢
  refine ⟨?_,fun e=>absurd e hk,ZbG hs k l 0 h.2.2⟩
  rw [Zfi k v vs lo hi ws p l _ (Yb s k l 0)]
  exact h.1
theorem ZbG {b:Bool} {s:GT} (hs:Zp b s) (k:Int):∀(l:List GT) (i:Nat),goodTs true k i l→goodTs b k i (YH s k i l)
 | [],_,_=>by simp only [YH,goodTs]
 | x::l,i,h=>by
  simp only [goodTs,YH] at h ⊢
  refine ⟨?_,ZbG hs k l (i+1) h.2⟩
  cases hb:ZU k i
  ·have:=ZcG hs x (by simpa using h.1)
   simpa using this
  simpa using h.1
end
mutual
theorem Jp {s:GT} (hs:okT s):∀(t:GT),okT t→okT (UB s t)
 | ⟨k,v,vs,lo,hi,ws,p,l⟩,h=>by
  simp only [UB]
  split
  ·exact hs
  simp only [okT] at h ⊢
  obtain ⟨h1,h2,h3,h4,h5,h6,h7,h8,h9⟩:=h
  exact ⟨h1,h2,h3,h4,h5,h6,h7,by rw [Yb];exact h8,Zee hs k l 0 h9⟩
theorem Zee {s:GT} (hs:okT s) (k:Int):∀(l:List GT) (i:Nat),okTs l→okTs (YH s k i l)
 | [],_,_=>by simp only [YH,okTs]
 | x::l,i,h=>by
  simp only [okTs,YH] at h ⊢
  refine ⟨?_,Zee hs k l (i+1) h.2⟩
  split
  ·exact h.1
  exact Jp hs x h.1
end
def Qe (t:GT):GT:=⟨t.k,t.v,t.vs,t.lo - 1,t.hi,t.w,t.p,t.a⟩
theorem KP {t:GT} (hk:t.k=10) (hn:ZG t=0):0≤t.lo∧t.lo≤8∧t.a.length=2:=by
 unfold ZG at hn
 rw [if_neg om] at hn
 by_cases h1:Z6 t=0
 case neg=>rw [if_pos h1] at hn;exact absurd hn h1
 rw [if_neg (by simp [h1])] at hn
 by_cases h2:ZB t=0
 case neg=>rw [if_pos h2] at hn;exact absurd hn h2
 rw [if_neg (by simp [h2])] at hn
 by_cases h3:Ya t=0
 case neg=>rw [if_pos h3] at hn;exact absurd hn h3
 rw [if_neg (by simp [h3])] at hn
 unfold Ya at h3
 rw [if_neg om,if_neg om,if_neg om,if_pos hk] at h3
 unfold Zn Xl at hn
 rw [if_neg om,if_neg om,if_neg om,if_pos hk] at hn
 have hw:Yi t.lo 0 8=true:=by
  cases h:Yi t.lo 0 8
  ·simp [h] at h3
  rfl
 have hw':0≤t.lo∧t.lo≤8:=by simpa [Yi] using hw
 refine ⟨hw'.1,hw'.2,?_⟩
 split at hn
 ·omega
 split at hn
 ·omega
 omega
theorem ZgS {t:GT} (hk:t.k=10) (hl:t.lo≠0) (hn:ZG t=0):ZG (Qe t)=0:=by
 obtain ⟨h0,h1,_⟩:=KP hk hn
 obtain ⟨k,v,vs,lo,hi,ws,p,l⟩:=t
 dsimp only at hk hl h0 h1
 subst hk
 have e1:Yi lo 0 8=true:=by simp [Yi];omega
 have e2:Yi (lo - 1) 0 8=true:=by simp [Yi];omega
 have:Ya ⟨10,v,vs,lo - 1,hi,ws,p,l⟩=Ya ⟨10,v,vs,lo,hi,ws,p,l⟩:=by simp [Ya,e1,e2]
 simp only [ZG,Qe,Z6,Vo,ZB,Vp,Zn] at hn ⊢
 rw [this]
 exact hn
theorem ZgR {t:GT} {b:Bool} (hk:t.k=10) (hl:t.lo≠0) (hg:Zp b t):Zp b (Qe t):=by
 have h:=Zk.1 hg
 exact Zk.2 ⟨ZgS hk hl h.1,h.2.1,h.2.2⟩
theorem ZaL {t:GT} (h0:0 < t.lo) (h:okT t):okT (Qe t):=by
 obtain ⟨h1,h2,h3,⟨h4,h4'⟩,h5⟩:=Ze.1 h
 exact Ze.2 ⟨h1,h2,h3,⟨by show _≤t.lo - 1;omega,by show t.lo - 1≤_;omega⟩,h5⟩
def YY (t:GT) (a b:GT):GT:=if t.lo=0 then a else UB (Qe t) b
theorem UE {t:GT} (hk:t.k=10) (hg:Zp false t) (h2:1 < t.a.length):Zp false (YY t t.a[0] t.a[1]):=by
 have h:=Zk.1 hg
 have g0:=h.2.2.get 0 om
 have g1:=h.2.2.get 1 h2
 unfold YY
 split
 ·simpa [ZU] using g0
 rename_i hl
 exact ZcG (ZgR hk hl hg) _ (by simpa [ZU,hk] using g1)
theorem YE {v:GV} (h:ZQ v=0):Zg v≤4096:=by
 unfold ZQ at h
 split at h
 ·omega
 split at h
 ·omega
 split at h
 ·omega
 omega
def ZhB (M:Int) (w:World) (e:Ending) (w':World):Prop:=(∃r:Int,e=.returned (.int .i64 r)∧1≤r∧r≤M+1)∧Below w.heap.size w w'
theorem UR {t:GT} (hn:ZG t=0):Wg t=0∧ZB t=0∧Ya t=0∧Zn t=0∧Vo t=0∧1≤t.k∧t.k≤11:=by
 unfold ZG at hn
 by_cases hk:t.k < 1∨11 < t.k
 ·rw [if_pos hk] at hn;omega
 rw [if_neg hk] at hn
 by_cases h1:Z6 t=0
 case neg=>rw [if_pos h1] at hn;exact absurd hn h1
 rw [if_neg (by simp [h1])] at hn
 by_cases h2:ZB t=0
 case neg=>rw [if_pos h2] at hn;exact absurd hn h2
 rw [if_neg (by simp [h2])] at hn
 by_cases h3:Ya t=0
 case neg=>rw [if_pos h3] at hn;exact absurd hn h3
 rw [if_neg (by simp [h3])] at hn
 have hv:=Qc t
 rw [h1] at hv
 by_cases h4:Wg t=0
 case neg=>rw [if_pos h4] at hv;omega
 rw [if_neg (by simp [h4])] at hv
 exact ⟨h4,h2,h3,hn,hv.symm,om,om⟩
theorem Zgp {n a b:Int} (h:Xl n a b=0):a≤n∧n≤b:=by
 unfold Xl at h
 split at h
 ·omega
 split at h
 ·omega
 omega
theorem Zh6 {l:List Int} (h:Yc l=0):l.length≤64:=by
 unfold Yc at h
 split at h
 ·omega
 split at h
 ·omega
 omega
theorem Zaf:∀(l:List GV),YA l=0→∀j (hj:j < l.length),ZQ l[j]=0
 | [],_,j,hj=>absurd hj sm
 | x::l,h,j,hj=>by
  unfold YA at h
  by_cases hx:ZQ x=0
  ·rw [if_neg (by simp [hx])] at h
   cases j with
   | zero=>exact hx
   | succ j=>exact Zaf l h j (by simpa using hj)
  rw [if_pos hx] at h;exact absurd h hx
theorem Zdy {t:GT} (hk:t.k=4) (hn:ZG t=0):t.vs.length≤64∧∀j (hj:j < t.vs.length),ZQ t.vs[j]=0:=by
 obtain ⟨_,h2,_,h4,h5,_,_⟩:=UR hn
 unfold Vo at h5
 rw [if_neg om] at h5
 unfold ZB at h2
 rw [if_neg om] at h2
 have h6:Vp t=0:=by
  split at h2
  ·exact h2
  omega
 unfold Vp at h6
 rw [if_neg om] at h6
 have h7:=Zh6 h6
 unfold Zn at h4
 rw [if_neg om,if_neg om,if_neg om,if_neg om,if_pos hk] at h4
 have h8:Xl (t.vs.length:Int) (t.w.length:Int) (t.w.length:Int)=0:=by
  split at h4
  ·omega
  omega
 have:=Zgp h8
 exact ⟨om,Zaf _ h5⟩
theorem Zip {t:GT} (hk:t.k=6) (hn:ZG t=0):t.a.length=1∧0≤t.lo∧t.hi≤16∧0≤t.hi:=by
 obtain ⟨_,_,h3,h4,_,_,_⟩:=UR hn
 unfold Ya at h3
 rw [if_neg om,if_pos hk] at h3
 unfold Zn at h4
 rw [if_neg om,if_neg om,if_pos om] at h4
 have:=Zgp h4
 have h9:(Yi t.lo 0 t.hi&&Yi t.hi t.lo 16)=true:=by
  split at h3
  ·assumption
  omega
 simp [Yi] at h9
 omega
theorem JF {t:GT} (hk:t.k=1) (hn:ZG t=0):ZQ t.v=0:=by
 have:=(UR hn).1
 unfold Wg at this
 rw [if_pos hk] at this
 exact this
end Go.Proofs.YtkdffbdnjfgpeaaGreat
