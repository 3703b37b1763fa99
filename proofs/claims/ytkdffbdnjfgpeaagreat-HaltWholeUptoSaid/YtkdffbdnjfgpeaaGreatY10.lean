/- Part 11. -/
import Derived.Deep.RegionWith
import Derived.WalkArith
import Derived.Test.YtkdffbdnjfgpeaaGreatY7
import Derived.Test.YtkdffbdnjfgpeaaGreatY9
set_option linter.all false
namespace Go.Proofs.YtkdffbdnjfgpeaaGreat
open Go.Lib (hid)
open Go Go.RowKit Go.Proofs.Tryz
def Vq (a b:Int):Int:=if a < b then -1 else if a=b then 0 else 1
mutual
def Vj:GV→GV→Int
 | ⟨k,n,l⟩,⟨k',n',l'⟩=>if k=k' then (if k=1∨k=2 then Vq n n' else if k=3∨k=4 then Ud l l' else 0) else Vq k k'
def Ud:List GV→List GV→Int
 | [],[]=>0
 | [],_::_=> -1
 | _::_,[]=>1
 | x::l,y::l'=>if Vj x y=0 then Ud l l' else Vj x y
end
theorem Zgi (x y:GV):Vj x y=if x.k=y.k then (if x.k=1∨x.k=2 then Vq x.n y.n else if x.k=3∨x.k=4 then Ud x.l y.l else 0) else Vq x.k y.k:=by cases x;cases y;simp only [Vj]
def Ua (v:GV):Bool:=v.k==3||v.k==4
mutual
def Zh:GP→GV→Bool
 | ⟨k,u,n,l⟩,v=>
  if k=1 then true else if k=2 then false
  else if k=3 then XX v u else if k=4 then decide (Vj v u < 0)
  else if k=5 then !(Xz l v)
  else if k=6 then XM false l v else if k=7 then XM true l v
  else if k=8 then (if Ua v=true then (match v.l[n.toNat]? with|some x=>Xz l x|none=>false) else false)
  else if k=9 then (if Ua v=true then v.l.all (fun x=>Xz l x) else false)
  else if k=10 then (if Ua v=true then v.l.any (fun x=>Xz l x) else false)
  else (if Ua v=true then Xz l ⟨1,v.l.length,[]⟩ else false)
def Xz:List GP→GV→Bool
 | [],_=>false
 | p::_,v=>Zh p v
def XM (is:Bool):List GP→GV→Bool
 | [],_=> !is
 | p::l,v=>if Zh p v=is then is else XM is l v
end
inductive Res (α:Type) where
 | ok (a:α) (i:Nat)
 | no (k:Nat)
def Res.bind {α β:Type}:Res α→(α→Nat→Res β)→Res β
 | .ok a i,g=>g a i
 | .no k,_=>.no k
def Res.map {α β:Type} (g:α→β):Res α→Res β
 | .ok a i=>.ok (g a) i
 | .no k=>.no k
def ZN (s:ByteArray) (m i:Nat):Option Nat×Nat:=YX s m (Z7 m) (s.size+1 - i) i
def Y2 {α:Type}:Option α×Nat→Res α
 | (some v,j)=>.ok v j
 | (none,_)=>.no 2
def K8 (s:ByteArray) (m i:Nat):Res Nat:=Y2 (ZN s m i)
def WK (s:ByteArray) (lo hi:Int) (i:Nat):Res Int:=(K8 s (hi - lo+1).toNat i).map (fun (v:Nat)=>lo+(v:Int))
def Qu (l:List Int) (r:Int):Nat:=l.findIdx (fun u=>decide (r < u))
def VS (s:ByteArray) (w:List Int) (i:Nat):Option Nat×Nat:=
 match ZN s (Zj w).toNat i with
 | (some r,j)=>(some (Qu (Yy 0 w) r),j)
 | (none,j)=>(none,j)
structure AT where
 c:List Int
 o:List Int
 h:List Int
 lo:List Int
 hi:List Int
def Yr (S m:Int):List Int→Int→AT→AT
 | [],_,t=>t
 | x::r,i,t=>Yr S m r (i+1) (if m*x < S then ⟨t.c++[S],t.o++[i],t.h++[m*x],t.lo++[i],t.hi⟩ else ⟨t.c++[S],t.o++[i],t.h++[m*x],t.lo,t.hi++[i]⟩)
def ZM (S:Int) (t:AT) (l h:Int):AT:=
 let hl:=t.h.getD l.toNat 0
 let hh:=t.h.getD h.toNat 0 - (S - hl)
 let c:=t.c.set l.toNat hl
 let o:=t.o.set l.toNat h
 let g:=t.h.set h.toNat hh
 if hh < S then ⟨c,o,g,t.lo.dropLast++[h],t.hi.dropLast⟩ else ⟨c,o,g,t.lo.dropLast,t.hi⟩
def YF (S:Int):Nat→AT→AT
 | 0,t=>t
 | f+1,t=>match t.lo.getLast?,t.hi.getLast? with
  | some l,some h=>YF S f (ZM S t l h)
  | _,_=>t
def Zy (w:List Int):AT:=YF (Zj w) (2*w.length+1) (Yr (Zj w) w.length w 0 ⟨[],[],[],[],[]⟩)
def Xc (w:List Int) (i:Nat) (r:Int):Nat:=if r < (Zy w).c.getD i 0 then i else ((Zy w).o.getD i 0).toNat
def Ys (s:ByteArray) (w:List Int) (i:Nat):Option Nat×Nat:=
 match ZN s w.length i with
 | (none,j)=>(none,j)
 | (some a,j)=>match ZN s (Zj w).toNat j with
  | (none,q)=>(none,q)
  | (some r,q)=>(some (Xc w a r),q)
def Zt (n:Nat):List Int:=(List.range n).map (fun (i:Nat)=>(i:Int))
def ZI (s:ByteArray):Nat→Nat→Option (List Int)×Nat
 | 0,i=>(some [],i)
 | n+1,i=>match ZN s (n+2) i with
  | (none,j)=>(none,j)
  | (some v,j)=>match ZI s n j with
   | (none,q)=>(none,q)
   | (some l,q)=>(some ((v:Int)::l),q)
def JD (l:List Int) (i j:Nat):List Int:=(l.set i (l.getD j 0)).set j (l.getD i 0)
def Y7:List Int→List Int→List Int
 | [],row=>row
 | j::l,row=>Y7 l (JD row (l.length+1) j.toNat)
def Xi (s:ByteArray) (n i:Nat):Option (List Int)×Nat:=
 match ZI s (n - 1) i with
 | (none,j)=>(none,j)
 | (some l,j)=>(some (if n=0 then [] else Y7 l (Zt (l.length+1))),j)
def ZJ (s:ByteArray):Nat→Nat→Nat→Option (List Int)×Nat
 | 0,_,i=>(some [],i)
 | n+1,m,i=>match ZN s (m+1) i with
  | (none,j)=>(none,j)
  | (some v,j)=>match ZJ s n (m+1) j with
   | (none,q)=>(none,q)
   | (some l,q)=>(some ((v:Int)::l),q)
def XO (k:Nat):List Int→Nat→List Int→List Int
 | [],_,row=>row
 | j::l,i,row=>XO k l (i+1) (if j < k then row.set j.toNat (i:Int) else row)
def leI (a b:Int):Bool:=decide (a≤b)
def WU (k:Nat) (js:List Int):List Int:=(XO k js k (Zt k)).mergeSort leI
def Xm (s:ByteArray) (k n i:Nat):Option (List Int)×Nat:=
 match ZJ s (n - k) k i with
 | (none,j)=>(none,j)
 | (some l,j)=>(some (WU k l),j)
def Xt {α β:Type} (g:α→Nat→Res β):List α→Nat→Res (List β)
 | [],i=>.ok [] i
 | x::l,i=>(g x i).bind fun v j=>(Xt g l j).map (fun r=>v::r)
def QF {β:Type} (g:Nat→Res β):Nat→Nat→Res (List β)
 | 0,i=>.ok [] i
 | n+1,i=>(g i).bind fun v j=>(QF g n j).map (fun r=>v::r)
def WD (g:Nat→Res GV) (p:GP):Nat→Nat→Res GV
 | 0,_=>.no 3
 | f+1,i=>(g i).bind fun v j=>if Zh p v=true then .ok v j else if j=i then .no 3 else WD g p f j
def atD {α β:Type} (g:α→Nat→Res β) (l:List α) (n i:Nat):Res β:=match l[n]? with|some x=>g x i|none=>.no 3
def YC {α:Type} (l:List α) (row:List Int):List α:=row.filterMap (fun i=>l[i.toNat]?)
def Wd (g:GT→Env→Nat→Res GV) (t:GT) (m:Int) (up:Env) (i:Nat):Res GV:=
 if m=0 then atD (fun x=>g x up) t.a 0 i else atD (fun x=>g x ((t,m - 1)::up)) t.a 1 i
def Zd (s:ByteArray):Nat→GT→Env→Nat→Res GV
 | 0,_,_,_=>.no 3
 | f+1,t,e,i=>
  if t.k=1 then .ok t.v i
  else if t.k=2 then (WK s t.lo t.hi i).map (fun n=>⟨1,n,[]⟩)
  else if t.k=3 then (Y2 (VS s t.w i)).bind fun k j=>atD (fun x=>Zd s f x e) t.a k j
  else if t.k=4 then (Y2 (Ys s t.w i)).bind fun k j=>atD (fun v j=>.ok v j) t.vs k j
  else if t.k=5 then (Xt (fun x=>Zd s f x e) t.a i).map (fun l=>⟨3,0,l⟩)
  else if t.k=6 then (WK s t.lo t.hi i).bind fun n j=>(QF (fun j=>atD (fun x=>Zd s f x e) t.a 0 j) n.toNat j).map (fun l=>⟨4,0,l⟩)
  else if t.k=7 then (Xt (fun x=>Zd s f x e) t.a i).bind fun l j=>(Y2 (Xi s l.length j)).map (fun row=>⟨4,0,YC l row⟩)
  else if t.k=8 then (Y2 (Xm s t.lo.toNat t.a.length i)).bind fun row j=>(Xt (fun x=>Zd s f x e) (YC t.a row) j).map (fun l=>⟨4,0,l⟩)
  else if t.k=9 then WD (fun j=>atD (fun x=>Zd s f x e) t.a 0 j) t.p (s.size+1 - i) i
  else if t.k=11 then (match e with|[]=>.no 3|(t',m)::up=>Wd (Zd s f) t' m up i)
  else Wd (Zd s f) t t.lo e i
theorem Kw {t:GT} (h:ZG t=0) (hk:t.k=2): -1099511627776≤t.lo∧t.lo≤t.hi∧t.hi≤1099511627776:=by
 obtain ⟨_,_,_,h1,h2⟩:=Y9 h
 simp only [Ya,hk] at h1
 simp [Yi] at h1
 omega
theorem Zah:∀(l:List Int) (s:Int),YM s l=0→okW l∧s+Zj l≠0
 | [],s,h=>by
  simp only [YM] at h
  split at h
  ·simp at h
  exact ⟨fun x hx=>by simp at hx,by simpa [Zj]⟩
 | x::l,s,h=>by
  simp only [YM] at h
  split at h
  ·simp at h
  rename_i hx
  obtain ⟨h1,h2⟩:=Zah l (s+x) h
  refine ⟨fun y hy=>?_,by simp only [Zj];omega⟩
  rcases List.mem_cons.1 hy with rfl|hy
  ·omega
  exact h1 y hy
theorem Y0 {l:List Int} (h:Yc l=0):1≤l.length∧l.length≤64∧okW l∧1≤Zj l∧Zj l≤67108864:=by
 unfold Yc at h
 split at h
 ·simp at h
 split at h
 ·simp at h
 obtain ⟨h1,h2⟩:=Zah l 0 h
 obtain ⟨h3,h4⟩:=WX l h1
 exact ⟨om,om,h1,om,om⟩
theorem Jk {t:GT} (h:ZG t=0) (hk:t.k=3∨t.k=4):Yc t.w=0:=by
 obtain ⟨_,_,h0,_,_⟩:=Y9 h
 unfold ZB Vp at h0
 rcases hk with hk|hk
 all_goals simp only [hk] at h0
 all_goals (repeat' split at h0)<;>simp_all
theorem JU {t:GT} (h:ZG t=0) (hk:t.k=3):t.a.length=t.w.length∧Yc t.w=0:=by
 obtain ⟨_,_,_,_,h2⟩:=Y9 h
 simp only [Zn,hk] at h2
 simp at h2
 have:=Wu h2
 exact ⟨om,Jk h (.inl hk)⟩
theorem Kv {t:GT} (h:ZG t=0) (hk:t.k=4):t.vs.length=t.w.length∧Yc t.w=0∧t.a.length=0:=by
 obtain ⟨_,_,_,_,h2⟩:=Y9 h
 simp only [Zn,hk] at h2
 simp at h2
 split at h2
 ·rename_i h3
  have h4:=Wu h2
  have h5:=Wu h3
  exact ⟨om,Jk h (.inr hk),om⟩
 rename_i h3;exact absurd h2 h3
theorem Wt {t:GT} (h:ZG t=0) (hk:t.k=5∨t.k=7∨t.k=8):t.a.length≤64:=by
 obtain ⟨_,_,_,_,h2⟩:=Y9 h
 rcases hk with hk|hk|hk
 all_goals simp only [Zn,hk] at h2
 all_goals simp at h2
 all_goals have:=Wu h2
 all_goals omega
theorem JV {t:GT} (h:ZG t=0) (hk:t.k=8):0≤t.lo∧t.lo≤t.a.length:=by
 obtain ⟨_,_,_,h1,_⟩:=Y9 h
 simp only [Ya,hk] at h1
 simp [Yi] at h1
 split at h1<;>simp_all
theorem Zap {t:GT} (h:ZG t=0) (hk:t.k=9):t.a.length=1∧Xo t.p=true:=by
 obtain ⟨_,_,h0,_,h2⟩:=Y9 h
 simp only [Zn,hk] at h2
 simp at h2
 have:=Wu h2
 refine ⟨om,?_⟩
 simp only [ZB,hk] at h0
 simp at h0
 split at h0
 ·rename_i h3;simp [Xo,h3]
 rename_i h3;exact absurd h0 h3
def Res.In {α:Type} (C:α→Prop) (i m:Nat):Res α→Prop
 | .ok a j=>i≤j∧j≤m∧C a
 | .no k=>k=2∨k=3
theorem Res.In.bind {α β:Type} {C:α→Prop} {D:β→Prop} {i m:Nat} {r:Res α} {g:α→Nat→Res β} (h:r.In C i m) (hg:∀a j,i≤j→j≤m→C a→(g a j).In D j m):(r.bind g).In D i m:=by
 cases r with
 | no k=>exact h
 | ok a j=>
  obtain ⟨h1,h2,h3⟩:=h
  have h4:=hg a j h1 h2 h3
  simp only [Res.bind]
  cases hr:g a j with
  | no k=>rw [hr] at h4;exact h4
  | ok b q=>rw [hr] at h4;exact ⟨by have:=h4.1;omega,h4.2.1,h4.2.2⟩
theorem Res.In.map {α β:Type} {C:α→Prop} {D:β→Prop} {i m:Nat} {r:Res α} {g:α→β} (h:r.In C i m) (hg:∀a,C a→D (g a)):(r.map g).In D i m:=by
 cases r with
 | no k=>exact h
 | ok a j=>exact ⟨h.1,h.2.1,hg a h.2.2⟩
theorem Res.In.mono {α:Type} {C D:α→Prop} {i m:Nat} {r:Res α} (h:r.In C i m) (hg:∀a,C a→D a):r.In D i m:=by
 cases r with
 | no k=>exact h
 | ok a j=>exact ⟨h.1,h.2.1,hg a h.2.2⟩
theorem Yk (s:ByteArray) (m i:Nat) (h:i≤s.size):i≤(ZN s m i).2∧(ZN s m i).2≤s.size∧∀v,(ZN s m i).1=some v→v < m:=Kd s m _ _ i h
theorem Qt {α:Type} {C:α→Prop} {i m:Nat} {r:Option α×Nat} (h1:i≤r.2) (h2:r.2≤m) (h3:∀v,r.1=some v→C v):(Y2 r).In C i m:=by
 obtain ⟨a,j⟩:=r
 cases a with
 | none=>exact .inl rfl
 | some v=>exact ⟨h1,h2,h3 v rfl⟩
theorem ZhY (s:ByteArray) (m i:Nat) (h:i≤s.size):(K8 s m i).In (fun v=>v < m) i s.size:=by
 obtain ⟨h1,h2,h3⟩:=Yk s m i h
 exact Qt h1 h2 h3
theorem Zdg (s:ByteArray) (lo hi:Int) (i:Nat) (h:i≤s.size) (hl:lo≤hi):(WK s lo hi i).In (fun n=>lo≤n∧n≤hi) i s.size:=
 (ZhY s _ i h).map fun v hv=>om
theorem VH (l:List Int):∀(s:Int) (j:Nat) (h:j < (Yy s l).length),(Yy s l)[j]=s+Zj (l.take (j+1)):=by
 induction l with
 | nil=>intro s j h;simp [Yy] at h
 | cons x l ih=>
  intro s j h
  cases j with
  | zero=>simp [Yy,Zj]
  | succ j=>
   simp only [Yy,List.getElem_cons_succ,List.take_succ_cons,Zj]
   rw [ih (s+x) j (by simpa [Yy] using h)]
   omega
theorem Zis (l:List Int) (r:Int) (hl:1≤l.length) (hr:r < Zj l):Qu (Yy 0 l) r < l.length:=by
 have h:(Yy 0 l).length=l.length:=Vw 0 l
 unfold Qu
 rw [←h]
 refine List.findIdx_lt_length_of_exists ⟨(Yy 0 l)[l.length - 1]'om,List.getElem_mem _,?_⟩
 rw [VH]
 simp only [decide_eq_true_eq]
 rw [show l.length - 1+1=l.length by omega,List.take_length]
 omega
theorem Zbi (s:ByteArray) (w:List Int) (i:Nat) (h:i≤s.size) (hw:Yc w=0):i≤(VS s w i).2∧(VS s w i).2≤s.size∧∀v,(VS s w i).1=some v→v < w.length:=by
 obtain ⟨h1,h2,h3,h4,h5⟩:=Y0 hw
 obtain ⟨a,b,c⟩:=Yk s (Zj w).toNat i h
 unfold VS
 cases hd:ZN s (Zj w).toNat i with
 | mk v j=>
  rw [hd] at a b c
  cases v with
  | none=>exact ⟨a,b,fun v hv=>by simp at hv⟩
  | some r=>
   refine ⟨a,b,fun v hv=>?_⟩
   simp at hv
   subst hv
   have:=c r rfl
   exact Zis w r h1 om
theorem Uo {n:Nat} {x:Int} (h:x∈Zt n):0≤x∧x < n:=by
 simp only [Zt,List.mem_map,List.mem_range] at h
 obtain ⟨a,h1,rfl⟩:=h
 omega
theorem Zs (n:Nat):(Zt n).length=n:=by simp [Zt]
def JP:List Int→Prop
 | []=>True
 | j::l=>(0≤j∧j≤l.length+1)∧JP l
def Zhv:Nat→List Int→Prop
 | _,[]=>True
 | m,j::l=>(0≤j∧j≤m)∧Zhv (m+1) l
theorem Vt (s:ByteArray):∀(n i:Nat),i≤s.size→i≤(ZI s n i).2∧(ZI s n i).2≤s.size∧∀l,(ZI s n i).1=some l→l.length=n∧JP l
 | 0,i,h=>⟨Nat.le_refl _,h,fun l hl=>by simp [ZI] at hl;subst hl;exact ⟨rfl,trivial⟩⟩
 | n+1,i,h=>by
  obtain ⟨a,b,c⟩:=Yk s (n+2) i h
  rw [ZI]
  cases hd:ZN s (n+2) i with
  | mk v j=>
   rw [hd] at a b c
   cases v with
   | none=>exact ⟨a,b,fun l hl=>by simp at hl⟩
   | some v=>
    obtain ⟨a2,b2,c2⟩:=Vt s n j b
    simp only []
    cases hr:ZI s n j with
    | mk r q=>
     rw [hr] at a2 b2 c2
     simp only [] at a b a2 b2
     cases r with
     | none=>exact ⟨by simp;omega,by simp;omega,fun l hl=>by simp at hl⟩
     | some r=>
      refine ⟨by simp;omega,by simp;omega,fun l hl=>?_⟩
      simp at hl
      subst hl
      obtain ⟨d1,d2⟩:=c2 r rfl
      have:=c v rfl
      exact ⟨by simp [d1],⟨om,om⟩,d2⟩
theorem Vu (s:ByteArray):∀(n m i:Nat),i≤s.size→i≤(ZJ s n m i).2∧(ZJ s n m i).2≤s.size∧∀l,(ZJ s n m i).1=some l→l.length=n∧Zhv m l
 | 0,m,i,h=>⟨Nat.le_refl _,h,fun l hl=>by simp [ZJ] at hl;subst hl;exact ⟨rfl,trivial⟩⟩
 | n+1,m,i,h=>by
  obtain ⟨a,b,c⟩:=Yk s (m+1) i h
  rw [ZJ]
  cases hd:ZN s (m+1) i with
  | mk v j=>
   rw [hd] at a b c
   cases v with
   | none=>exact ⟨a,b,fun l hl=>by simp at hl⟩
   | some v=>
    obtain ⟨a2,b2,c2⟩:=Vu s n (m+1) j b
    simp only []
    cases hr:ZJ s n (m+1) j with
    | mk r q=>
     rw [hr] at a2 b2 c2
     simp only [] at a b a2 b2
     cases r with
     | none=>exact ⟨by simp;omega,by simp;omega,fun l hl=>by simp at hl⟩
     | some r=>
      refine ⟨by simp;omega,by simp;omega,fun l hl=>?_⟩
      simp at hl
      subst hl
      obtain ⟨d1,d2⟩:=c2 r rfl
      have:=c v rfl
      exact ⟨by simp [d1],⟨om,om⟩,d2⟩
theorem Zbj {l:List Int} {i:Nat} (h:i < l.length):l.getD i 0∈l:=by
 simp only [List.getD_eq_getElem?_getD,List.getElem?_eq_getElem h,Option.getD_some]
 exact List.getElem_mem h
theorem ZiI {C:Int→Prop} {l:List Int} {i j:Nat} (hi:i < l.length) (hj:j < l.length) (h:∀x∈l,C x):(JD l i j).length=l.length∧∀x∈JD l i j,C x:=by
 refine ⟨by simp [JD],fun x hx=>?_⟩
 unfold JD at hx
 rcases List.mem_or_eq_of_mem_set hx with hx|rfl
 ·rcases List.mem_or_eq_of_mem_set hx with hx|rfl
  ·exact h x hx
  exact h _ (Zbj hj)
 exact h _ (Zbj hi)
theorem QX {C:Int→Prop}:∀(l row:List Int),(∀x∈row,C x)→l.length+1≤row.length→JP l→(Y7 l row).length=row.length∧∀x∈Y7 l row,C x
 | [],row,h,_,_=>⟨rfl,h⟩
 | j::l,row,h,h1,⟨h2,h3⟩=>by
  simp only [List.length_cons] at h1
  obtain ⟨a,b⟩:=ZiI (i:=l.length+1) (j:=j.toNat) om om h
  obtain ⟨c,d⟩:=QX l (JD row (l.length+1) j.toNat) b om h3
  exact ⟨by rw [Y7,c,a],by rw [Y7];exact d⟩
theorem ZbD (s:ByteArray) (n i:Nat) (h:i≤s.size):i≤(Xi s n i).2∧(Xi s n i).2≤s.size∧∀l,(Xi s n i).1=some l→l.length=n∧∀x∈l,0≤x∧x < n:=by
 obtain ⟨a,b,c⟩:=Vt s (n - 1) i h
 unfold Xi
 cases hd:ZI s (n - 1) i with
 | mk v j=>
  rw [hd] at a b c
  cases v with
  | none=>exact ⟨a,b,fun v hv=>by simp at hv⟩
  | some r=>
   refine ⟨a,b,fun v hv=>?_⟩
   simp at hv
   subst hv
   obtain ⟨c1,c2⟩:=c r rfl
   split
   ·rename_i h0;exact ⟨by simp [h0],fun x hx=>by simp at hx⟩
   obtain ⟨d1,d2⟩:=QX (C:=fun x=>0≤x∧x < (n:Int)) r (Zt (r.length+1)) (fun x hx=>by have:=Uo hx;omega) (by rw [Zs];exact Nat.le_refl _) c2
   exact ⟨by rw [d1,Zs];omega,d2⟩
theorem QZ (k:Nat):∀(l:List Int) (i:Nat) (row:List Int),(∀x∈row,0≤x∧x < (i:Int))→Zhv i l→(XO k l i row).length=row.length∧∀x∈XO k l i row,0≤x∧x < ((i+l.length:Nat):Int)
 | [],i,row,h,_=>⟨rfl,h⟩
 | j::l,i,row,h,⟨h2,h3⟩=>by
  have key:∀row':List Int,row'.length=row.length→(∀x∈row',0≤x∧x < ((i+1:Nat):Int))→(XO k l (i+1) row').length=row.length∧∀x∈XO k l (i+1) row',0≤x∧x < ((i+(j::l).length:Nat):Int):=fun row' e hm=>by
   obtain ⟨a,b⟩:=QZ k l (i+1) row' hm h3
   refine ⟨om,fun x hx=>?_⟩
   have:=b x hx
   simp only [List.length_cons]
   omega
  rw [XO]
  split
  ·refine key _ sm fun x hx=>?_
   rcases List.mem_or_eq_of_mem_set hx with hx|rfl
   ·have:=h x hx;omega
   omega
  exact key _ rfl fun x hx=>by have:=h x hx;omega
theorem ZbE (s:ByteArray) (k n i:Nat) (h:i≤s.size) (hk:k≤n):i≤(Xm s k n i).2∧(Xm s k n i).2≤s.size∧∀l,(Xm s k n i).1=some l→l.length=k∧∀x∈l,0≤x∧x < n:=by
 obtain ⟨a,b,c⟩:=Vu s (n - k) k i h
 unfold Xm
 cases hd:ZJ s (n - k) k i with
 | mk v j=>
  rw [hd] at a b c
  cases v with
  | none=>exact ⟨a,b,fun v hv=>by simp at hv⟩
  | some r=>
   refine ⟨a,b,fun v hv=>?_⟩
   simp at hv
   subst hv
   obtain ⟨c1,c2⟩:=c r rfl
   obtain ⟨d1,d2⟩:=QZ k r k (Zt k) (fun x hx=>Uo hx) c2
   unfold WU
   refine ⟨by rw [List.length_mergeSort,d1,Zs],fun x hx=>?_⟩
   have:=d2 x ((List.mergeSort_perm _ _).mem_iff.1 hx)
   omega
structure AT.Ok (n:Nat) (t:AT):Prop where
 c:t.c.length=n
 o:t.o.length=n
 m:∀x∈t.o,0≤x∧x < (n:Int)
 h:t.h.length=n
 lo:∀x∈t.lo,0≤x∧x < (n:Int)
 hi:∀x∈t.hi,0≤x∧x < (n:Int)
theorem KZ (S m:Int) (N:Nat):∀(l:List Int) (i:Nat) (t:AT),t.Ok i→i+l.length=N→(Yr S m l i t).Ok N
 | [],i,t,h,e=>by simp at e;subst e;exact h
 | x::l,i,t,h,e=>by
  have hm:∀(L:List Int),(∀x∈L,0≤x∧x < (i:Int))→∀x∈L++[(i:Int)],0≤x∧x < ((i+1:Nat):Int):=fun L hL x hx=>by
   rcases List.mem_append.1 hx with hx|hx
   ·have:=hL x hx;omega
   simp at hx;omega
  have hm2:∀(L:List Int),(∀x∈L,0≤x∧x < (i:Int))→∀x∈L,0≤x∧x < ((i+1:Nat):Int):=fun L hL x hx=>by have:=hL x hx;omega
  rw [Yr]
  have e1:(i:Int)+1=((i+1:Nat):Int):=om
  simp only [e1]
  refine KZ S m N l (i+1) _ ?_ (by simp at e;omega)
  split
  ·exact ⟨by simp [h.c],by simp [h.o],hm _ h.m,by simp [h.h],hm _ h.lo,hm2 _ h.hi⟩
  exact ⟨by simp [h.c],by simp [h.o],hm _ h.m,by simp [h.h],hm2 _ h.lo,hm _ h.hi⟩
theorem WA {S:Int} {N:Nat} {t:AT} {l h:Int} (ht:t.Ok N) (hh:0≤h∧h < (N:Int)):(ZM S t l h).Ok N:=by
 have hd:∀L:List Int,(∀x∈L,0≤x∧x < (N:Int))→∀x∈L.dropLast,0≤x∧x < (N:Int):=fun L hL x hx=>hL x (List.dropLast_subset L hx)
 have ho:∀x∈t.o.set l.toNat h,0≤x∧x < (N:Int):=fun x hx=>by
  rcases List.mem_or_eq_of_mem_set hx with hx|rfl
  ·exact ht.m x hx
  exact hh
 unfold ZM
 simp only []
 split
 ·refine ⟨by simp [ht.c],by simp [ht.o],ho,by simp [ht.h],fun x hx=>?_,hd _ ht.hi⟩
  rcases List.mem_append.1 hx with hx|hx
  ·exact hd _ ht.lo x hx
  simp at hx;subst hx;exact hh
 exact ⟨by simp [ht.c],by simp [ht.o],ho,by simp [ht.h],hd _ ht.lo,ht.hi⟩
theorem K0 {S:Int} {N:Nat}:∀(f:Nat) (t:AT),t.Ok N→(YF S f t).Ok N
 | 0,t,h=>h
 | f+1,t,h=>by
  rw [YF]
  split
  ·rename_i l h' e1 e2
   exact K0 f _ (WA h (h.hi _ (List.mem_of_getLast? e2)))
  exact h
theorem JK (w:List Int):(Zy w).Ok w.length:=K0 _ _ (KZ _ _ _ w 0 _ ⟨rfl,rfl,fun _ h=>by simp at h,rfl,fun _ h=>by simp at h,fun _ h=>by simp at h⟩ sm)
theorem Zc4 (w:List Int) (i:Nat) (r:Int) (h:i < w.length):Xc w i r < w.length:=by
 have ht:=JK w
 unfold Xc
 split
 ·exact h
 have:=ht.m _ (Zbj (l:=(Zy w).o) (i:=i) (by rw [ht.o];exact h))
 omega
theorem JJ (s:ByteArray) (w:List Int) (i:Nat) (h:i≤s.size):i≤(Ys s w i).2∧(Ys s w i).2≤s.size∧∀v,(Ys s w i).1=some v→v < w.length:=by
 obtain ⟨a,b,c⟩:=Yk s w.length i h
 unfold Ys
 cases hd:ZN s w.length i with
 | mk v j=>
  rw [hd] at a b c
  cases v with
  | none=>exact ⟨a,b,fun v hv=>by simp at hv⟩
  | some v=>
   obtain ⟨a2,b2,c2⟩:=Yk s (Zj w).toNat j b
   simp only []
   cases hr:ZN s (Zj w).toNat j with
   | mk r q=>
    rw [hr] at a2 b2 c2
    simp only [] at a b a2 b2
    cases r with
    | none=>exact ⟨by simp;omega,by simp;omega,fun l hl=>by simp at hl⟩
    | some r=>
     refine ⟨by simp;omega,by simp;omega,fun l hl=>?_⟩
     simp at hl
     subst hl
     exact Zc4 w v r (c v rfl)
theorem Zgr:∀(l:List GV),(∀x∈l,okV x)→okVs l
 | [],_=>by simp only [okVs]
 | x::l,h=>by simp only [okVs];exact ⟨h x sm,Zgr l fun y hy=>h y (by simp [hy])⟩
theorem Jm (k:Int) (l:List GV) (hk:Yg k) (h:l.length≤1048576) (hl:∀x∈l,okV x):okV ⟨k,0,l⟩:=by
 simp only [okV]
 exact ⟨hk,by unfold Zv;omega,h,Zgr l hl⟩
theorem QY {α:Type} {l:List α} {row:List Int} {x:α} (h:x∈YC l row):x∈l:=by
 simp only [YC,List.mem_filterMap] at h
 obtain ⟨i,_,h⟩:=h
 exact List.mem_of_getElem? h
theorem X6 {α:Type} (l:List α):∀(row:List Int),(∀x∈row,0≤x∧x < (l.length:Int))→(YC l row).length=row.length
 | [],_=>rfl
 | i::row,h=>by
  have h1:=h i sm
  have h2:=X6 l row fun x hx=>h x (by simp [hx])
  have h3:l[i.toNat]? =some (l[i.toNat]'om):=List.getElem?_eq_getElem _
  unfold YC at h2 ⊢
  rw [List.filterMap_cons,h3]
  simp [h2]
theorem QM {α β:Type} {g:α→Nat→Res β} {D:β→Prop} {m:Nat}:∀(l:List α) (i:Nat),i≤m→(∀x∈l,∀j,j≤m→(g x j).In D j m)→(Xt g l i).In (fun r=>r.length=l.length∧∀y∈r,D y) i m
 | [],i,h,_=>⟨Nat.le_refl _,h,rfl,fun y hy=>by simp at hy⟩
 | x::l,i,h,hg=>by
  rw [Xt]
  refine (hg x sm i h).bind fun v j h1 h2 hv=>?_
  refine (QM l j h2 fun y hy=>hg y (by simp [hy])).map fun r ⟨e,hr⟩=>⟨by simp [e],fun y hy=>?_⟩
  rcases List.mem_cons.1 hy with rfl|hy
  ·exact hv
  exact hr y hy
theorem Zgt {β:Type} {g:Nat→Res β} {D:β→Prop} {m:Nat} (hg:∀j,j≤m→(g j).In D j m):∀(n i:Nat),i≤m→(QF g n i).In (fun r=>r.length=n∧∀y∈r,D y) i m
 | 0,i,h=>⟨Nat.le_refl _,h,rfl,fun y hy=>by simp at hy⟩
 | n+1,i,h=>by
  rw [QF]
  refine (hg i h).bind fun v j h1 h2 hv=>?_
  refine (Zgt hg n j h2).map fun r ⟨e,hr⟩=>⟨by simp [e],fun y hy=>?_⟩
  rcases List.mem_cons.1 hy with rfl|hy
  ·exact hv
  exact hr y hy
theorem ZdT {g:Nat→Res GV} {p:GP} {D:GV→Prop} {m:Nat} (hg:∀j,j≤m→(g j).In D j m):∀(f i:Nat),i≤m→(WD g p f i).In D i m
 | 0,i,h=>.inr rfl
 | f+1,i,h=>by
  rw [WD]
  refine (hg i h).bind fun v j h1 h2 hv=>?_
  split
  ·exact ⟨Nat.le_refl _,h2,hv⟩
  split
  ·exact .inr rfl
  exact ZdT hg f j h2
theorem JM {α β:Type} {g:α→Nat→Res β} {D:β→Prop} {m:Nat} (l:List α) (n i:Nat) (hg:∀h:n < l.length,(g l[n] i).In D i m):(atD g l n i).In D i m:=by
 unfold atD
 by_cases h:n < l.length
 ·rw [List.getElem?_eq_getElem h];exact hg h
 rw [List.getElem?_eq_none om];exact .inr rfl
theorem qa4 {p:Prop} (h:p:=by
 have h1:=hga.get 1 hl
 have h2:=ZD t.a 1 hl
 refine h _ ((t,lo - 1)::e) ?_ (hoa.get 1 hl) om ⟨hg,hk,ox,hs,om,om,he⟩
 have h3:ZU t.k (0+1)=true:=by simp [ZU,hk]
 rw [h3,Bool.or_true] at h1
 exact h1):p:=h
theorem qa6 {p:Prop} (h:p:=by
 have h1:=hga.get 0 hl
 have h2:=ZD t.a 0 hl
 refine h _ e ?_ (hoa.get 0 hl) om he
 have h3:ZU t.k (0+0)=false:=by simp [ZU]
 rw [h3,Bool.or_false] at h1
 exact h1):p:=h
theorem ZeE {S m:Nat} {g:GT→Env→Nat→Res GV} (t:GT) (lo:Int) (e:Env) (i:Nat) (hi:i≤m) (hg:Zp (!e.isEmpty) t) (hk:t.k=10) (ox:okT t) (hs:Zb t≤S) (h0:0≤lo∧lo≤8) (he:Ye S e)
  (h:∀x e,Zp (!e.isEmpty) x→okT x→Zb x≤S→Ye S e→(g x e i).In okV i m):(Wd g t lo e i).In okV i m:=by
 have hse:=Zq t
 have hga:=(Zk.1 hg).2.2
 have hoa:=(Ze.1 ox).2.2.2.2.2.2.2.2
 unfold Wd
 split
 ·refine JM _ _ _ fun hl=>?_
  exact qa6
 refine JM _ _ _ fun hl=>?_
 exact qa4
theorem YG {inn:Bool} {t:GT} (hg:Zp inn t) (hk:¬t.k=10) {x:GT} (hx:x∈t.a):Zp inn x:=by
 obtain ⟨j,hj,rfl⟩:=List.getElem_of_mem hx
 have h:=(Zk.1 hg).2.2.get j hj
 have h2:(t.k==10)=false:=beq_eq_false_iff_ne.2 hk
 simpa [ZU,h2] using h
theorem Jl {t:GT} (ox:okT t) {x:GT} (hx:x∈t.a):okT x:=by
 obtain ⟨j,hj,rfl⟩:=List.getElem_of_mem hx
 exact (Ze.1 ox).2.2.2.2.2.2.2.2.get j hj
theorem Q6 {t:GT} {x:GT} (hx:x∈t.a):Zb x≤Zb t:=by
 obtain ⟨j,hj,rfl⟩:=List.getElem_of_mem hx
 have:=ZD t.a j hj
 have:=Zq t
 omega
theorem WJ (s:ByteArray) (S:Nat):∀(f:Nat) (t:GT) (e:Env) (i:Nat),Zp (!e.isEmpty) t→okT t→Zb t≤S→Ye S e→i≤s.size→(Zd s f t e i).In okV i s.size
 | 0,_,_,_,_,_,_,_,_=>.inr rfl
 | f+1,t,e,i,hg,ox,hs,he,hi=>by
  have ih:=WJ s S f
  obtain ⟨x1,x2,⟨x3,x4⟩,⟨x5,x6⟩,⟨x7,x8⟩,⟨x9,x10⟩,x11,x12,x13⟩:=Ze.1 ox
  have hn:=(Zk.1 hg).1
  have harg:¬t.k=10→∀x∈t.a,∀j,j≤s.size→(Zd s f x e j).In okV j s.size:=fun hk x hx j hj=>
   ih x e j (YG hg hk hx) (Jl ox hx) (by have:=Q6 hx;omega) he hj
  unfold Zd
  split
  ·exact ⟨Nat.le_refl _,hi,x2⟩
  split
  ·rename_i h2
   obtain ⟨a,b,c⟩:=Kw hn h2
   refine (Zdg s _ _ i hi b).map fun n hn=>?_
   simp only [okV,okVs]
   exact ⟨by unfold Yg;omega,by unfold Zv;omega,sm,trivial⟩
  split
  ·rename_i h3
   obtain ⟨a,b⟩:=JU hn h3
   obtain ⟨c1,c2,c3⟩:=Zbi s t.w i hi b
   refine (Qt c1 c2 c3).bind fun k j h1 h2 hk=>JM _ _ _ fun hl=>harg om _ (List.getElem_mem hl) j h2
  split
  ·rename_i h4
   obtain ⟨a,b,c⟩:=Kv hn h4
   obtain ⟨c1,c2,c3⟩:=JJ s t.w i hi
   refine (Qt c1 c2 c3).bind fun k j h1 h2 hk=>JM _ _ _ fun hl=>⟨Nat.le_refl _,h2,x4.get k hl⟩
  split
  ·rename_i h5
   refine (QM t.a i hi (harg om)).map fun r ⟨hr,hr2⟩=>Jm 3 r (by unfold Yg;omega) om hr2
  split
  ·rename_i h6
   obtain ⟨a,b,c,d⟩:=WO hn h6
   refine (Zdg s _ _ i hi c).bind fun n j h1 h2 hn=>(Zgt (fun q hq=>JM _ _ _ fun hl=>harg om _ (List.getElem_mem hl) q hq) _ j h2).map fun r ⟨hr,hr2⟩=>Jm 4 r (by unfold Yg;omega) om hr2
  split
  ·rename_i h7
   have hal:=Wt hn (.inr (.inl h7))
   refine (QM t.a i hi (harg om)).bind fun l j h1 h2 ⟨hl,hl2⟩=>?_
   obtain ⟨c1,c2,c3⟩:=ZbD s l.length j h2
   refine (Qt c1 c2 c3).map fun row ⟨hr,hr2⟩=>Jm 4 _ (by unfold Yg;omega) (by rw [X6 l row hr2];omega) fun x hx=>hl2 x (QY hx)
  split
  ·rename_i h8
   have hal:=Wt hn (.inr (.inr h8))
   obtain ⟨a,b⟩:=JV hn h8
   obtain ⟨c1,c2,c3⟩:=ZbE s t.lo.toNat t.a.length i hi om
   refine (Qt c1 c2 c3).bind fun row j h1 h2 ⟨hr,hr2⟩=>(QM _ j h2 fun x hx=>harg om x (QY hx)).map fun r ⟨q1,q2⟩=>Jm 4 r (by unfold Yg;omega) (by rw [q1,X6 t.a row hr2];omega) q2
  split
  ·rename_i h9
   refine ZdT (fun q hq=>JM _ _ _ fun hl=>harg om _ (List.getElem_mem hl) q hq) _ i hi
  split
  ·cases e with
   | nil=>exact .inr rfl
   | cons p up=>
    obtain ⟨t',m⟩:=p
    obtain ⟨e1,e2,e3,e4,e5,e6,e7⟩:=he
    exact ZeE t' m up i hi e1 e2 e3 e4 ⟨e5,e6⟩ e7 fun x e a b c d=>ih x e i a b c d hi
  have h10:t.k=10:=by have:=(Y9 hn).1;omega
  obtain ⟨a,b,c⟩:=Yl hn h10
  exact ZeE t t.lo e i hi hg h10 ox hs ⟨b,c⟩ he fun x e a b c d=>ih x e i a b c d hi
section
section
variable (s:ByteArray) (f:Nat) (t:GT) (e:Env) (i:Nat)
theorem ZaN (h:t.k=1):Zd s (f+1) t e i=.ok t.v i:=by
 unfold Zd
 rw [if_pos h]
theorem ZaO (h:t.k=2):Zd s (f+1) t e i=(WK s t.lo t.hi i).map (fun n=>⟨1,n,[]⟩):=by
 unfold Zd
 rw [if_neg (show ¬t.k=1 by omega),if_pos h]
theorem ZaP (h:t.k=3):Zd s (f+1) t e i=(Y2 (VS s t.w i)).bind fun k j=>atD (fun x=>Zd s f x e) t.a k j:=by
 unfold Zd
 rw [if_neg (show ¬t.k=1 by omega),if_neg (show ¬t.k=2 by omega),if_pos h]
theorem ZaQ (h:t.k=4):Zd s (f+1) t e i=(Y2 (Ys s t.w i)).bind fun k j=>atD (fun v j=>.ok v j) t.vs k j:=by
 unfold Zd
 rw [if_neg (show ¬t.k=1 by omega),if_neg (show ¬t.k=2 by omega),if_neg (show ¬t.k=3 by omega),if_pos h]
theorem ZaR (h:t.k=5):Zd s (f+1) t e i=(Xt (fun x=>Zd s f x e) t.a i).map (fun l=>⟨3,0,l⟩):=by
 unfold Zd
 rw [if_neg (show ¬t.k=1 by omega),if_neg (show ¬t.k=2 by omega),if_neg (show ¬t.k=3 by omega),if_neg (show ¬t.k=4 by omega),if_pos h]
theorem ZaS (h:t.k=6):Zd s (f+1) t e i=(WK s t.lo t.hi i).bind fun n j=>(QF (fun j=>atD (fun x=>Zd s f x e) t.a 0 j) n.toNat j).map (fun l=>⟨4,0,l⟩):=by
 unfold Zd
 rw [if_neg (show ¬t.k=1 by omega),if_neg (show ¬t.k=2 by omega),if_neg (show ¬t.k=3 by omega),if_neg (show ¬t.k=4 by omega),if_neg (show ¬t.k=5 by omega),if_pos h]
theorem ZaT (h:t.k=7):Zd s (f+1) t e i=(Xt (fun x=>Zd s f x e) t.a i).bind fun l j=>(Y2 (Xi s l.length j)).map (fun row=>⟨4,0,YC l row⟩):=by
 unfold Zd
 rw [if_neg (show ¬t.k=1 by omega),if_neg (show ¬t.k=2 by omega),if_neg (show ¬t.k=3 by omega),if_neg (show ¬t.k=4 by omega),if_neg (show ¬t.k=5 by omega),if_neg (show ¬t.k=6 by omega),if_pos h]
theorem ZaU (h:t.k=8):Zd s (f+1) t e i=(Y2 (Xm s t.lo.toNat t.a.length i)).bind fun row j=>(Xt (fun x=>Zd s f x e) (YC t.a row) j).map (fun l=>⟨4,0,l⟩):=by
 unfold Zd
 rw [if_neg (show ¬t.k=1 by omega),if_neg (show ¬t.k=2 by omega),if_neg (show ¬t.k=3 by omega),if_neg (show ¬t.k=4 by omega),if_neg (show ¬t.k=5 by omega),if_neg (show ¬t.k=6 by omega),if_neg (show ¬t.k=7 by omega),if_pos h]
theorem ZaV (h:t.k=9):Zd s (f+1) t e i=WD (fun j=>atD (fun x=>Zd s f x e) t.a 0 j) t.p (s.size+1 - i) i:=by
 unfold Zd
 rw [if_neg (show ¬t.k=1 by omega),if_neg (show ¬t.k=2 by omega),if_neg (show ¬t.k=3 by omega),if_neg (show ¬t.k=4 by omega),if_neg (show ¬t.k=5 by omega),if_neg (show ¬t.k=6 by omega),if_neg (show ¬t.k=7 by omega),if_neg (show ¬t.k=8 by omega),if_pos h]
theorem ZbR (h:t.k=11):Zd s (f+1) t e i=(match e with|[]=>.no 3|(t',m)::up=>Wd (Zd s f) t' m up i):=by
 unfold Zd
 rw [if_neg (show ¬t.k=1 by omega),if_neg (show ¬t.k=2 by omega),if_neg (show ¬t.k=3 by omega),if_neg (show ¬t.k=4 by omega),if_neg (show ¬t.k=5 by omega),if_neg (show ¬t.k=6 by omega),if_neg (show ¬t.k=7 by omega),if_neg (show ¬t.k=8 by omega),if_neg (show ¬t.k=9 by omega),if_pos h]
 all_goals (cases e<;>rfl)
theorem ZdC (h1:¬t.k=1) (h2:¬t.k=2) (h3:¬t.k=3) (h4:¬t.k=4) (h5:¬t.k=5) (h6:¬t.k=6) (h7:¬t.k=7) (h8:¬t.k=8) (h9:¬t.k=9) (h11:¬t.k=11):Zd s (f+1) t e i=Wd (Zd s f) t t.lo e i:=by
 unfold Zd
 rw [if_neg h1,if_neg h2,if_neg h3,if_neg h4,if_neg h5,if_neg h6,if_neg h7,if_neg h8,if_neg h9,if_neg h11]
end
end
theorem qa3 {p:Prop} (h:p:=by
 go_enter func221,ntmps221
 go_wp2_with (go_at_call 263;refine (HX.out _ (by exact HL.out)).mono ?_;rw [HR.out];rintro e w1 ⟨hb1,rfl,hc1⟩;have HC1:=hid hc1;clear hc1)
 go_ret2
 exact ⟨Zt1,rfl,HC1.out⟩):p:=h
set_option maxRecDepth 100000
set_option maxHeartbeats 1000000
theorem Zba (c:Nat) (s:ByteArray) (i m:Nat) (w:World) (hb:Zc s=true) (hi:i≤s.size) (hm:0 < m∧m < 18446744073709551616) (hl:Cur w c s i false):
  Calls prog 221 #[.pointer (some ⟨c,0,none⟩),.int .u64 m] w (ZdR c s (ZN s m i) w):=by
 have hmf:∀(fn:Fn) (first cap:Array Value) (w:World),(Instr.makeFunc fn first cap).run prog w=.ok (.func fn first cap) w:=fun _ _ _ _=>rfl
 have HX:=hid (fun W h=>ZgO c s i m W hb hi hm h)
 have HL:=hid hl
 obtain ⟨hm0,hm1⟩:=hm
 have hcs:c < w.heap.size:=World.block_lt_of_cell? _ _ hl.1.1
 have hm2:((m:Int)==0)=false:=beq_eq_false_iff_ne.2 om
 clear hb hl
 rcases hR:ZN s m i with ⟨_|v,j⟩
 all_goals have HR:=hid (show YX s m (Z7 m) (s.size+1 - i) i=_ from hR)
 all_goals clear hR
 ·exact qa3
 exact qa3
set_option maxRecDepth 512
theorem WC (c:Nat) (s:ByteArray) (i m:Nat) (M:Int) (w:World) (hb:Zc s=true) (hi:i≤s.size) (hm:0 < m∧m < 18446744073709551616) (hM:M=m) (hl:Cur w c s i false):
  Calls prog 221 #[.pointer (some ⟨c,0,none⟩),.int .u64 M] w (ZdR c s (ZN s m i) w):=by
 subst hM;exact Zba c s i m w hb hi hm hl
theorem Qo (b n cp:Nat) (a:Option Addr) (w:World) (hl:w.cell? ⟨b,0,none⟩=some (.slice a n cp)):
  Calls prog 222 #[.pointer (some ⟨b,0,none⟩)] w fun e w'=>e=.returned (.int .i64 n)∧Below w.heap.size w w':=by
 have hbs:b < w.heap.size:=World.block_lt_of_cell? _ _ hl
 go_enter func222,ntmps222
 go_wp2_with fail
 go_ret
 exact ⟨rfl,ZtX⟩
theorem Zfo (l:List Int) (h:1≤l.length) (h2:l.length - 1 < (Yy 0 l).length):(Yy 0 l)[l.length - 1]=Zj l:=by
 rw [VH,show l.length - 1+1=l.length by omega,List.take_length];omega
set_option maxRecDepth 100000
theorem Zai (l:List Int) (b cp:Nat) (a:Option Addr) (A:Nat→Prop) (w:World) (h1:1≤l.length) (h64:l.length≤64) (hl:w.cell? ⟨b,0,none⟩=some (.slice a l.length cp)) (hr:RIs w A (Yy 0 l) a):
  Calls prog 223 #[.pointer (some ⟨b,0,none⟩)] w fun e w'=>e=.returned (.int .i64 (Zj l))∧Below w.heap.size w w':=by
 have hbs:b < w.heap.size:=World.block_lt_of_cell? _ _ hl
 have hp:=Vw 0 l
 obtain ⟨g,o,rfl,hA,hgs,g0⟩:=hr.get (l.length - 1) om
 have hlast:=Zfo l h1 om
 rw [hlast] at g0
 have hw:IntKind.i64.wrap ((l.length:Int) - 1)=((l.length - 1:Nat):Int):=by rw [IntWalk.i64_in _ om];omega
 have hw0:(0:Int)≤(l.length:Int) - 1:=om
 have hw1:(l.length:Int) - 1 < (l.length:Int):=om
 have hw2:((l.length:Int) - 1).toNat=l.length - 1:=om
 have hn0:((l.length:Int)==0)=false:=beq_eq_false_iff_ne.2 om
 clear hlast hr
 go_enter func223,ntmps223
 go_wp2_with (go_at_call 222;refine (Qo b l.length cp (some ⟨g,o,none⟩) _ gs).mono ?_;rintro e w1 ⟨rfl,hb⟩;have hB1:=hb;clear hb;obtain ⟨hc1,hf1⟩:=Za hB1)
 go_ret
 exact ⟨rfl,ZtX⟩
theorem ZcD (L:List Int) (r:Int) (p q b cp i:Nat) (a:Option Addr) (A:Nat→Prop) (w:World) (hi:i < L.length) (hL:L.length≤64) (hp:w.cell? ⟨p,0,none⟩=some (.pointer (some ⟨b,0,none⟩))) (hq:w.cell? ⟨q,0,none⟩=some (.int .i64 r))
  (hl:w.cell? ⟨b,0,none⟩=some (.slice a L.length cp)) (hr:RIs w A L a):
  Calls prog 265 #[.int .i64 i,.pointer (some ⟨p,0,none⟩),.pointer (some ⟨q,0,none⟩)] w fun e w'=>e=.returned (.bool (decide (r < L[i])))∧Below w.heap.size w w':=by
 have hbs:b < w.heap.size:=World.block_lt_of_cell? _ _ hl
 have hps:p < w.heap.size:=World.block_lt_of_cell? _ _ hp
 have hqs:q < w.heap.size:=World.block_lt_of_cell? _ _ hq
 obtain ⟨g,o,rfl,hA,hgs,g0⟩:=hr.get i hi
 have hlt:(i:Int) < (L.length:Int):=om
 clear hr
 go_enter func265,ntmps265
 go_wp2_with fail
 refine Z0 9 kr kr ?_
 simp only [List.take_succ_cons,List.take_zero,List.drop_succ_cons,List.drop_zero]
 repeat still_step
 refine wpStill_nil ?_
 go_wp2_with fail
 go_ret
 exact ⟨rfl,ZtX⟩
set_option maxRecDepth 512
theorem Zbd (L:List Int) (r:Int) (i:Nat) (hi:i≤L.length) (h1:∀k (h:k < L.length),k < i→L[k]≤r) (h2:∀(h:i < L.length),r < L[i]):Qu L r=i:=by
 unfold Qu
 rcases Nat.lt_or_ge i L.length with h|h
 ·rw [List.findIdx_eq h]
  exact ⟨by simp [h2 h],fun j hj=>by have:=h1 j om hj;simp;omega⟩
 rw [List.findIdx_eq_length_of_false]
 ·omega
 intro x hx
 obtain ⟨k,hk,rfl⟩:=List.getElem_of_mem hx
 have:=h1 k hk om
 simp;omega
set_option maxRecDepth 100000
theorem Zf4 (L:List Int) (r:Int) (p q b cp:Nat) (a:Option Addr) (A:Nat→Prop) (w:World) (hL:L.length≤64) (hm:∀i j (hi:i < L.length) (hj:j < L.length),i≤j→L[i]≤L[j])
  (hp:w.cell? ⟨p,0,none⟩=some (.pointer (some ⟨b,0,none⟩))) (hq:w.cell? ⟨q,0,none⟩=some (.int .i64 r)) (hl:w.cell? ⟨b,0,none⟩=some (.slice a L.length cp)) (hr:RIs w A L a):
  Calls prog 264 #[.int .i64 L.length,.func (.func 265) #[] #[.pointer (some ⟨p,0,none⟩),.pointer (some ⟨q,0,none⟩)]] w fun e w'=>e=.returned (.int .i64 (Qu L r))∧Below w.heap.size w w':=by
 have HM:=hid hm
 have HR:=hid hr
 have hbs:b < w.heap.size:=World.block_lt_of_cell? _ _ hl
 have hps:p < w.heap.size:=World.block_lt_of_cell? _ _ hp
 have hqs:q < w.heap.size:=World.block_lt_of_cell? _ _ hq
 clear hm hr
 go_enter func264,ntmps264
 go_wp2_with fail
 go_loopg [5,6] (L.length) (fun gk t5 t6 wr=>∃i j:Nat,gk=j - i∧t5=.int .i64 i∧t6=.int .i64 j∧i≤j∧j≤L.length∧Hid (∀k (h:k < L.length),k < i→L[k]≤r)∧Hid (∀k (h:k < L.length),j≤k→r < L[k])∧Below w.heap.size w wr)
 case atStart=>exact ⟨0,L.length,rfl,rfl,rfl,om,Nat.le_refl _,fun k h hk=>absurd hk om,fun k h hk=>absurd hk om,ZtX⟩
 case round=>
  obtain ⟨i,j,rfl,rfl,rfl,hij,hj,H1,H2,hb⟩:=hrel
  obtain ⟨hc,hf⟩:=Za hb
  have hzr:=hb.size
  by_cases hlt:i < j
  ·obtain ⟨h,hw2,hih,hhj⟩:∃h:Nat,((i:Int)+(j:Int)) / 2=(h:Int)∧i≤h∧h < j:=⟨(i+j) / 2,om,om,om⟩
   have hm1:h < L.length:=om
   have hw1:IntKind.i64.wrap ((i:Int)+(j:Int))=(i:Int)+(j:Int):=IntWalk.i64_in _ om
   by_cases ht:r < L[h]
   ·have HT:=hid (show decide (r < L[h])=true from decide_eq_true ht)
    have HT2:=hid ht
    clear ht
    go_wp2_with (go_at_call 265;refine (ZcD L r p q b cp h a A _ hm1 hL gs gs gs (by exact Zuc az _ _ HR.out)).mono ?_;rw [HT.out];rintro e w2 ⟨rfl,hb2⟩)
    go_roundg (h - i)
    case measure=>omega
    case rel=>exact ⟨i,h,rfl,rfl,rfl,hih,om,H1.out,fun k hk hk2=>by have:=HM.out h k hm1 hk hk2;have:=HT2.out;omega,ZtX⟩
   have HT:=hid (show decide (r < L[h])=false from decide_eq_false ht)
   have HT2:=hid ht
   clear ht
   go_wp2_with (go_at_call 265;refine (ZcD L r p q b cp h a A _ hm1 hL gs gs gs (by exact Zuc az _ _ HR.out)).mono ?_;rw [HT.out];rintro e w2 ⟨rfl,hb2⟩)
   go_roundg (j - (h+1))
   case measure=>omega
   case rel=>exact ⟨h+1,j,rfl,by go_num,rfl,hhj,hj,fun k hk hk2=>by have:=HM.out k h hk hm1 om;have:=HT2.out;omega,H2.out,ZtX⟩
  have hij2:i=j:=om
  subst hij2
  go_wp2_with fail
  go_ret
  exact ⟨Zf (by rw [Zbd L r i hj H1.out (fun h=>H2.out i h (Nat.le_refl _))]),hb⟩
set_option maxRecDepth 512
theorem Zhr (l:List Int) (h:okW l):∀i j,i≤j→Zj (l.take i)≤Zj (l.take j):=by
 induction l with
 | nil=>intro i j _;simp [Zj]
 | cons x l ih=>
  intro i j hij
  have hx:=h x sm
  cases i with
  | zero=>
   have:=WX ((x::l).take j) (fun y hy=>h y (List.mem_of_mem_take hy))
   simp only [List.take_zero,Zj];omega
  | succ i=>
   cases j with
   | zero=>omega
   | succ j=>
    have:=ih (fun y hy=>h y (by simp [hy])) i j om
    simp only [List.take_succ_cons,Zj];omega
theorem Zfp (l:List Int) (h:okW l) (i j:Nat) (hi:i < (Yy 0 l).length) (hj:j < (Yy 0 l).length) (hij:i≤j):(Yy 0 l)[i]≤(Yy 0 l)[j]:=by
 rw [VH,VH]
 have:=Zhr l h (i+1) (j+1) om
 omega
def Zdi (c:Nat) (s:ByteArray) (r:Option Nat×Nat) (w:World):Ending→World→Prop:=fun e w'=>But c w.heap.size w w' ∧
 match r with
 | (some v,j)=>e=.returned (.tuple #[.int .i64 v,.bool true])∧Cur w' c s j false
 | (none,j)=>e=.returned (.tuple #[.int .i64 0,.bool false])∧Cur w' c s j true
set_option maxRecDepth 100000
theorem Zdc (l:List Int) (r:Int) (b cp:Nat) (a:Option Addr) (A:Nat→Prop) (w:World) (he:Yc l=0) (hr0:0≤r) (hr1:r < Zj l) (hl:w.cell? ⟨b,0,none⟩=some (.slice a l.length cp)) (hr:RIs w A (Yy 0 l) a):
  Calls prog 224 #[.pointer (some ⟨b,0,none⟩),.int .i64 r] w fun e w'=>e=.returned (.tuple #[.int .i64 (Qu (Yy 0 l) r),.int .i64 0])∧Below w.heap.size w w':=by
 have hmf:∀(fn:Fn) (first cap:Array Value) (w:World),(Instr.makeFunc fn first cap).run prog w=.ok (.func fn first cap) w:=fun _ _ _ _=>rfl
 obtain ⟨h1,h64,hw,h2,h3⟩:=Y0 he
 have hbs:b < w.heap.size:=World.block_lt_of_cell? _ _ hl
 have hp:=Vw 0 l
 have HM:=hid (fun i j hi hj h=>Zfp l hw i j hi hj h)
 have HR:=hid hr
 have hbs2:b < w.heap.size+1+1:=om
 have hn0:((l.length:Int)==0)=false:=beq_eq_false_iff_ne.2 om
 have HP:=hid hp
 have hl2:=hl
 rw [←hp] at hl2
 have HL2:=hid hl2
 clear hr hw he hp hl2
 have HX:=hid (fun (W:World) (p q:Nat) x1 x2 x3 x4=>(show Calls prog 264 #[.int .i64 l.length,.func (.func 265) #[] #[.pointer (some ⟨p,0,none⟩),.pointer (some ⟨q,0,none⟩)]] W fun e w'=>e=.returned (.int .i64 (Qu (Yy 0 l) r))∧Below W.heap.size W w' from by
  have h:=Zf4 (Yy 0 l) r p q b cp a A W (by rw [HP.out];exact h64) HM.out x1 x2 x3 x4
  rw [HP.out] at h
  exact h))
 go_enter func224,ntmps224
 go_wp2_with (first|(go_at_call 222;refine (Qo b l.length cp a _ gs).mono ?_;rintro e w1 ⟨rfl,hb⟩;have hB1:=hb;clear hb;obtain ⟨hc1,hf1⟩:=Za hB1))
 have hz1:=hB1.size
 simp at hz1
 have hs1:w.heap.size < w1.heap.size:=om
 have hs2:w.heap.size+1 < w1.heap.size:=om
 have hs3:b < w1.heap.size:=om
 have hp:w1.cell? ⟨w.heap.size,0,none⟩=some (.pointer (some ⟨b,0,none⟩)):=gs
 have hq:w1.cell? ⟨w.heap.size+1,0,none⟩=some (.int .i64 r):=gs
 have hl1:w1.cell? ⟨b,0,none⟩=some (.slice a l.length cp):=gs
 go_region_with (go_at_call 223;refine (Zai l b cp a A _ h1 h64 gs (by exact Zuc az _ _ HR.out)).mono ?_;rintro e w2 ⟨rfl,hb2⟩;obtain ⟨hc2,hf2⟩:=Za hb2;have hz2:=hb2.size;simp at hz2;have hq2:w2.cell? ⟨w.heap.size+1,0,none⟩=some (.int .i64 r):=(hb2.cell (by simp;omega)).trans gs;have hp2:w2.cell? ⟨w.heap.size,0,none⟩=some (.pointer (some ⟨b,0,none⟩)):=(hb2.cell (by simp;omega)).trans gs;have hl2:w2.cell? ⟨b,0,none⟩=some (.slice a l.length cp):=(hb2.cell (by simp;omega)).trans gs)
 go_wp2_with (go_at_call 264;refine (HX.out _ _ _ gs gs (by rw [HP.out];go_simp) (by exact Zuc az _ _ HR.out)).mono ?_;rintro e w3 ⟨rfl,hb3⟩)
 all_goals go_ret2
 all_goals exact ⟨rfl,ZtX⟩
set_option maxRecDepth 512
theorem Cur.below {B:Nat} {w w':World} {c:Nat} {s:ByteArray} {i:Nat} {o:Bool} (hb:Below B w w') (hB:c < B) (h:Cur w c s i o):Cur w' c s i o:=
 ⟨⟨(hb.cell (p:=⟨c,0,none⟩) hB).trans h.1.1,(hb.cell (p:=⟨c,1,none⟩) hB).trans h.1.2.1,(hb.cell (p:=⟨c,2,none⟩) hB).trans h.1.2.2⟩,
  (hb.frozen (p:=⟨c,0,none⟩) hB).trans h.2.1,(hb.frozen (p:=⟨c,1,none⟩) hB).trans h.2.2.1,(hb.frozen (p:=⟨c,2,none⟩) hB).trans h.2.2.2⟩
abbrev Zt3:=@Cur.below
set_option maxRecDepth 100000
theorem YZ (l:List Int) (s:ByteArray) (i b c cp:Nat) (a:Option Addr) (w:World) (hb:Zc s=true) (hi:i≤s.size) (he:Yc l=0) (hcb:¬b=c) (hl:w.cell? ⟨b,0,none⟩=some (.slice a l.length cp)) (hr:RIs w (fun k=>k≠c) (Yy 0 l) a) (hc:Cur w c s i false):
  Calls prog 146 #[.pointer (some ⟨b,0,none⟩),.pointer (some ⟨c,0,none⟩)] w (Zdi c s (VS s l i) w):=by
 obtain ⟨h1,h64,hw,h2,h3⟩:=Y0 he
 have hbs:b < w.heap.size:=World.block_lt_of_cell? _ _ hl
 have hcs:c < w.heap.size:=World.block_lt_of_cell? _ _ hc.1.1
 have hn0:((l.length:Int)==0)=false:=beq_eq_false_iff_ne.2 om
 have hsu:((Zj l).toNat:Int)=Zj l:=om
 have HR:=hid hr
 have HC:=hid hc
 have HE:=hid he
 have HB:=hid hb
 have hdr:=Yk s (Zj l).toNat i hi
 generalize hS:(Zj l).toNat=S at *
 have hS0:0 < S∧S < 18446744073709551616:=om
 have HS:=hid hS
 clear hr hc he hb hw hS
 have hsu2:Zj l=(S:Int):=hsu.symm
 have HSU:=hid hsu2
 clear hsu hsu2
 have hLen:∀W,W.cell? ⟨b,0,none⟩=some (.slice a l.length cp)→Calls prog 222 #[.pointer (some ⟨b,0,none⟩)] W fun e w'=>e=.returned (.int .i64 l.length)∧Below W.heap.size W w':=fun W h=>Qo b l.length cp a W h
 have W9:∀W,W.cell? ⟨b,0,none⟩=some (.slice a l.length cp)→RIs W (fun k=>k≠c) (Yy 0 l) a→Calls prog 223 #[.pointer (some ⟨b,0,none⟩)] W fun e w'=>e=.returned (.int .i64 S)∧Below W.heap.size W w':=fun W h h'=>by
  have:=Zai l b cp a _ W h1 h64 h h'
  rw [HSU.out] at this
  exact this
 have HLEN:=hid hLen
 have HSUM:=hid W9
 clear hLen W9
 unfold VS
 rw [HS.out]
 rcases hD:ZN s S i with ⟨_|v,j⟩
 ·have HD:=hid hD
  clear hD hdr
  go_enter func146,ntmps146
  go_wp2_with (first
   | (go_at_call 222;refine (HLEN.out _ gs).mono ?_;rintro e w1 ⟨rfl,hb⟩;have hB1:Below w.heap.size w w1:=ZtX;clear hb;obtain ⟨hc1,hf1⟩:=Za hB1;have hz1:=hB1.size)
   | (go_at_call 223;refine (HSUM.out _ gs (by exact Zuc (ZtY hB1) _ _ HR.out)).mono ?_;rintro e w2 ⟨rfl,hb⟩;have hB2:Below w.heap.size w w2:=ZtX;clear hb;obtain ⟨hc2,hf2⟩:=Za hB2;have hz2:=hB2.size)
   | (go_at_call 221;refine (Zba c s i S _ HB.out hi hS0 (by exact Zt3 hB2 hcs HC.out)).mono ?_;rw [HD.out];rintro e w3 ⟨hb3,rfl,hc3⟩;have HC3:=hid hc3;clear hc3))
  go_ret2
  exact ⟨Zt1,rfl,HC3.out⟩
 have HD:=hid hD
 rw [hD] at hdr
 have hv:=hdr.2.2 v rfl
 have HDR:=hid hdr
 clear hD hdr
 have hv2:(v:Int) < Zj l:=by have:=HSU.out;omega
 have HV2:=hid hv2
 have hv3:v < 67108865:=om
 clear hv2
 go_enter func146,ntmps146
 go_wp2_with (first
  | (go_at_call 222;refine (HLEN.out _ gs).mono ?_;rintro e w1 ⟨rfl,hb⟩;have hB1:Below w.heap.size w w1:=ZtX;clear hb;obtain ⟨hc1,hf1⟩:=Za hB1;have hz1:=hB1.size)
  | (go_at_call 223;refine (HSUM.out _ gs (by exact Zuc (ZtY hB1) _ _ HR.out)).mono ?_;rintro e w2 ⟨rfl,hb⟩;have hB2:Below w.heap.size w w2:=ZtX;clear hb;obtain ⟨hc2,hf2⟩:=Za hB2;have hz2:=hB2.size)
  | (go_at_call 221;refine (Zba c s i S _ HB.out hi hS0 (by exact Zt3 hB2 hcs HC.out)).mono ?_;rw [HD.out];rintro e w3 ⟨hb3,rfl,hc3⟩;have HC3:=hid hc3;clear hc3;have hbb:But c w.heap.size w w3:=Zt1)
  | (go_at_call 224;refine (Zdc l v b cp a (fun k=>k≠c) _ HE.out om HV2.out (by exact (hbb.cell hbs hcb).trans hl) (by exact Zuc (Zt0 hbb) _ _ HR.out)).mono ?_;rintro e w4 ⟨rfl,hb4⟩))
 go_ret2
 have hz3:=hbb.size
 exact ⟨Zt1,rfl,Zt3 hb4 om HC3.out⟩
set_option maxRecDepth 512
def Zur (s s':ByteArray) (a:Nat):Prop:=s.size=s'.size+a∧∀i,s'.data.toList.getD i 48=s.data.toList.getD (i+a) 48
def Res.shift {α:Type} (a:Nat):Res α→Res α
 | .ok v i=>.ok v (i+a)
 | .no k=>.no k
def shP {α:Type} (a:Nat) (r:Option α×Nat):Option α×Nat:=(r.1,r.2+a)
theorem Zul {α β:Type} (a:Nat) (r:Res α) (g g':α→Nat→Res β) (h:∀v j,g v (j+a)=(g' v j).shift a):(r.shift a).bind g=(r.bind g').shift a:=by
 cases r with
 | no k=>rfl
 | ok v j=>exact h v j
theorem Zun {α β:Type} (a:Nat) (r:Res α) (g:α→β):(r.shift a).map g=(r.map g).shift a:=by
 cases r<;>rfl
theorem ZuP {s s':ByteArray} {a:Nat} (h:Zur s s' a) (i:Nat):∀j,YJ s (i+a) j=YJ s' i j
 | 0=>rfl
 | j+1=>by rw [YJ,YJ,ZuP h i j,h.2,show i+j+a=i+a+j by omega]
theorem ZuE {s s':ByteArray} {a:Nat} (h:Zur s s' a) (n q:Nat):∀f i,YX s n q f (i+a)=shP a (YX s' n q f i)
 | 0,i=>rfl
 | f+1,i=>by
  rw [YX,YX,ZuP h,show i+a+q=i+q+a by omega,ZuE h n q f (i+q)]
  have:=h.1
  by_cases h1:s'.size < i+q
  ·rw [if_pos om,if_pos h1];rfl
  rw [if_neg om,if_neg h1]
  split<;>rfl
theorem Zum {s s':ByteArray} {a:Nat} (h:Zur s s' a) (m i:Nat):ZN s m (i+a)=shP a (ZN s' m i):=by
 unfold ZN
 rw [ZuE h,h.1,show s'.size+a+1 - (i+a)=s'.size+1 - i by omega]
theorem Zuo {α:Type} (a:Nat) (r:Option α×Nat):Y2 (shP a r)=(Y2 r).shift a:=by
 obtain ⟨v,j⟩:=r
 cases v<;>rfl
theorem Zu4 {s s':ByteArray} {a:Nat} (h:Zur s s' a) (m i:Nat):K8 s m (i+a)=(K8 s' m i).shift a:=by
 unfold K8;rw [Zum h,Zuo]
theorem ZuR {s s':ByteArray} {a:Nat} (h:Zur s s' a) (lo hi:Int) (i:Nat):WK s lo hi (i+a)=(WK s' lo hi i).shift a:=by
 unfold WK;rw [Zu4 h,Zun]
theorem Zu5 {s s':ByteArray} {a:Nat} (h:Zur s s' a) (w:List Int) (i:Nat):VS s w (i+a)=shP a (VS s' w i):=by
 unfold VS;rw [Zum h]
 cases hd:ZN s' (Zj w).toNat i with
 | mk v j=>cases v<;>rfl
theorem Zu0 {s s':ByteArray} {a:Nat} (h:Zur s s' a) (w:List Int) (i:Nat):Ys s w (i+a)=shP a (Ys s' w i):=by
 unfold Ys;rw [Zum h]
 cases hd:ZN s' w.length i with
 | mk v j=>
  cases v with
  | none=>rfl
  | some v=>
   simp only [shP]
   rw [Zum h]
   cases hd:ZN s' (Zj w).toNat j with
   | mk v j=>cases v<;>rfl
theorem Zuv {s s':ByteArray} {a:Nat} (h:Zur s s' a):∀(n i:Nat),ZI s n (i+a)=shP a (ZI s' n i)
 | 0,i=>rfl
 | n+1,i=>by
  rw [ZI,ZI,Zum h]
  cases hd:ZN s' (n+2) i with
  | mk v j=>
   cases v with
   | none=>rfl
   | some v=>
    simp only [shP]
    rw [Zuv h n j]
    cases hd:ZI s' n j with
    | mk v j=>cases v<;>rfl
theorem Zuw {s s':ByteArray} {a:Nat} (h:Zur s s' a):∀(n m i:Nat),ZJ s n m (i+a)=shP a (ZJ s' n m i)
 | 0,m,i=>rfl
 | n+1,m,i=>by
  rw [ZJ,ZJ,Zum h]
  cases hd:ZN s' (m+1) i with
  | mk v j=>
   cases v with
   | none=>rfl
   | some v=>
    simp only [shP]
    rw [Zuw h n (m+1) j]
    cases hd:ZJ s' n (m+1) j with
    | mk v j=>cases v<;>rfl
theorem Zu8 {s s':ByteArray} {a:Nat} (h:Zur s s' a) (n i:Nat):Xi s n (i+a)=shP a (Xi s' n i):=by
 unfold Xi;rw [Zuv h]
 cases hd:ZI s' (n - 1) i with
 | mk v j=>cases v<;>rfl
theorem Zu9 {s s':ByteArray} {a:Nat} (h:Zur s s' a) (k n i:Nat):Xm s k n (i+a)=shP a (Xm s' k n i):=by
 unfold Xm;rw [Zuw h]
 cases hd:ZJ s' (n - k) k i with
 | mk v j=>cases v<;>rfl
theorem Zut {α β:Type} {a:Nat} {g g':α→Nat→Res β} (h:∀x j,g x (j+a)=(g' x j).shift a):∀(l:List α) (i:Nat),Xt g l (i+a)=(Xt g' l i).shift a
 | [],i=>rfl
 | x::l,i=>by
  rw [Xt,Xt,h]
  refine Zul a _ _ _ fun v j=>?_
  rw [Zut h l j,Zun]
theorem ZuT {β:Type} {a:Nat} {g g':Nat→Res β} (h:∀j,g (j+a)=(g' j).shift a):∀(n:Nat) (i:Nat),QF g n (i+a)=(QF g' n i).shift a
 | 0,i=>rfl
 | n+1,i=>by
  rw [QF,QF,h]
  refine Zul a _ _ _ fun v j=>?_
  rw [ZuT h n j,Zun]
theorem ZuH {a:Nat} {g g':Nat→Res GV} {p:GP} (h:∀j,g (j+a)=(g' j).shift a):∀(f:Nat) (i:Nat),WD g p f (i+a)=(WD g' p f i).shift a
 | 0,i=>rfl
 | f+1,i=>by
  rw [WD,WD,h]
  refine Zul a _ _ _ fun v j=>?_
  rw [ZuH h f j]
  split
  ·rfl
  by_cases hj:j=i
  ·rw [if_pos hj,if_pos om];rfl
  rw [if_neg hj,if_neg om]
theorem Zup {α β:Type} {a:Nat} {g g':α→Nat→Res β} (l:List α) (n i:Nat) (h:∀x,g x (i+a)=(g' x i).shift a):atD g l n (i+a)=(atD g' l n i).shift a:=by
 unfold atD
 cases l[n]? with
 | none=>rfl
 | some x=>exact h x
theorem ZuO {a:Nat} {g g':GT→Env→Nat→Res GV} (t:GT) (m:Int) (up:Env) (i:Nat) (h:∀x e,g x e (i+a)=(g' x e i).shift a):Wd g t m up (i+a)=(Wd g' t m up i).shift a:=by
 unfold Wd
 split
 ·exact Zup _ _ _ fun x=>h x up
 exact Zup _ _ _ fun x=>h x _
theorem ZuM {s s':ByteArray} {a:Nat} (h:Zur s s' a):∀(f:Nat) (t:GT) (e:Env) (i:Nat),Zd s f t e (i+a)=(Zd s' f t e i).shift a
 | 0,_,_,_=>rfl
 | f+1,t,e,i=>by
  have ih:=ZuM h f
  by_cases h1:t.k=1
  ·rw [ZaN _ _ _ _ _ h1,ZaN _ _ _ _ _ h1]
   rfl
  by_cases h2:t.k=2
  ·rw [ZaO _ _ _ _ _ h2,ZaO _ _ _ _ _ h2]
   rw [ZuR h,Zun]
  by_cases h3:t.k=3
  ·rw [ZaP _ _ _ _ _ h3,ZaP _ _ _ _ _ h3]
   rw [Zu5 h,Zuo]
   exact Zul a _ _ _ fun k j=>Zup _ _ _ fun x=>ih x e j
  by_cases h4:t.k=4
  ·rw [ZaQ _ _ _ _ _ h4,ZaQ _ _ _ _ _ h4]
   rw [Zu0 h,Zuo]
   exact Zul a _ _ _ fun k j=>Zup _ _ _ fun x=>rfl
  by_cases h5:t.k=5
  ·rw [ZaR _ _ _ _ _ h5,ZaR _ _ _ _ _ h5]
   rw [Zut (fun x j=>ih x e j),Zun]
  by_cases h6:t.k=6
  ·rw [ZaS _ _ _ _ _ h6,ZaS _ _ _ _ _ h6]
   rw [ZuR h]
   refine Zul a _ _ _ fun k j=>?_
   rw [ZuT (fun j=>Zup _ _ _ fun x=>ih x e j),Zun]
  by_cases h7:t.k=7
  ·rw [ZaT _ _ _ _ _ h7,ZaT _ _ _ _ _ h7]
   rw [Zut (fun x j=>ih x e j)]
   refine Zul a _ _ _ fun k j=>?_
   rw [Zu8 h,Zuo,Zun]
  by_cases h8:t.k=8
  ·rw [ZaU _ _ _ _ _ h8,ZaU _ _ _ _ _ h8]
   rw [Zu9 h,Zuo]
   refine Zul a _ _ _ fun k j=>?_
   rw [Zut (fun x j=>ih x e j),Zun]
  by_cases h9:t.k=9
  ·rw [ZaV _ _ _ _ _ h9,ZaV _ _ _ _ _ h9]
   rw [h.1,show s'.size+a+1 - (i+a)=s'.size+1 - i by omega]
   exact ZuH (fun j=>Zup _ _ _ fun x=>ih x e j) _ _
  by_cases h11:t.k=11
  ·rw [ZbR _ _ _ _ _ h11,ZbR _ _ _ _ _ h11]
   cases e with
   | nil=>rfl
   | cons p up=>exact ZuO _ _ _ _ fun x e=>ih x e i
  rw [ZdC _ _ _ _ _ h1 h2 h3 h4 h5 h6 h7 h8 h9 h11,ZdC _ _ _ _ _ h1 h2 h3 h4 h5 h6 h7 h8 h9 h11]
  exact ZuO _ _ _ _ fun x e=>ih x e i
def ZpZ (s s':ByteArray):Prop:=s.size≤s'.size∧∀i,i < s.size→s'.data.toList.getD i 48=s.data.toList.getD i 48
def Res.Keep {α:Type} (r r':Res α):Prop:=r=.no 2∨r'=r
def Zqg {α:Type} (r r':Option α×Nat):Prop:=r.1=none∨r'=r
theorem Keep.refl {α:Type} (r:Res α):r.Keep r:=.inr rfl
theorem Keep.bind {α β:Type} {r r':Res α} {g g':α→Nat→Res β} (h:r.Keep r') (hg:∀v j,r=.ok v j→(g v j).Keep (g' v j)):(r.bind g).Keep (r'.bind g'):=by
 rcases h with rfl|rfl
 ·exact .inl rfl
 cases r' with
 | no k=>exact .inr rfl
 | ok v j=>exact hg v j rfl
theorem Keep.map {α β:Type} {r r':Res α} {g:α→β} (h:r.Keep r'):(r.map g).Keep (r'.map g):=by
 rcases h with rfl|rfl
 ·exact .inl rfl
 exact .inr rfl
theorem ZpG {α:Type} {r r':Option α×Nat} (h:Zqg r r'):(Y2 r).Keep (Y2 r'):=by
 rcases h with h|rfl
 ·obtain ⟨v,j⟩:=r
  simp only [] at h
  subst h
  exact .inl rfl
 exact .inr rfl
theorem ZqH {s s':ByteArray} (h:ZpZ s s') (i:Nat):∀j,i+j≤s.size→YJ s' i j=YJ s i j
 | 0,_=>rfl
 | j+1,hj=>by rw [YJ,YJ,ZqH h i j om,h.2 (i+j) om]
theorem Zqn {s s':ByteArray} (h:ZpZ s s') (n q:Nat):∀f f' i,f≤f'→Zqg (YX s n q f i) (YX s' n q f' i)
 | 0,_,i,_=>.inl rfl
 | f+1,0,i,hf=>absurd hf om
 | f+1,f'+1,i,hf=>by
  rw [YX,YX]
  by_cases h1:s.size < i+q
  ·rw [if_pos h1];exact .inl rfl
  rw [if_neg h1,if_neg (show ¬s'.size < i+q by have:=h.1;omega),ZqH h i q om]
  split
  ·exact .inr rfl
  exact Zqn h n q f f' (i+q) om
theorem Zpx {s s':ByteArray} (h:ZpZ s s') (m i:Nat):Zqg (ZN s m i) (ZN s' m i):=Zqn h m _ _ _ i (by have:=h.1;omega)
theorem Zrj {s s':ByteArray} (h:ZpZ s s') (w:List Int) (i:Nat):Zqg (VS s w i) (VS s' w i):=by
 unfold VS
 rcases Zpx h (Zj w).toNat i with h1|h1
 ·cases hd:ZN s (Zj w).toNat i with
  | mk v j=>rw [hd] at h1;simp only [] at h1;subst h1;exact .inl rfl
 rw [h1];exact .inr rfl
theorem Zq5 {s s':ByteArray} (h:ZpZ s s') (w:List Int) (i:Nat):Zqg (Ys s w i) (Ys s' w i):=by
 unfold Ys
 rcases Zpx h w.length i with h1|h1
 ·cases hd:ZN s w.length i with
  | mk v j=>rw [hd] at h1;simp only [] at h1;subst h1;exact .inl rfl
 rw [h1]
 cases hd:ZN s w.length i with
 | mk v j=>
  cases v with
  | none=>exact .inr rfl
  | some v=>
   simp only []
   rcases Zpx h (Zj w).toNat j with h1|h1
   ·cases hd:ZN s (Zj w).toNat j with
    | mk v j=>rw [hd] at h1;simp only [] at h1;subst h1;exact .inl rfl
   rw [h1];exact .inr rfl
theorem Zp0 {s s':ByteArray} (h:ZpZ s s'):∀(n i:Nat),Zqg (ZI s n i) (ZI s' n i)
 | 0,i=>.inr rfl
 | n+1,i=>by
  rw [ZI,ZI]
  rcases Zpx h (n+2) i with h1|h1
  ·cases hd:ZN s (n+2) i with
   | mk v j=>rw [hd] at h1;simp only [] at h1;subst h1;exact .inl rfl
  rw [h1]
  cases hd:ZN s (n+2) i with
  | mk v j=>
   cases v with
   | none=>exact .inr rfl
   | some v=>
    simp only []
    rcases Zp0 h n j with h1|h1
    ·cases hd:ZI s n j with
     | mk v j=>rw [hd] at h1;simp only [] at h1;subst h1;exact .inl rfl
    rw [h1];exact .inr rfl
theorem Zp1 {s s':ByteArray} (h:ZpZ s s'):∀(n m i:Nat),Zqg (ZJ s n m i) (ZJ s' n m i)
 | 0,m,i=>.inr rfl
 | n+1,m,i=>by
  rw [ZJ,ZJ]
  rcases Zpx h (m+1) i with h1|h1
  ·cases hd:ZN s (m+1) i with
   | mk v j=>rw [hd] at h1;simp only [] at h1;subst h1;exact .inl rfl
  rw [h1]
  cases hd:ZN s (m+1) i with
  | mk v j=>
   cases v with
   | none=>exact .inr rfl
   | some v=>
    simp only []
    rcases Zp1 h n (m+1) j with h1|h1
    ·cases hd:ZJ s n (m+1) j with
     | mk v j=>rw [hd] at h1;simp only [] at h1;subst h1;exact .inl rfl
    rw [h1];exact .inr rfl
theorem Zrp {s s':ByteArray} (h:ZpZ s s') (n i:Nat):Zqg (Xi s n i) (Xi s' n i):=by
 unfold Xi
 rcases Zp0 h (n - 1) i with h1|h1
 ·cases hd:ZI s (n - 1) i with
  | mk v j=>rw [hd] at h1;simp only [] at h1;subst h1;exact .inl rfl
 rw [h1];exact .inr rfl
theorem Zrq {s s':ByteArray} (h:ZpZ s s') (k n i:Nat):Zqg (Xm s k n i) (Xm s' k n i):=by
 unfold Xm
 rcases Zp1 h (n - k) k i with h1|h1
 ·cases hd:ZJ s (n - k) k i with
  | mk v j=>rw [hd] at h1;simp only [] at h1;subst h1;exact .inl rfl
 rw [h1];exact .inr rfl
theorem ZpT {α β:Type} {g g':α→Nat→Res β} {m:Nat} {D:β→Prop}:∀(l:List α) (i:Nat),i≤m→(∀x∈l,∀j,j≤m→(g x j).In D j m)→(∀x∈l,∀j,j≤m→(g x j).Keep (g' x j))→(Xt g l i).Keep (Xt g' l i)
 | [],i,_,_,_=>.inr rfl
 | x::l,i,hi,hin,h=>by
  rw [Xt,Xt]
  refine Keep.bind (h x sm i hi) fun v j e=>?_
  have h1:=hin x sm i hi
  rw [e] at h1
  exact Keep.map (ZpT l j h1.2.1 (fun y hy=>hin y (by simp [hy])) (fun y hy=>h y (by simp [hy])))
theorem ZqV {β:Type} {g g':Nat→Res β} {m:Nat} {D:β→Prop} (hin:∀j,j≤m→(g j).In D j m) (h:∀j,j≤m→(g j).Keep (g' j)):∀(n i:Nat),i≤m→(QF g n i).Keep (QF g' n i)
 | 0,i,_=>.inr rfl
 | n+1,i,hi=>by
  rw [QF,QF]
  refine Keep.bind (h i hi) fun v j e=>?_
  have h1:=hin i hi
  rw [e] at h1
  exact Keep.map (ZqV hin h n j h1.2.1)
theorem ZqD {g g':Nat→Res GV} {p:GP} {m:Nat} {D:GV→Prop} (hin:∀j,j≤m→(g j).In D j m) (h:∀j,j≤m→(g j).Keep (g' j)):∀(f f' i:Nat),i≤m→m+1 - i≤f→f≤f'→(WD g p f i).Keep (WD g' p f' i)
 | 0,_,i,hi,hf,_=>absurd hf om
 | f+1,0,i,_,_,hf=>absurd hf om
 | f+1,f'+1,i,hi,hf,hff=>by
  rw [WD,WD]
  refine Keep.bind (h i hi) fun v j e=>?_
  have h1:=hin i hi
  rw [e] at h1
  split
  ·exact .inr rfl
  by_cases hj:j=i
  ·rw [if_pos hj,if_pos hj];exact .inr rfl
  rw [if_neg hj,if_neg hj]
  have:=h1.1
  exact ZqD hin h f f' j h1.2.1 om om
theorem ZpL {α β:Type} {g g':α→Nat→Res β} (l:List α) (n i:Nat) (h:∀hl:n < l.length,(g l[n] i).Keep (g' l[n] i)):(atD g l n i).Keep (atD g' l n i):=by
 unfold atD
 by_cases hl:n < l.length
 ·rw [List.getElem?_eq_getElem hl];exact h hl
 rw [List.getElem?_eq_none om];exact .inr rfl
theorem ZqG {S m:Nat} {g g':GT→Env→Nat→Res GV} (t:GT) (lo:Int) (e:Env) (i:Nat) (hg:Zp (!e.isEmpty) t) (hk:t.k=10) (ox:okT t) (hs:Zb t≤S) (h0:0≤lo∧lo≤8) (he:Ye S e)
  (h:∀x e,Zp (!e.isEmpty) x→okT x→Zb x≤S→Ye S e→(g x e i).Keep (g' x e i)):(Wd g t lo e i).Keep (Wd g' t lo e i):=by
 have hse:=Zq t
 have hga:=(Zk.1 hg).2.2
 have hoa:=(Ze.1 ox).2.2.2.2.2.2.2.2
 unfold Wd
 split
 ·refine ZpL _ _ _ fun hl=>?_
  exact qa6
 refine ZpL _ _ _ fun hl=>?_
 exact qa4
theorem ZqE {s s':ByteArray} (h:ZpZ s s') (S:Nat):∀(f:Nat) (t:GT) (e:Env) (i:Nat),Zp (!e.isEmpty) t→okT t→Zb t≤S→Ye S e→i≤s.size→(Zd s f t e i).Keep (Zd s' f t e i)
 | 0,_,_,_,_,_,_,_,_=>.inr rfl
 | f+1,t,e,i,hg,ox,hs,he,hi=>by
  have ih:=ZqE h S f
  have hn:=(Zk.1 hg).1
  have harg:¬t.k=10→∀x∈t.a,∀j,j≤s.size→(Zd s f x e j).In okV j s.size:=fun hk x hx j hj=>
   WJ s S f x e j (YG hg hk hx) (Jl ox hx) (by have:=Q6 hx;omega) he hj
  have hkeep:¬t.k=10→∀x∈t.a,∀j,j≤s.size→(Zd s f x e j).Keep (Zd s' f x e j):=fun hk x hx j hj=>
   ih x e j (YG hg hk hx) (Jl ox hx) (by have:=Q6 hx;omega) he hj
  by_cases h1:t.k=1
  ·rw [ZaN _ _ _ _ _ h1,ZaN _ _ _ _ _ h1]
   exact .inr rfl
  by_cases h2:t.k=2
  ·rw [ZaO _ _ _ _ _ h2,ZaO _ _ _ _ _ h2]
   exact Keep.map (Keep.map (ZpG (Zpx h _ i)))
  by_cases h3:t.k=3
  ·rw [ZaP _ _ _ _ _ h3,ZaP _ _ _ _ _ h3]
   obtain ⟨a,b⟩:=JU hn h3
   obtain ⟨c1,c2,c3⟩:=Zbi s t.w i hi b
   refine Keep.bind (ZpG (Zrj h t.w i)) fun k j hr=>ZpL _ _ _ fun hl=>hkeep om _ (List.getElem_mem hl) j ?_
   have:=Qt c1 c2 c3
   rw [hr] at this
   exact this.2.1
  by_cases h4:t.k=4
  ·rw [ZaQ _ _ _ _ _ h4,ZaQ _ _ _ _ _ h4]
   exact Keep.bind (ZpG (Zq5 h t.w i)) fun k j hr=>ZpL _ _ _ fun hl=>.inr rfl
  by_cases h5:t.k=5
  ·rw [ZaR _ _ _ _ _ h5,ZaR _ _ _ _ _ h5]
   exact Keep.map (ZpT t.a i hi (harg om) (hkeep om))
  by_cases h6:t.k=6
  ·rw [ZaS _ _ _ _ _ h6,ZaS _ _ _ _ _ h6]
   obtain ⟨a,b,c,d⟩:=WO hn h6
   refine Keep.bind (r:=WK s t.lo t.hi i) (r':=WK s' t.lo t.hi i) (Keep.map (ZpG (Zpx h _ i))) fun n j hr=>?_
   have h1:=Zdg s t.lo t.hi i hi c
   have hr':WK s t.lo t.hi i=.ok n j:=hr
   rw [hr'] at h1
   exact Keep.map (ZqV (fun q hq=>JM _ _ _ fun hl=>harg om _ (List.getElem_mem hl) q hq) (fun q hq=>ZpL _ _ _ fun hl=>hkeep om _ (List.getElem_mem hl) q hq) _ j h1.2.1)
  by_cases h7:t.k=7
  ·rw [ZaT _ _ _ _ _ h7,ZaT _ _ _ _ _ h7]
   refine Keep.bind (ZpT t.a i hi (harg om) (hkeep om)) fun l j hr=>?_
   exact Keep.map (ZpG (Zrp h _ j))
  by_cases h8:t.k=8
  ·rw [ZaU _ _ _ _ _ h8,ZaU _ _ _ _ _ h8]
   have hal:=Wt hn (.inr (.inr h8))
   obtain ⟨a,b⟩:=JV hn h8
   obtain ⟨c1,c2,c3⟩:=ZbE s t.lo.toNat t.a.length i hi om
   refine Keep.bind (ZpG (Zrq h _ _ i)) fun row j hr=>?_
   have h1:=Qt c1 c2 c3
   rw [hr] at h1
   exact Keep.map (ZpT _ j h1.2.1 (fun x hx=>harg om x (QY hx)) (fun x hx=>hkeep om x (QY hx)))
  by_cases h9:t.k=9
  ·rw [ZaV _ _ _ _ _ h9,ZaV _ _ _ _ _ h9]
   exact ZqD (fun q hq=>JM _ _ _ fun hl=>harg om _ (List.getElem_mem hl) q hq) (fun q hq=>ZpL _ _ _ fun hl=>hkeep om _ (List.getElem_mem hl) q hq) _ _ i hi (Nat.le_refl _) (by have:=h.1;omega)
  by_cases h11:t.k=11
  ·rw [ZbR _ _ _ _ _ h11,ZbR _ _ _ _ _ h11]
   cases e with
   | nil=>exact .inr rfl
   | cons p up=>
    obtain ⟨t',m⟩:=p
    obtain ⟨e1,e2,e3,e4,e5,e6,e7⟩:=he
    exact ZqG (m:=s.size) t' m up i e1 e2 e3 e4 ⟨e5,e6⟩ e7 fun x e a b c d=>ih x e i a b c d hi
  rw [ZdC _ _ _ _ _ h1 h2 h3 h4 h5 h6 h7 h8 h9 h11,ZdC _ _ _ _ _ h1 h2 h3 h4 h5 h6 h7 h8 h9 h11]
  have h10:t.k=10:=by have:=(Y9 hn).1;omega
  obtain ⟨a,b,c⟩:=Yl hn h10
  exact ZqG (m:=s.size) t t.lo e i hg h10 ox hs ⟨b,c⟩ he fun x e a b c d=>ih x e i a b c d hi
theorem Kr:∀(l l':List GV) (j:Nat),j≤l.length→j≤l'.length→(∀q (h:q < l.length) (h':q < l'.length),q < j→Vj l[q] l'[q]=0)→Ud l l'=Ud (l.drop j) (l'.drop j)
 | _,_,0,_,_,_=>sm
 | [],_,j+1,h,_,_=>by simp at h
 | _::_,[],j+1,_,h,_=>by simp at h
 | x::l,y::l',j+1,h,h',g=>by
  have g0:=g 0 sm sm om
  simp only [List.getElem_cons_zero] at g0
  rw [Ud,if_pos g0,List.drop_succ_cons,List.drop_succ_cons]
  exact Kr l l' j (by simpa using h) (by simpa using h') fun q hq hq' hj=>by
   have:=g (q+1) (by simpa using hq) (by simpa using hq') om
   simpa only [List.getElem_cons_succ] using this
theorem Uu (l l':List GV) (j:Nat) (h:j < l.length) (h':j < l'.length) (g:∀q (h:q < l.length) (h':q < l'.length),q < j→Vj l[q] l'[q]=0) (hn:Vj l[j] l'[j]≠0):Ud l l'=Vj l[j] l'[j]:=by
 rw [Kr l l' j om om g,List.drop_eq_getElem_cons h,List.drop_eq_getElem_cons h',Ud,if_neg hn]
theorem VC (l l':List GV) (j:Nat) (hj:j=min l.length l'.length) (g:∀q (h:q < l.length) (h':q < l'.length),q < j→Vj l[q] l'[q]=0):Ud l l'=Vq l.length l'.length:=by
 rw [Kr l l' j om om g]
 rcases Nat.lt_trichotomy l.length l'.length with h|h|h
 ·rw [List.drop_eq_nil_of_le om,List.drop_eq_getElem_cons (show j < l'.length by omega),Ud,Vq,if_pos om]
 ·rw [List.drop_eq_nil_of_le om,List.drop_eq_nil_of_le om,Ud,Vq,if_neg om,if_pos om]
 rw [List.drop_eq_nil_of_le (show l'.length≤j by omega),List.drop_eq_getElem_cons (show j < l.length by omega),Ud,Vq,if_neg om,if_neg om]
theorem qa7 {p:Prop} (h:p:=by
 go_wp2_with fail
 all_goals go_ret
 all_goals exact ⟨sm,rfl⟩):p:=h
theorem Zii (a:Int) (w:World):Calls prog 332 #[.int .u8 a] w fun e w'=>e=.returned (.bool false)∧w=w':=by
 go_enter func332,ntmps332
 exact qa7
theorem ZgV (a:Int) (w:World):Calls prog 333 #[.int .i64 a] w fun e w'=>e=.returned (.bool false)∧w=w':=by
 go_enter func333,ntmps333
 exact qa7
theorem Zjo (a:Int) (w:World):Calls prog 307 #[.int .i64 a] w fun e w'=>e=.returned (.bool false)∧w=w':=by
 go_enter func307,ntmps307
 exact qa7
theorem qa2 {p:Prop} (h:p:=by
 go_ret
 all_goals refine ⟨Zf ?_,rfl⟩
 all_goals rw [←HF.out]
 all_goals unfold Vq
 all_goals (first|rfl|omega|((try simp only [beq_iff_eq,beq_eq_false_iff_ne,bne_iff_ne,bne_eq_false_iff_eq,decide_eq_true_eq,decide_eq_false_iff_not,ne_eq,Bool.and_eq_true,Bool.or_eq_true,Bool.and_eq_false_iff,Bool.or_eq_false_iff,Bool.not_eq_true',Bool.not_eq_false'] at *);(repeat' split)<;>first|rfl|omega|contradiction|(simp_all;done)|(simp_all;omega)))):p:=h
theorem Zc9 (a b:Int) (w:World) (ha:Yg a) (hb:Yg b):Calls prog 329 #[.int .u8 a,.int .u8 b] w fun e w'=>e=.returned (.int .i64 (Vq a b))∧w=w':=by
 obtain ⟨h0,h1⟩:=ha
 obtain ⟨h2,h3⟩:=hb
 generalize hF:Vq a b=F
 have HF:=hid hF
 clear hF
 go_enter func329,ntmps329
 go_wp2_with (go_at_call 332;refine (Zii _ _).mono ?_;rintro e w' ⟨rfl,rfl⟩)
 all_goals exact qa2
theorem Zb3 (a b:Int) (w:World) (ha:Zv a) (hb:Zv b):Calls prog 330 #[.int .i64 a,.int .i64 b] w fun e w'=>e=.returned (.int .i64 (Vq a b))∧w=w':=by
 obtain ⟨h0,h1⟩:=ha
 obtain ⟨h2,h3⟩:=hb
 generalize hF:Vq a b=F
 have HF:=hid hF
 clear hF
 go_enter func330,ntmps330
 go_wp2_with (go_at_call 333;refine (ZgV _ _).mono ?_;rintro e w' ⟨rfl,rfl⟩)
 all_goals exact qa2
theorem Ue (a b:Int) (w:World) (ha:Zv a) (hb:Zv b):Calls prog 331 #[.int .i64 a,.int .i64 b] w fun e w'=>e=.returned (.int .i64 (Vq a b))∧w=w':=by
 obtain ⟨h0,h1⟩:=ha
 obtain ⟨h2,h3⟩:=hb
 generalize hF:Vq a b=F
 have HF:=hid hF
 clear hF
 go_enter func331,ntmps331
 go_wp2_with (go_at_call 307;refine (Zjo _ _).mono ?_;rintro e w' ⟨rfl,rfl⟩)
 all_goals exact qa2
theorem qa5 {p:Prop} (h:p:=by
 have hne:C≠0:=by simpa using ‹(C != 0)=true›
 go_ret
 exact ⟨Zf (by rw [←HF.out,Uu x.l y.l j hlt1 hlt2 HS.out (by rw [HC.out];exact hne),HC.out]),hbb⟩):p:=h
theorem qa0 {p:Prop} (h:p:=by
 obtain ⟨j,hj,rfl,HS,hb,hz,hcx,hcy⟩:=hrel
 by_cases hlt:j < y.l.length
 ·have hlt1:j < x.l.length:=om
  have hlt2:j < y.l.length:=om
  obtain ⟨b,o,mj,rfl,hA,hbs,g0,gx⟩:=HL.out.get j hlt1
  obtain ⟨b',o',mj',rfl,hA',hbs',g0',gy⟩:=HL'.out.get j hlt2
  obtain ⟨k0,k1,k2⟩:=At3.1 (g0.ext (ZtY hb) (A:=fun _=>True) trivial)
  obtain ⟨k0',k1',k2'⟩:=At3.1 (g0'.ext (ZtY hb) (A:=fun _=>True) trivial)
  have hs1:b < wr.heap.size:=om
  have hs2:b' < wr.heap.size:=om
  clear hbs hbs' g0 g0'
  generalize hC:Vj x.l[j] y.l[j]=C
  have HC:=hid hC
  clear hC
  go_wp2_with fail
  refine Z0 10 kr kr ?_
  simp only [List.take_succ_cons,List.take_zero,List.drop_succ_cons,List.drop_zero]
  repeat still_step
  refine wpStill_nil ?_
  go_wp2_with (go_at_call 328;refine (IH.out x.l[j] y.l[j] _ A A' mj mj' (by have:=ZX x.l j hlt1;omega) (O.out.1.get j hlt1) (O.out.2.get j hlt2)
    (by exact Zl.1 (Zt5 (ZtY hb.drew) _ _ gx)) (by exact Zl.1 (Zt5 (ZtY hb.drew) _ _ gy))).mono ?_;rw [HC.out];rintro e2 w2 ⟨rfl,hb2⟩)
  all_goals have hbb:Below w.heap.size w w2:=(hb.drew).trans (hb2.mono (by simp;omega))
  ·exact qa5
  have hne:C=0:=by simpa using ‹(C != 0)=false›
  have hz2:=hb2.size
  simp at hz2
  go_roundg (gk - 1)
  case rel=>exact ⟨j+1,om,by go_num,fun q h h' hq=>(by
   by_cases hqj:q=j
   ·subst hqj;rw [HC.out];exact hne
   exact HS.out q h h' om),hbb,om,(hb2.cell (by simp;omega)).trans gs,(hb2.cell (by simp;omega)).trans gs⟩
  case measure=>omega
 have hjl:j=y.l.length:=om
 go_wp2_with (go_at_call 331;refine (Ue _ _ _ ⟨om,om⟩ ⟨om,om⟩).mono ?_;rintro e w' ⟨rfl,rfl⟩)
 go_ret
 exact ⟨Zf (by rw [←HF.out,VC x.l y.l j om HS.out]),hb⟩):p:=h
theorem qa1 {p:Prop} (h:p:=by
 obtain ⟨j,hj,rfl,HS,hb,hz,hcx,hcy⟩:=hrel
 by_cases hlt:j < x.l.length
 ·have hlt1:j < x.l.length:=om
  have hlt2:j < y.l.length:=om
  obtain ⟨b,o,mj,rfl,hA,hbs,g0,gx⟩:=HL.out.get j hlt1
  obtain ⟨b',o',mj',rfl,hA',hbs',g0',gy⟩:=HL'.out.get j hlt2
  obtain ⟨k0,k1,k2⟩:=At3.1 (g0.ext (ZtY hb) (A:=fun _=>True) trivial)
  obtain ⟨k0',k1',k2'⟩:=At3.1 (g0'.ext (ZtY hb) (A:=fun _=>True) trivial)
  have hs1:b < wr.heap.size:=om
  have hs2:b' < wr.heap.size:=om
  clear hbs hbs' g0 g0'
  generalize hC:Vj x.l[j] y.l[j]=C
  have HC:=hid hC
  clear hC
  go_wp2_with fail
  refine Z0 10 kr kr ?_
  simp only [List.take_succ_cons,List.take_zero,List.drop_succ_cons,List.drop_zero]
  repeat still_step
  refine wpStill_nil ?_
  go_wp2_with (go_at_call 328;refine (IH.out x.l[j] y.l[j] _ A A' mj mj' (by have:=ZX x.l j hlt1;omega) (O.out.1.get j hlt1) (O.out.2.get j hlt2)
    (by exact Zl.1 (Zt5 (ZtY hb.drew) _ _ gx)) (by exact Zl.1 (Zt5 (ZtY hb.drew) _ _ gy))).mono ?_;rw [HC.out];rintro e2 w2 ⟨rfl,hb2⟩)
  all_goals have hbb:Below w.heap.size w w2:=(hb.drew).trans (hb2.mono (by simp;omega))
  ·exact qa5
  have hne:C=0:=by simpa using ‹(C != 0)=false›
  have hz2:=hb2.size
  simp at hz2
  go_roundg (gk - 1)
  case rel=>exact ⟨j+1,om,by go_num,fun q h h' hq=>(by
   by_cases hqj:q=j
   ·subst hqj;rw [HC.out];exact hne
   exact HS.out q h h' om),hbb,om,(hb2.cell (by simp;omega)).trans gs,(hb2.cell (by simp;omega)).trans gs⟩
  case measure=>omega
 have hjl:j=x.l.length:=om
 go_wp2_with (go_at_call 331;refine (Ue _ _ _ ⟨om,om⟩ ⟨om,om⟩).mono ?_;rintro e w' ⟨rfl,rfl⟩)
 go_ret
 exact ⟨Zf (by rw [←HF.out,VC x.l y.l j om HS.out]),hb⟩):p:=h
set_option maxRecDepth 100000
theorem Zi5 (N:Nat):∀(x y:GV) (w:World) (A A':Nat→Prop) (m m':VA),Zg x≤N→okV x→okV y→RVs w A x.l m.a→RVs w A' y.l m'.a →
  Calls prog 328 #[VV x m,VV y m'] w fun e w'=>e=.returned (.int .i64 (Vj x y))∧Below w.heap.size w w':=by
 induction N with
 | zero=>intro x;have:=Zr x;intros;omega
 | succ N ih=>
  rintro x y w A A' ⟨ma,mc⟩ ⟨ma',mc'⟩ hN ox oy hl hl'
  dsimp only at hl hl'
  have IH:=hid ih
  have HL:=hid hl
  have HL':=hid hl'
  rw [XZ] at hN
  clear hl hl' ih
  obtain ⟨⟨x1,x2⟩,⟨x3,x4⟩,x5,ox'⟩:=ZA.1 ox
  obtain ⟨⟨y1,y2⟩,⟨y3,y4⟩,y5,oy'⟩:=ZA.1 oy
  have O:=hid (And.intro ox' oy')
  clear ox oy ox' oy'
  rw [Zgi]
  by_cases hk:x.k=y.k
  case neg=>
   rw [if_neg hk]
   have hk':(x.k != y.k)=true:=by simpa using hk
   clear hk
   go_enter func328,ntmps328
   go_wp2_with (go_at_call 329;refine (Zc9 _ _ _ ⟨om,om⟩ ⟨om,om⟩).mono ?_;rintro e w' ⟨rfl,rfl⟩)
   go_ret
   exact ⟨rfl,ZtX⟩
  rw [if_pos hk]
  have hk':(x.k != y.k)=false:=by simpa using hk
  clear hk
  by_cases h12:x.k=1∨x.k=2
  ·rw [if_pos h12]
   have HB:=hid (show Zam x.k=true by rcases h12 with h|h<;>simp [Zam,h])
   clear h12
   go_enter func328,ntmps328
   go_wp2_with (first
    | (go_at_call 290;refine (VW _ _ ⟨om,om⟩).mono ?_;rw [HB.out];rintro e w' ⟨rfl,rfl⟩)
    | (go_at_call 330;refine (Zb3 _ _ _ ⟨om,om⟩ ⟨om,om⟩).mono ?_;rintro e w' ⟨rfl,rfl⟩))
   go_ret
   exact ⟨rfl,ZtX⟩
  rw [if_neg h12]
  have HB:=hid (show Zam x.k=false by simp only [Zam,Bool.or_eq_false_iff,beq_eq_false_iff_ne];omega)
  clear h12
  by_cases h34:x.k=3∨x.k=4
  case neg=>
   rw [if_neg h34]
   have h3':(x.k != 3)=true:=by simp;omega
   have h4':(x.k != 4)=true:=by simp;omega
   clear h34
   go_enter func328,ntmps328
   go_wp2_with (go_at_call 290;refine (VW _ _ ⟨om,om⟩).mono ?_;rw [HB.out];rintro e w' ⟨rfl,rfl⟩)
   go_ret
   exact ⟨rfl,ZtX⟩
  rw [if_pos h34]
  generalize hF:Ud x.l y.l=F
  have HF:=hid hF
  clear hF
  rcases h34 with h34|h34
  ·have h3':(x.k != 3)=false:=by simp [h34]
   clear h34
   rcases Nat.lt_or_ge y.l.length x.l.length with hxy|hxy
   ·have hxyI:(y.l.length:Int) < (x.l.length:Int):=om
    go_enter func328,ntmps328
    go_wp2_with (go_at_call 290;refine (VW _ _ ⟨om,om⟩).mono ?_;rw [HB.out];rintro e w' ⟨rfl,rfl⟩)
    go_loopg [43] (y.l.length) (fun gk i wr=>∃j:Nat,gk+j=y.l.length∧i=.int .i64 j∧Hid (∀q (h:q < x.l.length) (h':q < y.l.length),q < j→Vj x.l[q] y.l[q]=0)∧Below w.heap.size w wr∧w.heap.size+1 < wr.heap.size ∧
     wr.cell? ⟨w.heap.size,2,none⟩=some (.slice ma x.l.length mc)∧wr.cell? ⟨w.heap.size+1,2,none⟩=some (.slice ma' y.l.length mc'))
    case atStart=>exact ⟨0,om,by go_num,fun q h h' hq=>absurd hq om,ZtX,sm,gs,gs⟩
    case round=>
     exact qa0
   have hxyI:¬(y.l.length:Int) < (x.l.length:Int):=om
   go_enter func328,ntmps328
   go_wp2_with (go_at_call 290;refine (VW _ _ ⟨om,om⟩).mono ?_;rw [HB.out];rintro e w' ⟨rfl,rfl⟩)
   go_loopg [43] (x.l.length) (fun gk i wr=>∃j:Nat,gk+j=x.l.length∧i=.int .i64 j∧Hid (∀q (h:q < x.l.length) (h':q < y.l.length),q < j→Vj x.l[q] y.l[q]=0)∧Below w.heap.size w wr∧w.heap.size+1 < wr.heap.size ∧
    wr.cell? ⟨w.heap.size,2,none⟩=some (.slice ma x.l.length mc)∧wr.cell? ⟨w.heap.size+1,2,none⟩=some (.slice ma' y.l.length mc'))
   case atStart=>exact ⟨0,om,by go_num,fun q h h' hq=>absurd hq om,ZtX,sm,gs,gs⟩
   case round=>
    exact qa1
  have h3':(x.k != 3)=true:=by simp [h34]
  have h4':(x.k != 4)=false:=by simp [h34]
  clear h34
  rcases Nat.lt_or_ge y.l.length x.l.length with hxy|hxy
  ·have hxyI:(y.l.length:Int) < (x.l.length:Int):=om
   go_enter func328,ntmps328
   go_wp2_with (go_at_call 290;refine (VW _ _ ⟨om,om⟩).mono ?_;rw [HB.out];rintro e w' ⟨rfl,rfl⟩)
   go_loopg [43] (y.l.length) (fun gk i wr=>∃j:Nat,gk+j=y.l.length∧i=.int .i64 j∧Hid (∀q (h:q < x.l.length) (h':q < y.l.length),q < j→Vj x.l[q] y.l[q]=0)∧Below w.heap.size w wr∧w.heap.size+1 < wr.heap.size ∧
    wr.cell? ⟨w.heap.size,2,none⟩=some (.slice ma x.l.length mc)∧wr.cell? ⟨w.heap.size+1,2,none⟩=some (.slice ma' y.l.length mc'))
   case atStart=>exact ⟨0,om,by go_num,fun q h h' hq=>absurd hq om,ZtX,sm,gs,gs⟩
   case round=>
    exact qa0
  have hxyI:¬(y.l.length:Int) < (x.l.length:Int):=om
  go_enter func328,ntmps328
  go_wp2_with (go_at_call 290;refine (VW _ _ ⟨om,om⟩).mono ?_;rw [HB.out];rintro e w' ⟨rfl,rfl⟩)
  go_loopg [43] (x.l.length) (fun gk i wr=>∃j:Nat,gk+j=x.l.length∧i=.int .i64 j∧Hid (∀q (h:q < x.l.length) (h':q < y.l.length),q < j→Vj x.l[q] y.l[q]=0)∧Below w.heap.size w wr∧w.heap.size+1 < wr.heap.size ∧
   wr.cell? ⟨w.heap.size,2,none⟩=some (.slice ma x.l.length mc)∧wr.cell? ⟨w.heap.size+1,2,none⟩=some (.slice ma' y.l.length mc'))
  case atStart=>exact ⟨0,om,by go_num,fun q h h' hq=>absurd hq om,ZtX,sm,gs,gs⟩
  case round=>
   exact qa1
set_option maxRecDepth 512
inductive Sub:GT→Env→GT→Env→Prop where
 | refl (x:GT) (e:Env):Sub x e x e
 | base (r t:GT) (m:Int) (up:Env) (hk:r.k=10) (hl:r.lo=m) (ha:r.a=t.a) (x:GT) (hg:Zp true x):Sub x ((t,m)::up) (UB r x) up
 | lift (t t':GT) (m:Int) (e e':Env) (a0 a0':GT) (h0:t.a[0]? =some a0) (h0':t'.a[0]? =some a0') (hs:Sub a0 e a0' e') (h1:t'.a[1]? =t.a[1]?) (x:GT):Sub x ((t,m)::e) x ((t',m)::e')
 | lone (t t':GT) (m:Int) (e e':Env) (h0:t.a[0]? =none) (h0':t'.a[0]? =none) (h1:t'.a[1]? =t.a[1]?) (x:GT):Sub x ((t,m)::e) x ((t',m)::e')
theorem Sub.frame {x:GT} {e:Env} {x':GT} {e':Env} (h:Sub x e x' e') (h1:∀a0,x.a[0]? =some a0→∃a0',x'.a[0]? =some a0'∧Sub a0 e a0' e') (h2:x.a[0]? =none→x'.a[0]? =none) (h3:x'.a[1]? =x.a[1]?) (m:Int) (y:GT):Sub y ((x,m)::e) y ((x',m)::e'):=by
 cases ha:x.a[0]? with
 | none=>exact .lone x x' m e e' ha (h2 ha) h3 y
 | some a0=>
  obtain ⟨a0',e1,e2⟩:=h1 a0 ha
  exact .lift x x' m e e' a0 a0' ha e1 e2 h3 y
inductive Subs:List GT→Env→List GT→Env→Prop where
 | nil (e e':Env):Subs [] e [] e'
 | cons {x x':GT} {l l':List GT} {e e':Env}:Sub x e x' e'→Subs l e l' e'→Subs (x::l) e (x'::l') e'
theorem Subs.all {e e':Env} (h:∀x,Sub x e x e'):∀l,Subs l e l e'
 | []=>.nil _ _
 | x::l=>.cons (h x) (Subs.all h l)
theorem Subs.put {r t:GT} {m:Int} {up:Env} (hk:r.k=10) (hl:r.lo=m) (ha:r.a=t.a) {k:Int} (h10:k≠10):∀(l:List GT) (i:Nat),goodTs true k i l→Subs l ((t,m)::up) (YH r k i l) up
 | [],_,_=>.nil _ _
 | x::l,i,h=>by
  simp only [goodTs,Bool.true_or] at h
  rw [YH,if_neg (by simp [ZU,h10])]
  exact .cons (.base r t m up hk hl ha x h.1) (Subs.put hk hl ha h10 l (i+1) h.2)
theorem Sub.node {x x':GT} {e e':Env} (h:Sub x e x' e') (h11:x.k≠11):x'.k=x.k∧x'.v=x.v∧x'.vs=x.vs∧x'.lo=x.lo∧x'.hi=x.hi∧x'.w=x.w∧x'.p=x.p∧x'.a.length=x.a.length∧(x.k≠10→Subs x.a e x'.a e') ∧
  ((∀a0,x.a[0]? =some a0→∃a0',x'.a[0]? =some a0'∧Sub a0 e a0' e')∧(x.a[0]? =none→x'.a[0]? =none)∧((x.k=10∨x.k < 1∨11 < x.k)→x'.a[1]? =x.a[1]?)):=by
 cases h with
 | refl=>exact ⟨rfl,rfl,rfl,rfl,rfl,rfl,rfl,rfl,fun _=>Subs.all (fun x=>.refl x _) _,fun a0 h=>⟨a0,h,.refl _ _⟩,id,fun _=>rfl⟩
 | base r t m up hk hl ha _ hg=>
  obtain ⟨hn, -,hgs⟩:=Zk.1 hg
  have hkr:=(Y9 hn).1
  rw [Jo,if_neg h11]
  refine ⟨rfl,rfl,rfl,rfl,rfl,rfl,rfl,Yb _ _ _ _,fun h10=>Subs.put hk hl ha h10 _ _ hgs,fun a0 h=>?_,fun h=>?_,fun h10=>?_⟩
  ·cases hx:x.a with
   | nil=>rw [hx] at h;simp at h
   | cons y l=>
    rw [hx] at h
    simp only [List.getElem?_cons_zero,Option.some.injEq] at h
    subst h
    rw [hx] at hgs
    simp only [goodTs,Bool.true_or] at hgs
    refine ⟨UB r y,?_,.base r t m _ hk hl ha y hgs.1⟩
    simp [YH,ZU]
  ·cases hx:x.a with
   | nil=>simp [YH]
   | cons y l=>rw [hx] at h;simp at h
  cases hx:x.a with
  | nil=>simp [YH]
  | cons y l=>
   cases l with
   | nil=>simp [YH]
   | cons z l=>simp [YH,ZU,show x.k=10 by omega]
 | lift t t' m e e' a0 a0' h0 h0' hs h1=>
  exact ⟨rfl,rfl,rfl,rfl,rfl,rfl,rfl,rfl,fun _=>Subs.all (fun y=>.lift t t' m _ _ a0 a0' h0 h0' hs h1 y) _,fun b h=>⟨b,h,.lift t t' m _ _ a0 a0' h0 h0' hs h1 b⟩,id,fun _=>rfl⟩
 | lone t t' m e e' h0 h0' h1=>
  exact ⟨rfl,rfl,rfl,rfl,rfl,rfl,rfl,rfl,fun _=>Subs.all (fun y=>.lone t t' m _ _ h0 h0' h1 y) _,fun b h=>⟨b,h,.lone t t' m _ _ h0 h0' h1 b⟩,id,fun _=>rfl⟩
theorem Sub.self {x x':GT} {e e':Env} (h:Sub x e x' e') (h11:x.k=11):(x'=x∧e=e') ∨
  ∃(t t':GT) (m:Int) (up up':Env),e=(t,m)::up∧((x'=x∧e'=(t',m)::up')∨(x'=t'∧x'.k=10∧x'.lo=m∧e'=up'))∧t'.a[1]? =t.a[1]? ∧(∀a0,t.a[0]? =some a0→∃a0',t'.a[0]? =some a0'∧Sub a0 up a0' up')∧(t.a[0]? =none→t'.a[0]? =none):=by
 cases h with
 | refl=>exact .inl ⟨rfl,rfl⟩
 | base r t m up hk hl ha _ hg=>
  refine .inr ⟨t,r,m,_,_,rfl,.inr ?_,by rw [ha],fun a0 h=>⟨a0,by rw [ha];exact h,.refl _ _⟩,fun h=>by rw [ha];exact h⟩
  rw [Jo,if_pos h11]
  exact ⟨rfl,hk,hl,rfl⟩
 | lift t t' m e e' a0 a0' h0 h0' hs h1=>
  exact .inr ⟨t,t',m,_,_,rfl,.inl ⟨rfl,rfl⟩,h1,fun b h=>⟨a0',h0',by rw [h0] at h;cases h;exact hs⟩,fun h=>(by rw [h0] at h;cases h)⟩
 | lone t t' m e e' h0 h0' h1=>
  exact .inr ⟨t,t',m,_,_,rfl,.inl ⟨rfl,rfl⟩,h1,fun b h=>(by rw [h0] at h;cases h),fun _=>h0'⟩
theorem Sub.step {t t':GT} {up up':Env} (h1:t'.a[1]? =t.a[1]?) (h2:∀a0,t.a[0]? =some a0→∃a0',t'.a[0]? =some a0'∧Sub a0 up a0' up') (h3:t.a[0]? =none→t'.a[0]? =none) (m:Int) (y:GT):Sub y ((t,m)::up) y ((t',m)::up'):=by
 cases ha:t.a[0]? with
 | none=>exact .lone t t' m up up' ha (h3 ha) h1 y
 | some a0=>
  obtain ⟨a0',e1,e2⟩:=h2 a0 ha
  exact .lift t t' m up up' a0 a0' ha e1 e2 h1 y
theorem ZcV {g:GT→Env→Nat→Res GV} {t t':GT} {up up':Env} (hg:∀x e x' e' i,Sub x e x' e'→g x e i=g x' e' i) (h1:t'.a[1]? =t.a[1]?) (h2:∀a0,t.a[0]? =some a0→∃a0',t'.a[0]? =some a0'∧Sub a0 up a0' up') (h3:t.a[0]? =none→t'.a[0]? =none) (m:Int) (i:Nat):
  Wd g t m up i=Wd g t' m up' i:=by
 unfold Wd atD
 split
 ·cases ha:t.a[0]? with
  | none=>rw [h3 ha]
  | some a0=>
   obtain ⟨a0',e1,e2⟩:=h2 a0 ha
   rw [e1]
   exact hg _ _ _ _ _ e2
 rw [h1]
 cases hb:t.a[1]? with
 | none=>rfl
 | some b=>exact hg _ _ _ _ _ (Sub.step h1 h2 h3 (m - 1) b)
theorem Za2 {g:GT→Env→Nat→Res GV} (hg:∀x e x' e' i,Sub x e x' e'→g x e i=g x' e' i):∀{l l':List GT} {e e':Env},Subs l e l' e'→∀i,Xt (fun x=>g x e) l i=Xt (fun x=>g x e') l' i
 | _,_,_,_,.nil _ _,i=>rfl
 | _,_,_,_,.cons h hs,i=>by
  simp only [Xt]
  rw [hg _ _ _ _ _ h]
  congr 1
  funext v j
  rw [Za2 hg hs]
theorem Subs.get {l l':List GT} {e e':Env} (h:Subs l e l' e'):∀(j:Nat),(∀x,l[j]? =some x→∃x',l'[j]? =some x'∧Sub x e x' e')∧(l[j]? =none→l'[j]? =none):=by
 induction h with
 | nil=>intro j;simp
 | cons h hs ih=>
  intro j
  cases j with
  | zero=>simp;exact h
  | succ j=>simpa using ih j
theorem Zi4 {g:GT→Env→Nat→Res GV} (hg:∀x e x' e' i,Sub x e x' e'→g x e i=g x' e' i) {l l':List GT} {e e':Env} (h:Subs l e l' e') (n i:Nat):atD (fun x=>g x e) l n i=atD (fun x=>g x e') l' n i:=by
 unfold atD
 obtain ⟨h1,h2⟩:=h.get n
 cases ha:l[n]? with
 | none=>rw [h2 ha]
 | some x=>
  obtain ⟨x',e1,e2⟩:=h1 x ha
  rw [e1]
  exact hg _ _ _ _ _ e2
theorem Subs.pick {l l':List GT} {e e':Env} (h:Subs l e l' e'):∀row:List Int,Subs (YC l row) e (YC l' row) e'
 | []=>.nil _ _
 | i::row=>by
  obtain ⟨h1,h2⟩:=h.get i.toNat
  unfold YC
  rw [List.filterMap_cons,List.filterMap_cons]
  cases ha:l[i.toNat]? with
  | none=>rw [h2 ha];exact Subs.pick h row
  | some x=>
   obtain ⟨x',e1,e2⟩:=h1 x ha
   rw [e1]
   exact .cons e2 (Subs.pick h row)
theorem Subs.length {l l':List GT} {e e':Env} (h:Subs l e l' e'):l'.length=l.length:=by
 induction h with
 | nil=>rfl
 | cons _ _ ih=>simp [ih]
theorem ZcN (s:ByteArray):∀(f:Nat) (x:GT) (e:Env) (x':GT) (e':Env) (i:Nat),Sub x e x' e'→Zd s f x e i=Zd s f x' e' i
 | 0,_,_,_,_,_,_=>rfl
 | f+1,x,e,x',e',i,h=>by
  have ih:=fun x e x' e' i h=>ZcN s f x e x' e' i h
  by_cases h11:x.k=11
  ·rcases h.self h11 with ⟨rfl,rfl⟩|⟨t,t',m,up,up',rfl,h1,h2,h3,h4⟩
   ·rfl
   have hl:Zd s (f+1) x ((t,m)::up) i=Wd (Zd s f) t m up i:=by
    simp [Zd,h11]
   rw [hl,ZcV ih h2 h3 h4]
   rcases h1 with ⟨rfl,rfl⟩|⟨rfl,h5,h6,rfl⟩
   ·simp [Zd,h11]
   simp [Zd,h5,h6]
  obtain ⟨e1,e2,e3,e4,e5,e6,e7,e8,e9,e10,e11,e12⟩:=h.node h11
  have hst:(x.k=10∨x.k < 1∨11 < x.k)→Wd (Zd s f) x x.lo e i=Wd (Zd s f) x' x.lo e' i:=fun h=>ZcV ih (e12 h) e10 e11 _ _
  by_cases h10:x.k=10∨x.k < 1∨11 < x.k
  ·have hl:∀y e,(y:GT).k=x.k→Zd s (f+1) y e i=Wd (Zd s f) y y.lo e i:=fun y e hy=>by
    simp only [Zd]
    rw [if_neg om,if_neg om,if_neg om,if_neg om,if_neg om,if_neg om,if_neg om,if_neg om,if_neg om,if_neg om]
   rw [hl x e rfl,hl x' e' e1,e4]
   exact hst h10
  have hs:=e9 om
  have ha:=fun i=>Za2 ih hs i
  have hat:=fun n i=>Zi4 ih hs n i
  have hp:=fun row i=>Za2 ih (hs.pick row) i
  simp only [Zd]
  rw [e1,e2,e3,e4,e5,e6,e7,e8]
  simp only [ha,hat,hp,h11,if_false]
  by_cases h1:x.k=1
  ·rw [if_pos h1,if_pos h1]
  rw [if_neg h1,if_neg h1]
  by_cases h2:x.k=2
  ·rw [if_pos h2,if_pos h2]
  rw [if_neg h2,if_neg h2]
  by_cases h3:x.k=3
  ·rw [if_pos h3,if_pos h3]
  rw [if_neg h3,if_neg h3]
  by_cases h4:x.k=4
  ·rw [if_pos h4,if_pos h4]
  rw [if_neg h4,if_neg h4]
  by_cases h5:x.k=5
  ·rw [if_pos h5,if_pos h5]
  rw [if_neg h5,if_neg h5]
  by_cases h6:x.k=6
  ·rw [if_pos h6,if_pos h6]
  rw [if_neg h6,if_neg h6]
  by_cases h7:x.k=7
  ·rw [if_pos h7,if_pos h7]
  rw [if_neg h7,if_neg h7]
  by_cases h8:x.k=8
  ·rw [if_pos h8,if_pos h8]
  rw [if_neg h8,if_neg h8,if_pos om,if_pos om]
theorem ZcW {g:GT→Env→Int→Int→Option (Int×Int)} {t t':GT} {up up':Env} (hg:∀x e x' e' k n,Sub x e x' e'→g x e k n=g x' e' k n) (h1:t'.a[1]? =t.a[1]?) (h2:∀a0,t.a[0]? =some a0→∃a0',t'.a[0]? =some a0'∧Sub a0 up a0' up') (h3:t.a[0]? =none→t'.a[0]? =none) (m k n:Int):
  Xx g t m up k n=Xx g t' m up' k n:=by
 unfold Xx
 cases Zu n k with
 | none=>rfl
 | some n1=>
  dsimp only
  split
  ·cases ha:t.a[0]? with
   | none=>rw [h3 ha]
   | some a0=>
    obtain ⟨a0',e1,e2⟩:=h2 a0 ha
    rw [e1]
    exact hg _ _ _ _ _ _ e2
  rw [h1]
  cases hb:t.a[1]? with
  | none=>rfl
  | some b=>exact hg _ _ _ _ _ _ (Sub.step h1 h2 h3 (m - 1) b)
theorem Zcs {g:GT→Env→Int→Int→Option (Int×Int)} (hg:∀x e x' e' k n,Sub x e x' e'→g x e k n=g x' e' k n) (k:Int):∀{l l':List GT} {e e':Env},Subs l e l' e'→∀d n,Zx (fun n x=>g x e k n) l d n=Zx (fun n x=>g x e' k n) l' d n
 | _,_,_,_,.nil _ _,d,n=>rfl
 | _,_,_,_,.cons h hs,d,n=>by
  simp only [Zx]
  rw [hg _ _ _ _ _ _ h]
  split
  ·rfl
  exact Zcs hg k hs _ _
theorem ZgA:∀(f:Nat) (x:GT) (e:Env) (x':GT) (e':Env) (k n:Int),Sub x e x' e'→wkT f x e k n=wkT f x' e' k n
 | 0,_,_,_,_,_,_,_=>rfl
 | f+1,x,e,x',e',k,n,h=>by
  have ih:=fun x e x' e' k n h=>ZgA f x e x' e' k n h
  by_cases h11:x.k=11
  ·rcases h.self h11 with ⟨rfl,rfl⟩|⟨t,t',m,up,up',rfl,h1,h2,h3,h4⟩
   ·rfl
   have hl:wkT (f+1) x ((t,m)::up) k n=Xx (wkT f) t m up k n:=by
    simp [wkT,h11]
   rw [hl,ZcW ih h2 h3 h4]
   rcases h1 with ⟨rfl,rfl⟩|⟨rfl,h5,h6,rfl⟩
   ·simp [wkT,h11]
   simp [wkT,h5,h6]
  obtain ⟨e1,e2,e3,e4,e5,e6,e7,e8,e9,e10,e11,e12⟩:=h.node h11
  by_cases h10:x.k=10
  ·have hl:∀y e,(y:GT).k=10→wkT (f+1) y e k n=Xx (wkT f) y y.lo e k n:=fun y e hy=>by
    simp [wkT,hy]
   rw [hl x e h10,hl x' e' (e1.trans h10),e4]
   exact ZcW ih (e12 (.inl h10)) e10 e11 _ _ _
  have ha:=fun k d n=>Zcs ih k (e9 h10) d n
  simp only [wkT]
  rw [e1,e2,e3,e5]
  simp only [h11,h10,if_false]
  split
  ·rfl
  split
  ·rfl
  split
  ·rfl
  split
  ·rfl
  split
  ·rw [ha]
  split
  ·rw [ha]
  rw [ha]
theorem ZeF {t:GT} (hk:t.k=10) (hg:Zp false t) {a0 a1:GT} (h0:t.a[0]? =some a0) (h1:t.a[1]? =some a1):(t.lo=0→YY t a0 a1=a0)∧(t.lo≠0→Sub a1 [(t,t.lo - 1)] (YY t a0 a1) []):=by
 refine ⟨fun h=>by rw [YY,if_pos h],fun h=>?_⟩
 rw [YY,if_neg h]
 have hl:=(List.getElem?_eq_some_iff.1 h1).1
 have hh:=(Zk.1 hg).2.2.get 1 hl
 have he:=(List.getElem?_eq_some_iff.1 h1).2
 rw [he] at hh
 exact .base (Qe t) t (t.lo - 1) [] hk rfl rfl a1 (by simpa [ZU,hk] using hh)
theorem ZeL {t:GT} (hk:t.k=10) (hg:Zp false t) {a0 a1:GT} (h0:t.a[0]? =some a0) (h1:t.a[1]? =some a1) (f:Nat) (k n:Int):wkT (f+1) t [] k n=match Zu n k with|none=>none|some n1=>wkT f (YY t a0 a1) [] k n1:=by
 obtain ⟨g1,g2⟩:=ZeF hk hg h0 h1
 rw [wkT]
 simp only [hk,Xx,h0,h1,if_true,if_false,show ((10:Int)=1)=False by simp,show ((10:Int)=11)=False by simp]
 cases Zu n k with
 | none=>rfl
 | some n1=>
  dsimp only
  by_cases hl:t.lo=0
  ·rw [if_pos hl,g1 hl]
  rw [if_neg hl]
  exact ZgA f _ _ _ _ _ _ (g2 hl)
theorem Zf1 (s:ByteArray) {t:GT} (hk:t.k=10) (hg:Zp false t) {a0 a1:GT} (h0:t.a[0]? =some a0) (h1:t.a[1]? =some a1) (f i:Nat):Zd s (f+1) t [] i=Zd s f (YY t a0 a1) [] i:=by
 obtain ⟨g1,g2⟩:=ZeF hk hg h0 h1
 rw [Zd]
 simp only [hk,Wd,atD,h0,h1]
 simp only [show ((10:Int)=1)=False by simp,show ((10:Int)=2)=False by simp,show ((10:Int)=3)=False by simp,show ((10:Int)=4)=False by simp,show ((10:Int)=5)=False by simp,show ((10:Int)=6)=False by simp,show ((10:Int)=7)=False by simp,show ((10:Int)=8)=False by simp,show ((10:Int)=9)=False by simp,show ((10:Int)=11)=False by simp,if_false]
 by_cases hl:t.lo=0
 ·rw [if_pos hl,g1 hl]
 rw [if_neg hl]
 exact ZcN s f _ _ _ _ _ (g2 hl)
end Go.Proofs.YtkdffbdnjfgpeaaGreat
