/- What the proofs of the Trial statements need: part 11. -/
import Derived.Test.YtclphfojkggcpaaGreatZ3
import Derived.Test.YtclphfojkggcpaaGreatZ7
import Derived.Test.YtclphfojkggcpaaGreatZ8
import Derived.Test.YtclphfojkggcpaaGreatZ9
set_option linter.unusedVariables false
set_option linter.unusedSimpArgs false
namespace Go.Proofs.YtclphfojkggcpaaGreat
open Go.Lib (hid)
open Go Go.RowKit
def cmpI (a b:Int):Int:=if a < b then -1 else if a=b then 0 else 1
mutual
def cmpV:GV→GV→Int
 | ⟨k,n,l⟩,⟨k',n',l'⟩=>if k=k' then (if k=1∨k=2 then cmpI n n' else if k=3∨k=4 then cmpVs l l' else 0) else cmpI k k'
def cmpVs:List GV→List GV→Int
 | [],[]=>0
 | [],_::_=> -1
 | _::_,[]=>1
 | x::l,y::l'=>if cmpV x y=0 then cmpVs l l' else cmpV x y
end
theorem cmpV_eq (x y:GV):cmpV x y=if x.k=y.k then (if x.k=1∨x.k=2 then cmpI x.n y.n else if x.k=3∨x.k=4 then cmpVs x.l y.l else 0) else cmpI x.k y.k:=by cases x;cases y;simp only [cmpV]
def rowG (v:GV):Bool:=v.k==3||v.k==4
mutual
def holdsP:GP→GV→Bool
 | ⟨k,u,n,l⟩,v=>
  if k=1 then true else if k=2 then false
  else if k=3 then sameV v u else if k=4 then decide (cmpV v u < 0)
  else if k=5 then !(holds1 l v)
  else if k=6 then holdsQ false l v else if k=7 then holdsQ true l v
  else if k=8 then (if rowG v=true then (match v.l[n.toNat]? with|some x=>holds1 l x|none=>false) else false)
  else if k=9 then (if rowG v=true then v.l.all (fun x=>holds1 l x) else false)
  else if k=10 then (if rowG v=true then v.l.any (fun x=>holds1 l x) else false)
  else (if rowG v=true then holds1 l ⟨1,v.l.length,[]⟩ else false)
def holds1:List GP→GV→Bool
 | [],_=>false
 | p::_,v=>holdsP p v
def holdsQ (is:Bool):List GP→GV→Bool
 | [],_=> !is
 | p::l,v=>if holdsP p v=is then is else holdsQ is l v
end
inductive Res (α:Type) where
 | ok (a:α) (i:Nat)
 | no (k:Nat)
def Res.bind {α β:Type}:Res α→(α→Nat→Res β)→Res β
 | .ok a i,g=>g a i
 | .no k,_=>.no k
def Res.map {α β:Type} (g:α→β):Res α→Res β
 | .ok a i=>.ok (g a) i
 | .no k=>.no k
def drawP (s:ByteArray) (m i:Nat):Option Nat×Nat:=firstN s m (widthN m) (s.size+1 - i) i
def needR {α:Type}:Option α×Nat→Res α
 | (some v,j)=>.ok v j
 | (none,_)=>.no 2
def drawD (s:ByteArray) (m i:Nat):Res Nat:=needR (drawP s m i)
def numD (s:ByteArray) (lo hi:Int) (i:Nat):Res Int:=(drawD s (hi - lo+1).toNat i).map (fun (v:Nat)=>lo+(v:Int))
def pickI (l:List Int) (r:Int):Nat:=l.findIdx (fun u=>decide (r < u))
def freqP (s:ByteArray) (w:List Int) (i:Nat):Option Nat×Nat:=
 match drawP s (sumI w).toNat i with
 | (some r,j)=>(some (pickI (psums 0 w) r),j)
 | (none,j)=>(none,j)
structure AT where
 c:List Int
 o:List Int
 h:List Int
 lo:List Int
 hi:List Int
def aliasFill (S m:Int):List Int→Int→AT→AT
 | [],_,t=>t
 | x::r,i,t=>aliasFill S m r (i+1) (if m*x < S then ⟨t.c++[S],t.o++[i],t.h++[m*x],t.lo++[i],t.hi⟩ else ⟨t.c++[S],t.o++[i],t.h++[m*x],t.lo,t.hi++[i]⟩)
def aliasStep (S:Int) (t:AT) (l h:Int):AT:=
 let hl:=t.h.getD l.toNat 0
 let hh:=t.h.getD h.toNat 0 - (S - hl)
 let c:=t.c.set l.toNat hl
 let o:=t.o.set l.toNat h
 let g:=t.h.set h.toNat hh
 if hh < S then ⟨c,o,g,t.lo.dropLast++[h],t.hi.dropLast⟩ else ⟨c,o,g,t.lo.dropLast,t.hi⟩
def aliasLoop (S:Int):Nat→AT→AT
 | 0,t=>t
 | f+1,t=>match t.lo.getLast?,t.hi.getLast? with
  | some l,some h=>aliasLoop S f (aliasStep S t l h)
  | _,_=>t
def aliasT (w:List Int):AT:=aliasLoop (sumI w) (2*w.length+1) (aliasFill (sumI w) w.length w 0 ⟨[],[],[],[],[]⟩)
def aliasPick (w:List Int) (i:Nat) (r:Int):Nat:=if r < (aliasT w).c.getD i 0 then i else ((aliasT w).o.getD i 0).toNat
def aliasP (s:ByteArray) (w:List Int) (i:Nat):Option Nat×Nat:=
 match drawP s w.length i with
 | (none,j)=>(none,j)
 | (some a,j)=>match drawP s (sumI w).toNat j with
  | (none,q)=>(none,q)
  | (some r,q)=>(some (aliasPick w a r),q)
def thingsI (n:Nat):List Int:=(List.range n).map (fun (i:Nat)=>(i:Int))
def permDraws (s:ByteArray):Nat→Nat→Option (List Int)×Nat
 | 0,i=>(some [],i)
 | n+1,i=>match drawP s (n+2) i with
  | (none,j)=>(none,j)
  | (some v,j)=>match permDraws s n j with
   | (none,q)=>(none,q)
   | (some l,q)=>(some ((v:Int)::l),q)
def swapI (l:List Int) (i j:Nat):List Int:=(l.set i (l.getD j 0)).set j (l.getD i 0)
def permGo:List Int→List Int→List Int
 | [],row=>row
 | j::l,row=>permGo l (swapI row (l.length+1) j.toNat)
def permP (s:ByteArray) (n i:Nat):Option (List Int)×Nat:=
 match permDraws s (n - 1) i with
 | (none,j)=>(none,j)
 | (some l,j)=>(some (if n=0 then [] else permGo l (thingsI (l.length+1))),j)
def poolDraws (s:ByteArray):Nat→Nat→Nat→Option (List Int)×Nat
 | 0,_,i=>(some [],i)
 | n+1,m,i=>match drawP s (m+1) i with
  | (none,j)=>(none,j)
  | (some v,j)=>match poolDraws s n (m+1) j with
   | (none,q)=>(none,q)
   | (some l,q)=>(some ((v:Int)::l),q)
def poolGo (k:Nat):List Int→Nat→List Int→List Int
 | [],_,row=>row
 | j::l,i,row=>poolGo k l (i+1) (if j < k then row.set j.toNat (i:Int) else row)
def leI (a b:Int):Bool:=decide (a≤b)
def poolRow (k:Nat) (js:List Int):List Int:=(poolGo k js k (thingsI k)).mergeSort leI
def poolP (s:ByteArray) (k n i:Nat):Option (List Int)×Nat:=
 match poolDraws s (n - k) k i with
 | (none,j)=>(none,j)
 | (some l,j)=>(some (poolRow k l),j)
def allD {α β:Type} (g:α→Nat→Res β):List α→Nat→Res (List β)
 | [],i=>.ok [] i
 | x::l,i=>(g x i).bind fun v j=>(allD g l j).map (fun r=>v::r)
def repD {β:Type} (g:Nat→Res β):Nat→Nat→Res (List β)
 | 0,i=>.ok [] i
 | n+1,i=>(g i).bind fun v j=>(repD g n j).map (fun r=>v::r)
def filtD (g:Nat→Res GV) (p:GP):Nat→Nat→Res GV
 | 0,_=>.no 3
 | f+1,i=>(g i).bind fun v j=>if holdsP p v=true then .ok v j else if j=i then .no 3 else filtD g p f j
def atD {α β:Type} (g:α→Nat→Res β) (l:List α) (n i:Nat):Res β:=match l[n]? with|some x=>g x i|none=>.no 3
def pickL {α:Type} (l:List α) (row:List Int):List α:=row.filterMap (fun i=>l[i.toNat]?)
def stepD (g:GT→Env→Nat→Res GV) (t:GT) (m:Int) (up:Env) (i:Nat):Res GV:=
 if m=0 then atD (fun x=>g x up) t.a 0 i else atD (fun x=>g x ((t,m - 1)::up)) t.a 1 i
def sampT (s:ByteArray):Nat→GT→Env→Nat→Res GV
 | 0,_,_,_=>.no 3
 | f+1,t,e,i=>
  if t.k=1 then .ok t.v i
  else if t.k=2 then (numD s t.lo t.hi i).map (fun n=>⟨1,n,[]⟩)
  else if t.k=3 then (needR (freqP s t.w i)).bind fun k j=>atD (fun x=>sampT s f x e) t.a k j
  else if t.k=4 then (needR (aliasP s t.w i)).bind fun k j=>atD (fun v j=>.ok v j) t.vs k j
  else if t.k=5 then (allD (fun x=>sampT s f x e) t.a i).map (fun l=>⟨3,0,l⟩)
  else if t.k=6 then (numD s t.lo t.hi i).bind fun n j=>(repD (fun j=>atD (fun x=>sampT s f x e) t.a 0 j) n.toNat j).map (fun l=>⟨4,0,l⟩)
  else if t.k=7 then (allD (fun x=>sampT s f x e) t.a i).bind fun l j=>(needR (permP s l.length j)).map (fun row=>⟨4,0,pickL l row⟩)
  else if t.k=8 then (needR (poolP s t.lo.toNat t.a.length i)).bind fun row j=>(allD (fun x=>sampT s f x e) (pickL t.a row) j).map (fun l=>⟨4,0,l⟩)
  else if t.k=9 then filtD (fun j=>atD (fun x=>sampT s f x e) t.a 0 j) t.p (s.size+1 - i) i
  else if t.k=11 then (match e with|[]=>.no 3|(t',m)::up=>stepD (sampT s f) t' m up i)
  else stepD (sampT s f) t t.lo e i
theorem node_range {t:GT} (h:nodeT t=0) (hk:t.k=2): -1099511627776≤t.lo∧t.lo≤t.hi∧t.hi≤1099511627776:=by
 obtain ⟨_,_,_,h1,h2⟩:=node_ok h
 simp only [endsE,hk] at h1
 simp [withinB] at h1
 omega
theorem freqLoop_ok:∀(l:List Int) (s:Int),freqLoop s l=0→okW l∧s+sumI l≠0
 | [],s,h=>by
  simp only [freqLoop] at h
  split at h
  ·simp at h
  ·exact ⟨fun x hx=>by simp at hx,by simpa [sumI]⟩
 | x::l,s,h=>by
  simp only [freqLoop] at h
  split at h
  ·simp at h
  ·rename_i hx
   obtain ⟨h1,h2⟩:=freqLoop_ok l (s+x) h
   refine ⟨fun y hy=>?_,by simp only [sumI];omega⟩
   rcases List.mem_cons.1 hy with rfl|hy
   ·omega
   ·exact h1 y hy
theorem freqE_ok {l:List Int} (h:freqE l=0):1≤l.length∧l.length≤64∧okW l∧1≤sumI l∧sumI l≤67108864:=by
 unfold freqE at h
 split at h
 ·simp at h
 ·split at h
  ·simp at h
  ·obtain ⟨h1,h2⟩:=freqLoop_ok l 0 h
   obtain ⟨h3,h4⟩:=sumI_in l h1
   exact ⟨by omega,by omega,h1,by omega,by omega⟩
theorem node_weights {t:GT} (h:nodeT t=0) (hk:t.k=3∨t.k=4):freqE t.w=0:=by
 obtain ⟨_,_,h0,_,_⟩:=node_ok h
 unfold weightsE restW at h0
 rcases hk with hk|hk
 all_goals simp only [hk] at h0
 all_goals (repeat' split at h0)<;>simp_all
theorem node_freq {t:GT} (h:nodeT t=0) (hk:t.k=3):t.a.length=t.w.length∧freqE t.w=0:=by
 obtain ⟨_,_,_,_,h2⟩:=node_ok h
 simp only [argumentsE,hk] at h2
 simp at h2
 have:=node_many h2
 exact ⟨by omega,node_weights h (.inl hk)⟩
theorem node_alias {t:GT} (h:nodeT t=0) (hk:t.k=4):t.vs.length=t.w.length∧freqE t.w=0∧t.a.length=0:=by
 obtain ⟨_,_,_,_,h2⟩:=node_ok h
 simp only [argumentsE,hk] at h2
 simp at h2
 split at h2
 ·rename_i h3
  have h4:=node_many h2
  have h5:=node_many h3
  exact ⟨by omega,node_weights h (.inr hk),by omega⟩
 ·rename_i h3;exact absurd h2 h3
theorem node_args {t:GT} (h:nodeT t=0) (hk:t.k=5∨t.k=7∨t.k=8):t.a.length≤64:=by
 obtain ⟨_,_,_,_,h2⟩:=node_ok h
 rcases hk with hk|hk|hk
 all_goals simp only [argumentsE,hk] at h2
 all_goals simp at h2
 all_goals have:=node_many h2
 all_goals omega
theorem node_pick {t:GT} (h:nodeT t=0) (hk:t.k=8):0≤t.lo∧t.lo≤t.a.length:=by
 obtain ⟨_,_,_,h1,_⟩:=node_ok h
 simp only [endsE,hk] at h1
 simp [withinB] at h1
 split at h1<;>simp_all
theorem node_filter {t:GT} (h:nodeT t=0) (hk:t.k=9):t.a.length=1∧mayP t.p=true:=by
 obtain ⟨_,_,h0,_,h2⟩:=node_ok h
 simp only [argumentsE,hk] at h2
 simp at h2
 have:=node_many h2
 refine ⟨by omega,?_⟩
 simp only [weightsE,hk] at h0
 simp at h0
 split at h0
 ·rename_i h3;simp [mayP,h3]
 ·rename_i h3;exact absurd h0 h3
def Res.In {α:Type} (C:α→Prop) (i m:Nat):Res α→Prop
 | .ok a j=>i≤j∧j≤m∧C a
 | .no k=>k=2∨k=3
theorem Res.In.bind {α β:Type} {C:α→Prop} {D:β→Prop} {i m:Nat} {r:Res α} {g:α→Nat→Res β} (h:r.In C i m) (hg:∀a j,i≤j→j≤m→C a→(g a j).In D j m):(r.bind g).In D i m:=by
 cases r with
 | no k=>exact h
 | ok a j=>
  obtain ⟨h1,h2,h3⟩:=h
  have h4:=hg a j h1 h2 h3
  simp only [Res.bind]
  cases hr:g a j with
  | no k=>rw [hr] at h4;exact h4
  | ok b q=>rw [hr] at h4;exact ⟨by have:=h4.1;omega,h4.2.1,h4.2.2⟩
theorem Res.In.map {α β:Type} {C:α→Prop} {D:β→Prop} {i m:Nat} {r:Res α} {g:α→β} (h:r.In C i m) (hg:∀a,C a→D (g a)):(r.map g).In D i m:=by
 cases r with
 | no k=>exact h
 | ok a j=>exact ⟨h.1,h.2.1,hg a h.2.2⟩
theorem Res.In.mono {α:Type} {C D:α→Prop} {i m:Nat} {r:Res α} (h:r.In C i m) (hg:∀a,C a→D a):r.In D i m:=by
 cases r with
 | no k=>exact h
 | ok a j=>exact ⟨h.1,h.2.1,hg a h.2.2⟩
theorem drawP_in (s:ByteArray) (m i:Nat) (h:i≤s.size):i≤(drawP s m i).2∧(drawP s m i).2≤s.size∧∀v,(drawP s m i).1=some v→v < m:=firstN_bounds s m _ _ i h
theorem needR_in {α:Type} {C:α→Prop} {i m:Nat} {r:Option α×Nat} (h1:i≤r.2) (h2:r.2≤m) (h3:∀v,r.1=some v→C v):(needR r).In C i m:=by
 obtain ⟨a,j⟩:=r
 cases a with
 | none=>exact .inl rfl
 | some v=>exact ⟨h1,h2,h3 v rfl⟩
theorem drawD_in (s:ByteArray) (m i:Nat) (h:i≤s.size):(drawD s m i).In (fun v=>v < m) i s.size:=by
 obtain ⟨h1,h2,h3⟩:=drawP_in s m i h
 exact needR_in h1 h2 h3
theorem numD_in (s:ByteArray) (lo hi:Int) (i:Nat) (h:i≤s.size) (hl:lo≤hi):(numD s lo hi i).In (fun n=>lo≤n∧n≤hi) i s.size:=
 (drawD_in s _ i h).map fun v hv=>by omega
theorem psums_get (l:List Int):∀(s:Int) (j:Nat) (h:j < (psums s l).length),(psums s l)[j]=s+sumI (l.take (j+1)):=by
 induction l with
 | nil=>intro s j h;simp [psums] at h
 | cons x l ih=>
  intro s j h
  cases j with
  | zero=>simp [psums,sumI]
  | succ j=>
   simp only [psums,List.getElem_cons_succ,List.take_succ_cons,sumI]
   rw [ih (s+x) j (by simpa [psums] using h)]
   omega
theorem pickI_lt (l:List Int) (r:Int) (hl:1≤l.length) (hr:r < sumI l):pickI (psums 0 l) r < l.length:=by
 have h:(psums 0 l).length=l.length:=psums_length 0 l
 unfold pickI
 rw [←h]
 refine List.findIdx_lt_length_of_exists ⟨(psums 0 l)[l.length - 1]'(by omega),List.getElem_mem _,?_⟩
 rw [psums_get]
 simp only [decide_eq_true_eq]
 rw [show l.length - 1+1=l.length by omega,List.take_length]
 omega
theorem freqP_in (s:ByteArray) (w:List Int) (i:Nat) (h:i≤s.size) (hw:freqE w=0):i≤(freqP s w i).2∧(freqP s w i).2≤s.size∧∀v,(freqP s w i).1=some v→v < w.length:=by
 obtain ⟨h1,h2,h3,h4,h5⟩:=freqE_ok hw
 obtain ⟨a,b,c⟩:=drawP_in s (sumI w).toNat i h
 unfold freqP
 cases hd:drawP s (sumI w).toNat i with
 | mk v j=>
  rw [hd] at a b c
  cases v with
  | none=>exact ⟨a,b,fun v hv=>by simp at hv⟩
  | some r=>
   refine ⟨a,b,fun v hv=>?_⟩
   simp at hv
   subst hv
   have:=c r rfl
   exact pickI_lt w r h1 (by omega)
theorem thingsI_mem {n:Nat} {x:Int} (h:x∈thingsI n):0≤x∧x < n:=by
 simp only [thingsI,List.mem_map,List.mem_range] at h
 obtain ⟨a,h1,rfl⟩:=h
 omega
theorem thingsI_length (n:Nat):(thingsI n).length=n:=by simp [thingsI]
def downOk:List Int→Prop
 | []=>True
 | j::l=>(0≤j∧j≤l.length+1)∧downOk l
def upOk:Nat→List Int→Prop
 | _,[]=>True
 | m,j::l=>(0≤j∧j≤m)∧upOk (m+1) l
theorem permDraws_in (s:ByteArray):∀(n i:Nat),i≤s.size→i≤(permDraws s n i).2∧(permDraws s n i).2≤s.size∧∀l,(permDraws s n i).1=some l→l.length=n∧downOk l
 | 0,i,h=>⟨Nat.le_refl _,h,fun l hl=>by simp [permDraws] at hl;subst hl;exact ⟨rfl,trivial⟩⟩
 | n+1,i,h=>by
  obtain ⟨a,b,c⟩:=drawP_in s (n+2) i h
  rw [permDraws]
  cases hd:drawP s (n+2) i with
  | mk v j=>
   rw [hd] at a b c
   cases v with
   | none=>exact ⟨a,b,fun l hl=>by simp at hl⟩
   | some v=>
    obtain ⟨a2,b2,c2⟩:=permDraws_in s n j b
    simp only []
    cases hr:permDraws s n j with
    | mk r q=>
     rw [hr] at a2 b2 c2
     simp only [] at a b a2 b2
     cases r with
     | none=>exact ⟨by simp;omega,by simp;omega,fun l hl=>by simp at hl⟩
     | some r=>
      refine ⟨by simp;omega,by simp;omega,fun l hl=>?_⟩
      simp at hl
      subst hl
      obtain ⟨d1,d2⟩:=c2 r rfl
      have:=c v rfl
      exact ⟨by simp [d1],⟨by omega,by omega⟩,d2⟩
theorem poolDraws_in (s:ByteArray):∀(n m i:Nat),i≤s.size→i≤(poolDraws s n m i).2∧(poolDraws s n m i).2≤s.size∧∀l,(poolDraws s n m i).1=some l→l.length=n∧upOk m l
 | 0,m,i,h=>⟨Nat.le_refl _,h,fun l hl=>by simp [poolDraws] at hl;subst hl;exact ⟨rfl,trivial⟩⟩
 | n+1,m,i,h=>by
  obtain ⟨a,b,c⟩:=drawP_in s (m+1) i h
  rw [poolDraws]
  cases hd:drawP s (m+1) i with
  | mk v j=>
   rw [hd] at a b c
   cases v with
   | none=>exact ⟨a,b,fun l hl=>by simp at hl⟩
   | some v=>
    obtain ⟨a2,b2,c2⟩:=poolDraws_in s n (m+1) j b
    simp only []
    cases hr:poolDraws s n (m+1) j with
    | mk r q=>
     rw [hr] at a2 b2 c2
     simp only [] at a b a2 b2
     cases r with
     | none=>exact ⟨by simp;omega,by simp;omega,fun l hl=>by simp at hl⟩
     | some r=>
      refine ⟨by simp;omega,by simp;omega,fun l hl=>?_⟩
      simp at hl
      subst hl
      obtain ⟨d1,d2⟩:=c2 r rfl
      have:=c v rfl
      exact ⟨by simp [d1],⟨by omega,by omega⟩,d2⟩
theorem getD_mem {l:List Int} {i:Nat} (h:i < l.length):l.getD i 0∈l:=by
 simp only [List.getD_eq_getElem?_getD,List.getElem?_eq_getElem h,Option.getD_some]
 exact List.getElem_mem h
theorem swapI_in {C:Int→Prop} {l:List Int} {i j:Nat} (hi:i < l.length) (hj:j < l.length) (h:∀x∈l,C x):(swapI l i j).length=l.length∧∀x∈swapI l i j,C x:=by
 refine ⟨by simp [swapI],fun x hx=>?_⟩
 unfold swapI at hx
 rcases List.mem_or_eq_of_mem_set hx with hx|rfl
 ·rcases List.mem_or_eq_of_mem_set hx with hx|rfl
  ·exact h x hx
  ·exact h _ (getD_mem hj)
 ·exact h _ (getD_mem hi)
theorem permGo_in {C:Int→Prop}:∀(l row:List Int),(∀x∈row,C x)→l.length+1≤row.length→downOk l→(permGo l row).length=row.length∧∀x∈permGo l row,C x
 | [],row,h,_,_=>⟨rfl,h⟩
 | j::l,row,h,h1,⟨h2,h3⟩=>by
  simp only [List.length_cons] at h1
  obtain ⟨a,b⟩:=swapI_in (i:=l.length+1) (j:=j.toNat) (by omega) (by omega) h
  obtain ⟨c,d⟩:=permGo_in l (swapI row (l.length+1) j.toNat) b (by omega) h3
  exact ⟨by rw [permGo,c,a],by rw [permGo];exact d⟩
theorem permP_in (s:ByteArray) (n i:Nat) (h:i≤s.size):i≤(permP s n i).2∧(permP s n i).2≤s.size∧∀l,(permP s n i).1=some l→l.length=n∧∀x∈l,0≤x∧x < n:=by
 obtain ⟨a,b,c⟩:=permDraws_in s (n - 1) i h
 unfold permP
 cases hd:permDraws s (n - 1) i with
 | mk v j=>
  rw [hd] at a b c
  cases v with
  | none=>exact ⟨a,b,fun v hv=>by simp at hv⟩
  | some r=>
   refine ⟨a,b,fun v hv=>?_⟩
   simp at hv
   subst hv
   obtain ⟨c1,c2⟩:=c r rfl
   split
   ·rename_i h0;exact ⟨by simp [h0],fun x hx=>by simp at hx⟩
   ·obtain ⟨d1,d2⟩:=permGo_in (C:=fun x=>0≤x∧x < (n:Int)) r (thingsI (r.length+1)) (fun x hx=>by have:=thingsI_mem hx;omega) (by rw [thingsI_length];exact Nat.le_refl _) c2
    exact ⟨by rw [d1,thingsI_length];omega,d2⟩
theorem poolGo_in (k:Nat):∀(l:List Int) (i:Nat) (row:List Int),(∀x∈row,0≤x∧x < (i:Int))→upOk i l→(poolGo k l i row).length=row.length∧∀x∈poolGo k l i row,0≤x∧x < ((i+l.length:Nat):Int)
 | [],i,row,h,_=>⟨rfl,h⟩
 | j::l,i,row,h,⟨h2,h3⟩=>by
  have key:∀row':List Int,row'.length=row.length→(∀x∈row',0≤x∧x < ((i+1:Nat):Int))→(poolGo k l (i+1) row').length=row.length∧∀x∈poolGo k l (i+1) row',0≤x∧x < ((i+(j::l).length:Nat):Int):=fun row' e hm=>by
   obtain ⟨a,b⟩:=poolGo_in k l (i+1) row' hm h3
   refine ⟨by omega,fun x hx=>?_⟩
   have:=b x hx
   simp only [List.length_cons]
   omega
  rw [poolGo]
  split
  ·refine key _ (by simp) fun x hx=>?_
   rcases List.mem_or_eq_of_mem_set hx with hx|rfl
   ·have:=h x hx;omega
   ·omega
  ·exact key _ rfl fun x hx=>by have:=h x hx;omega
theorem poolP_in (s:ByteArray) (k n i:Nat) (h:i≤s.size) (hk:k≤n):i≤(poolP s k n i).2∧(poolP s k n i).2≤s.size∧∀l,(poolP s k n i).1=some l→l.length=k∧∀x∈l,0≤x∧x < n:=by
 obtain ⟨a,b,c⟩:=poolDraws_in s (n - k) k i h
 unfold poolP
 cases hd:poolDraws s (n - k) k i with
 | mk v j=>
  rw [hd] at a b c
  cases v with
  | none=>exact ⟨a,b,fun v hv=>by simp at hv⟩
  | some r=>
   refine ⟨a,b,fun v hv=>?_⟩
   simp at hv
   subst hv
   obtain ⟨c1,c2⟩:=c r rfl
   obtain ⟨d1,d2⟩:=poolGo_in k r k (thingsI k) (fun x hx=>thingsI_mem hx) c2
   unfold poolRow
   refine ⟨by rw [List.length_mergeSort,d1,thingsI_length],fun x hx=>?_⟩
   have:=d2 x ((List.mergeSort_perm _ _).mem_iff.1 hx)
   omega
structure AT.Ok (n:Nat) (t:AT):Prop where
 c:t.c.length=n
 o:t.o.length=n
 m:∀x∈t.o,0≤x∧x < (n:Int)
 h:t.h.length=n
 lo:∀x∈t.lo,0≤x∧x < (n:Int)
 hi:∀x∈t.hi,0≤x∧x < (n:Int)
theorem aliasFill_ok (S m:Int) (N:Nat):∀(l:List Int) (i:Nat) (t:AT),t.Ok i→i+l.length=N→(aliasFill S m l i t).Ok N
 | [],i,t,h,e=>by simp at e;subst e;exact h
 | x::l,i,t,h,e=>by
  have hm:∀(L:List Int),(∀x∈L,0≤x∧x < (i:Int))→∀x∈L++[(i:Int)],0≤x∧x < ((i+1:Nat):Int):=fun L hL x hx=>by
   rcases List.mem_append.1 hx with hx|hx
   ·have:=hL x hx;omega
   ·simp at hx;omega
  have hm2:∀(L:List Int),(∀x∈L,0≤x∧x < (i:Int))→∀x∈L,0≤x∧x < ((i+1:Nat):Int):=fun L hL x hx=>by have:=hL x hx;omega
  rw [aliasFill]
  have e1:(i:Int)+1=((i+1:Nat):Int):=by omega
  simp only [e1]
  refine aliasFill_ok S m N l (i+1) _ ?_ (by simp at e;omega)
  split
  ·exact ⟨by simp [h.c],by simp [h.o],hm _ h.m,by simp [h.h],hm _ h.lo,hm2 _ h.hi⟩
  ·exact ⟨by simp [h.c],by simp [h.o],hm _ h.m,by simp [h.h],hm2 _ h.lo,hm _ h.hi⟩
theorem aliasStep_ok {S:Int} {N:Nat} {t:AT} {l h:Int} (ht:t.Ok N) (hh:0≤h∧h < (N:Int)):(aliasStep S t l h).Ok N:=by
 have hd:∀L:List Int,(∀x∈L,0≤x∧x < (N:Int))→∀x∈L.dropLast,0≤x∧x < (N:Int):=fun L hL x hx=>hL x (List.dropLast_subset L hx)
 have ho:∀x∈t.o.set l.toNat h,0≤x∧x < (N:Int):=fun x hx=>by
  rcases List.mem_or_eq_of_mem_set hx with hx|rfl
  ·exact ht.m x hx
  ·exact hh
 unfold aliasStep
 simp only []
 split
 ·refine ⟨by simp [ht.c],by simp [ht.o],ho,by simp [ht.h],fun x hx=>?_,hd _ ht.hi⟩
  rcases List.mem_append.1 hx with hx|hx
  ·exact hd _ ht.lo x hx
  ·simp at hx;subst hx;exact hh
 ·exact ⟨by simp [ht.c],by simp [ht.o],ho,by simp [ht.h],hd _ ht.lo,ht.hi⟩
theorem aliasLoop_ok {S:Int} {N:Nat}:∀(f:Nat) (t:AT),t.Ok N→(aliasLoop S f t).Ok N
 | 0,t,h=>h
 | f+1,t,h=>by
  rw [aliasLoop]
  split
  ·rename_i l h' e1 e2
   exact aliasLoop_ok f _ (aliasStep_ok h (h.hi _ (List.mem_of_getLast? e2)))
  ·exact h
theorem aliasT_ok (w:List Int):(aliasT w).Ok w.length:=aliasLoop_ok _ _ (aliasFill_ok _ _ _ w 0 _ ⟨rfl,rfl,fun _ h=>by simp at h,rfl,fun _ h=>by simp at h,fun _ h=>by simp at h⟩ (by simp))
theorem aliasPick_lt (w:List Int) (i:Nat) (r:Int) (h:i < w.length):aliasPick w i r < w.length:=by
 have ht:=aliasT_ok w
 unfold aliasPick
 split
 ·exact h
 ·have:=ht.m _ (getD_mem (l:=(aliasT w).o) (i:=i) (by rw [ht.o];exact h))
  omega
theorem aliasP_in (s:ByteArray) (w:List Int) (i:Nat) (h:i≤s.size):i≤(aliasP s w i).2∧(aliasP s w i).2≤s.size∧∀v,(aliasP s w i).1=some v→v < w.length:=by
 obtain ⟨a,b,c⟩:=drawP_in s w.length i h
 unfold aliasP
 cases hd:drawP s w.length i with
 | mk v j=>
  rw [hd] at a b c
  cases v with
  | none=>exact ⟨a,b,fun v hv=>by simp at hv⟩
  | some v=>
   obtain ⟨a2,b2,c2⟩:=drawP_in s (sumI w).toNat j b
   simp only []
   cases hr:drawP s (sumI w).toNat j with
   | mk r q=>
    rw [hr] at a2 b2 c2
    simp only [] at a b a2 b2
    cases r with
    | none=>exact ⟨by simp;omega,by simp;omega,fun l hl=>by simp at hl⟩
    | some r=>
     refine ⟨by simp;omega,by simp;omega,fun l hl=>?_⟩
     simp at hl
     subst hl
     exact aliasPick_lt w v r (c v rfl)
theorem okVs_of:∀(l:List GV),(∀x∈l,okV x)→okVs l
 | [],_=>by simp only [okVs]
 | x::l,h=>by simp only [okVs];exact ⟨h x (by simp),okVs_of l fun y hy=>h y (by simp [hy])⟩
theorem okV_list (k:Int) (l:List GV) (hk:isU8 k) (h:l.length≤1048576) (hl:∀x∈l,okV x):okV ⟨k,0,l⟩:=by
 simp only [okV]
 exact ⟨hk,by unfold isI64;omega,h,okVs_of l hl⟩
theorem pickL_mem {α:Type} {l:List α} {row:List Int} {x:α} (h:x∈pickL l row):x∈l:=by
 simp only [pickL,List.mem_filterMap] at h
 obtain ⟨i,_,h⟩:=h
 exact List.mem_of_getElem? h
theorem pickL_length {α:Type} (l:List α):∀(row:List Int),(∀x∈row,0≤x∧x < (l.length:Int))→(pickL l row).length=row.length
 | [],_=>rfl
 | i::row,h=>by
  have h1:=h i (by simp)
  have h2:=pickL_length l row fun x hx=>h x (by simp [hx])
  have h3:l[i.toNat]? =some (l[i.toNat]'(by omega)):=List.getElem?_eq_getElem _
  unfold pickL at h2 ⊢
  rw [List.filterMap_cons,h3]
  simp [h2]
theorem allD_in {α β:Type} {g:α→Nat→Res β} {D:β→Prop} {m:Nat}:∀(l:List α) (i:Nat),i≤m→(∀x∈l,∀j,j≤m→(g x j).In D j m)→(allD g l i).In (fun r=>r.length=l.length∧∀y∈r,D y) i m
 | [],i,h,_=>⟨Nat.le_refl _,h,rfl,fun y hy=>by simp at hy⟩
 | x::l,i,h,hg=>by
  rw [allD]
  refine (hg x (by simp) i h).bind fun v j h1 h2 hv=>?_
  refine (allD_in l j h2 fun y hy=>hg y (by simp [hy])).map fun r ⟨e,hr⟩=>⟨by simp [e],fun y hy=>?_⟩
  rcases List.mem_cons.1 hy with rfl|hy
  ·exact hv
  ·exact hr y hy
theorem repD_in {β:Type} {g:Nat→Res β} {D:β→Prop} {m:Nat} (hg:∀j,j≤m→(g j).In D j m):∀(n i:Nat),i≤m→(repD g n i).In (fun r=>r.length=n∧∀y∈r,D y) i m
 | 0,i,h=>⟨Nat.le_refl _,h,rfl,fun y hy=>by simp at hy⟩
 | n+1,i,h=>by
  rw [repD]
  refine (hg i h).bind fun v j h1 h2 hv=>?_
  refine (repD_in hg n j h2).map fun r ⟨e,hr⟩=>⟨by simp [e],fun y hy=>?_⟩
  rcases List.mem_cons.1 hy with rfl|hy
  ·exact hv
  ·exact hr y hy
theorem filtD_in {g:Nat→Res GV} {p:GP} {D:GV→Prop} {m:Nat} (hg:∀j,j≤m→(g j).In D j m):∀(f i:Nat),i≤m→(filtD g p f i).In D i m
 | 0,i,h=>.inr rfl
 | f+1,i,h=>by
  rw [filtD]
  refine (hg i h).bind fun v j h1 h2 hv=>?_
  split
  ·exact ⟨Nat.le_refl _,h2,hv⟩
  ·split
   ·exact .inr rfl
   ·exact filtD_in hg f j h2
theorem atD_in {α β:Type} {g:α→Nat→Res β} {D:β→Prop} {m:Nat} (l:List α) (n i:Nat) (hg:∀h:n < l.length,(g l[n] i).In D i m):(atD g l n i).In D i m:=by
 unfold atD
 by_cases h:n < l.length
 ·rw [List.getElem?_eq_getElem h];exact hg h
 ·rw [List.getElem?_eq_none (by omega)];exact .inr rfl
theorem stepD_in {S m:Nat} {g:GT→Env→Nat→Res GV} (t:GT) (lo:Int) (e:Env) (i:Nat) (hi:i≤m) (hg:goodT (!e.isEmpty) t) (hk:t.k=10) (ox:okT t) (hs:sizeT t≤S) (h0:0≤lo∧lo≤8) (he:envOk S e)
  (h:∀x e,goodT (!e.isEmpty) x→okT x→sizeT x≤S→envOk S e→(g x e i).In okV i m):(stepD g t lo e i).In okV i m:=by
 have hse:=sizeT_eq t
 have hga:=(goodT_eq.1 hg).2.2
 have hoa:=(okT_iff.1 ox).2.2.2.2.2.2.2.2
 unfold stepD
 split
 ·refine atD_in _ _ _ fun hl=>?_
  have h1:=hga.get 0 hl
  have h2:=sizeTs_get t.a 0 hl
  refine h _ e ?_ (hoa.get 0 hl) (by omega) he
  have h3:stepB t.k (0+0)=false:=by simp [stepB]
  rw [h3,Bool.or_false] at h1
  exact h1
 ·refine atD_in _ _ _ fun hl=>?_
  have h1:=hga.get 1 hl
  have h2:=sizeTs_get t.a 1 hl
  refine h _ ((t,lo - 1)::e) ?_ (hoa.get 1 hl) (by omega) ⟨hg,hk,ox,hs,by omega,by omega,he⟩
  have h3:stepB t.k (0+1)=true:=by simp [stepB,hk]
  rw [h3,Bool.or_true] at h1
  exact h1
theorem goodT_arg {inn:Bool} {t:GT} (hg:goodT inn t) (hk:¬t.k=10) {x:GT} (hx:x∈t.a):goodT inn x:=by
 obtain ⟨j,hj,rfl⟩:=List.getElem_of_mem hx
 have h:=(goodT_eq.1 hg).2.2.get j hj
 have h2:(t.k==10)=false:=beq_eq_false_iff_ne.2 hk
 simpa [stepB,h2] using h
theorem okT_arg {t:GT} (ox:okT t) {x:GT} (hx:x∈t.a):okT x:=by
 obtain ⟨j,hj,rfl⟩:=List.getElem_of_mem hx
 exact (okT_iff.1 ox).2.2.2.2.2.2.2.2.get j hj
theorem sizeT_arg {t:GT} {x:GT} (hx:x∈t.a):sizeT x≤sizeT t:=by
 obtain ⟨j,hj,rfl⟩:=List.getElem_of_mem hx
 have:=sizeTs_get t.a j hj
 have:=sizeT_eq t
 omega
theorem sampT_in (s:ByteArray) (S:Nat):∀(f:Nat) (t:GT) (e:Env) (i:Nat),goodT (!e.isEmpty) t→okT t→sizeT t≤S→envOk S e→i≤s.size→(sampT s f t e i).In okV i s.size
 | 0,_,_,_,_,_,_,_,_=>.inr rfl
 | f+1,t,e,i,hg,ox,hs,he,hi=>by
  have ih:=sampT_in s S f
  obtain ⟨x1,x2,⟨x3,x4⟩,⟨x5,x6⟩,⟨x7,x8⟩,⟨x9,x10⟩,x11,x12,x13⟩:=okT_iff.1 ox
  have hn:=(goodT_eq.1 hg).1
  have harg:¬t.k=10→∀x∈t.a,∀j,j≤s.size→(sampT s f x e j).In okV j s.size:=fun hk x hx j hj=>
   ih x e j (goodT_arg hg hk hx) (okT_arg ox hx) (by have:=sizeT_arg hx;omega) he hj
  unfold sampT
  split
  ·exact ⟨Nat.le_refl _,hi,x2⟩
  ·split
   ·rename_i h2
    obtain ⟨a,b,c⟩:=node_range hn h2
    refine (numD_in s _ _ i hi b).map fun n hn=>?_
    simp only [okV,okVs]
    exact ⟨by unfold isU8;omega,by unfold isI64;omega,by simp,trivial⟩
   ·split
    ·rename_i h3
     obtain ⟨a,b⟩:=node_freq hn h3
     obtain ⟨c1,c2,c3⟩:=freqP_in s t.w i hi b
     refine (needR_in c1 c2 c3).bind fun k j h1 h2 hk=>atD_in _ _ _ fun hl=>harg (by omega) _ (List.getElem_mem hl) j h2
    ·split
     ·rename_i h4
      obtain ⟨a,b,c⟩:=node_alias hn h4
      obtain ⟨c1,c2,c3⟩:=aliasP_in s t.w i hi
      refine (needR_in c1 c2 c3).bind fun k j h1 h2 hk=>atD_in _ _ _ fun hl=>⟨Nat.le_refl _,h2,x4.get k hl⟩
     ·split
      ·rename_i h5
       refine (allD_in t.a i hi (harg (by omega))).map fun r ⟨hr,hr2⟩=>okV_list 3 r (by unfold isU8;omega) (by omega) hr2
      ·split
       ·rename_i h6
        obtain ⟨a,b,c,d⟩:=node_list hn h6
        refine (numD_in s _ _ i hi c).bind fun n j h1 h2 hn=>(repD_in (fun q hq=>atD_in _ _ _ fun hl=>harg (by omega) _ (List.getElem_mem hl) q hq) _ j h2).map fun r ⟨hr,hr2⟩=>okV_list 4 r (by unfold isU8;omega) (by omega) hr2
       ·split
        ·rename_i h7
         have hal:=node_args hn (.inr (.inl h7))
         refine (allD_in t.a i hi (harg (by omega))).bind fun l j h1 h2 ⟨hl,hl2⟩=>?_
         obtain ⟨c1,c2,c3⟩:=permP_in s l.length j h2
         refine (needR_in c1 c2 c3).map fun row ⟨hr,hr2⟩=>okV_list 4 _ (by unfold isU8;omega) (by rw [pickL_length l row hr2];omega) fun x hx=>hl2 x (pickL_mem hx)
        ·split
         ·rename_i h8
          have hal:=node_args hn (.inr (.inr h8))
          obtain ⟨a,b⟩:=node_pick hn h8
          obtain ⟨c1,c2,c3⟩:=poolP_in s t.lo.toNat t.a.length i hi (by omega)
          refine (needR_in c1 c2 c3).bind fun row j h1 h2 ⟨hr,hr2⟩=>(allD_in _ j h2 fun x hx=>harg (by omega) x (pickL_mem hx)).map fun r ⟨q1,q2⟩=>okV_list 4 r (by unfold isU8;omega) (by rw [q1,pickL_length t.a row hr2];omega) q2
         ·split
          ·rename_i h9
           refine filtD_in (fun q hq=>atD_in _ _ _ fun hl=>harg (by omega) _ (List.getElem_mem hl) q hq) _ i hi
          ·split
           ·cases e with
            | nil=>exact .inr rfl
            | cons p up=>
             obtain ⟨t',m⟩:=p
             obtain ⟨e1,e2,e3,e4,e5,e6,e7⟩:=he
             exact stepD_in t' m up i hi e1 e2 e3 e4 ⟨e5,e6⟩ e7 fun x e a b c d=>ih x e i a b c d hi
           ·have h10:t.k=10:=by have:=(node_ok hn).1;omega
            obtain ⟨a,b,c⟩:=node_sized hn h10
            exact stepD_in t t.lo e i hi hg h10 ox hs ⟨b,c⟩ he fun x e a b c d=>ih x e i a b c d hi
section
section
variable (s:ByteArray) (f:Nat) (t:GT) (e:Env) (i:Nat)
theorem sampT_1 (h:t.k=1):sampT s (f+1) t e i=.ok t.v i:=by
 unfold sampT
 rw [if_pos h]
theorem sampT_2 (h:t.k=2):sampT s (f+1) t e i=(numD s t.lo t.hi i).map (fun n=>⟨1,n,[]⟩):=by
 unfold sampT
 rw [if_neg (show ¬t.k=1 by omega),if_pos h]
theorem sampT_3 (h:t.k=3):sampT s (f+1) t e i=(needR (freqP s t.w i)).bind fun k j=>atD (fun x=>sampT s f x e) t.a k j:=by
 unfold sampT
 rw [if_neg (show ¬t.k=1 by omega),if_neg (show ¬t.k=2 by omega),if_pos h]
theorem sampT_4 (h:t.k=4):sampT s (f+1) t e i=(needR (aliasP s t.w i)).bind fun k j=>atD (fun v j=>.ok v j) t.vs k j:=by
 unfold sampT
 rw [if_neg (show ¬t.k=1 by omega),if_neg (show ¬t.k=2 by omega),if_neg (show ¬t.k=3 by omega),if_pos h]
theorem sampT_5 (h:t.k=5):sampT s (f+1) t e i=(allD (fun x=>sampT s f x e) t.a i).map (fun l=>⟨3,0,l⟩):=by
 unfold sampT
 rw [if_neg (show ¬t.k=1 by omega),if_neg (show ¬t.k=2 by omega),if_neg (show ¬t.k=3 by omega),if_neg (show ¬t.k=4 by omega),if_pos h]
theorem sampT_6 (h:t.k=6):sampT s (f+1) t e i=(numD s t.lo t.hi i).bind fun n j=>(repD (fun j=>atD (fun x=>sampT s f x e) t.a 0 j) n.toNat j).map (fun l=>⟨4,0,l⟩):=by
 unfold sampT
 rw [if_neg (show ¬t.k=1 by omega),if_neg (show ¬t.k=2 by omega),if_neg (show ¬t.k=3 by omega),if_neg (show ¬t.k=4 by omega),if_neg (show ¬t.k=5 by omega),if_pos h]
theorem sampT_7 (h:t.k=7):sampT s (f+1) t e i=(allD (fun x=>sampT s f x e) t.a i).bind fun l j=>(needR (permP s l.length j)).map (fun row=>⟨4,0,pickL l row⟩):=by
 unfold sampT
 rw [if_neg (show ¬t.k=1 by omega),if_neg (show ¬t.k=2 by omega),if_neg (show ¬t.k=3 by omega),if_neg (show ¬t.k=4 by omega),if_neg (show ¬t.k=5 by omega),if_neg (show ¬t.k=6 by omega),if_pos h]
theorem sampT_8 (h:t.k=8):sampT s (f+1) t e i=(needR (poolP s t.lo.toNat t.a.length i)).bind fun row j=>(allD (fun x=>sampT s f x e) (pickL t.a row) j).map (fun l=>⟨4,0,l⟩):=by
 unfold sampT
 rw [if_neg (show ¬t.k=1 by omega),if_neg (show ¬t.k=2 by omega),if_neg (show ¬t.k=3 by omega),if_neg (show ¬t.k=4 by omega),if_neg (show ¬t.k=5 by omega),if_neg (show ¬t.k=6 by omega),if_neg (show ¬t.k=7 by omega),if_pos h]
theorem sampT_9 (h:t.k=9):sampT s (f+1) t e i=filtD (fun j=>atD (fun x=>sampT s f x e) t.a 0 j) t.p (s.size+1 - i) i:=by
 unfold sampT
 rw [if_neg (show ¬t.k=1 by omega),if_neg (show ¬t.k=2 by omega),if_neg (show ¬t.k=3 by omega),if_neg (show ¬t.k=4 by omega),if_neg (show ¬t.k=5 by omega),if_neg (show ¬t.k=6 by omega),if_neg (show ¬t.k=7 by omega),if_neg (show ¬t.k=8 by omega),if_pos h]
theorem sampT_11 (h:t.k=11):sampT s (f+1) t e i=(match e with|[]=>.no 3|(t',m)::up=>stepD (sampT s f) t' m up i):=by
 unfold sampT
 rw [if_neg (show ¬t.k=1 by omega),if_neg (show ¬t.k=2 by omega),if_neg (show ¬t.k=3 by omega),if_neg (show ¬t.k=4 by omega),if_neg (show ¬t.k=5 by omega),if_neg (show ¬t.k=6 by omega),if_neg (show ¬t.k=7 by omega),if_neg (show ¬t.k=8 by omega),if_neg (show ¬t.k=9 by omega),if_pos h]
 all_goals (cases e<;>rfl)
theorem sampT_x (h1:¬t.k=1) (h2:¬t.k=2) (h3:¬t.k=3) (h4:¬t.k=4) (h5:¬t.k=5) (h6:¬t.k=6) (h7:¬t.k=7) (h8:¬t.k=8) (h9:¬t.k=9) (h11:¬t.k=11):sampT s (f+1) t e i=stepD (sampT s f) t t.lo e i:=by
 unfold sampT
 rw [if_neg h1,if_neg h2,if_neg h3,if_neg h4,if_neg h5,if_neg h6,if_neg h7,if_neg h8,if_neg h9,if_neg h11]
end
end
set_option maxRecDepth 100000 in
set_option maxHeartbeats 1000000 in
theorem draw_any (c:Nat) (s:ByteArray) (i m:Nat) (w:World) (hb:isBits s=true) (hi:i≤s.size) (hm:0 < m∧m < 18446744073709551616) (hl:Cur w c s i false):
  Calls Tryz.prog 134 #[.pointer (some ⟨c,0,none⟩),.int .u64 m] w (drawR c s (drawP s m i) w):=by
 have hmf:∀(fn:Fn) (first cap:Array Value) (w:World),(Instr.makeFunc fn first cap).run Tryz.prog w=.ok (.func fn first cap) w:=fun _ _ _ _=>rfl
 have HX:=hid (fun W h=>first_any c s i m W hb hi hm h)
 have HL:=hid hl
 obtain ⟨hm0,hm1⟩:=hm
 have hcs:c < w.heap.size:=World.block_lt_of_cell? _ _ hl.1.1
 have hm2:((m:Int)==0)=false:=beq_eq_false_iff_ne.2 (by omega)
 clear hb hl
 rcases hR:drawP s m i with ⟨_|v,j⟩
 all_goals have HR:=hid (show firstN s m (widthN m) (s.size+1 - i) i=_ from hR)
 all_goals clear hR
 ·go_enter Tryz.func134,Tryz.ntmps134
  go_wp2_with (go_at_call 157;refine (HX.out _ (by exact HL.out)).mono ?_;rw [HR.out];rintro e w1 ⟨hb1,rfl,hc1⟩;have HC1:=hid hc1;clear hc1)
  go_ret2
  exact ⟨But.z,rfl,HC1.out⟩
 ·go_enter Tryz.func134,Tryz.ntmps134
  go_wp2_with (go_at_call 157;refine (HX.out _ (by exact HL.out)).mono ?_;rw [HR.out];rintro e w1 ⟨hb1,rfl,hc1⟩;have HC1:=hid hc1;clear hc1)
  go_ret2
  exact ⟨But.z,rfl,HC1.out⟩
theorem draw_at (c:Nat) (s:ByteArray) (i m:Nat) (M:Int) (w:World) (hb:isBits s=true) (hi:i≤s.size) (hm:0 < m∧m < 18446744073709551616) (hM:M=m) (hl:Cur w c s i false):
  Calls Tryz.prog 134 #[.pointer (some ⟨c,0,none⟩),.int .u64 M] w (drawR c s (drawP s m i) w):=by
 subst hM;exact draw_any c s i m w hb hi hm hl
theorem freqLen_any (b n cp:Nat) (a:Option Addr) (w:World) (hl:w.cell? ⟨b,0,none⟩=some (.slice a n cp)):
  Calls Tryz.prog 135 #[.pointer (some ⟨b,0,none⟩)] w fun e w'=>e=.returned (.int .i64 n)∧Below w.heap.size w w':=by
 have hbs:b < w.heap.size:=World.block_lt_of_cell? _ _ hl
 go_enter Tryz.func135,Tryz.ntmps135
 go_wp2_with fail
 go_ret
 exact ⟨rfl,Below.z⟩
theorem psums_last (l:List Int) (h:1≤l.length) (h2:l.length - 1 < (psums 0 l).length):(psums 0 l)[l.length - 1]=sumI l:=by
 rw [psums_get,show l.length - 1+1=l.length by omega,List.take_length];omega
set_option maxRecDepth 100000 in
theorem freqSum_any (l:List Int) (b cp:Nat) (a:Option Addr) (A:Nat→Prop) (w:World) (h1:1≤l.length) (h64:l.length≤64) (hl:w.cell? ⟨b,0,none⟩=some (.slice a l.length cp)) (hr:RIs w A (psums 0 l) a):
  Calls Tryz.prog 136 #[.pointer (some ⟨b,0,none⟩)] w fun e w'=>e=.returned (.int .i64 (sumI l))∧Below w.heap.size w w':=by
 have hbs:b < w.heap.size:=World.block_lt_of_cell? _ _ hl
 have hp:=psums_length 0 l
 obtain ⟨g,o,rfl,hA,hgs,g0⟩:=hr.get (l.length - 1) (by omega)
 have hlast:=psums_last l h1 (by omega)
 rw [hlast] at g0
 have hw:IntKind.i64.wrap ((l.length:Int) - 1)=((l.length - 1:Nat):Int):=by rw [IntWalk.i64_in _ (by omega)];omega
 have hw0:(0:Int)≤(l.length:Int) - 1:=by omega
 have hw1:(l.length:Int) - 1 < (l.length:Int):=by omega
 have hw2:((l.length:Int) - 1).toNat=l.length - 1:=by omega
 have hn0:((l.length:Int)==0)=false:=beq_eq_false_iff_ne.2 (by omega)
 clear hlast hr
 go_enter Tryz.func136,Tryz.ntmps136
 go_wp2_with (go_at_call 135;refine (freqLen_any b l.length cp (some ⟨g,o,none⟩) _ (by go_simp)).mono ?_;rintro e w1 ⟨rfl,hb⟩;have hB1:=hb;clear hb;obtain ⟨hc1,hf1⟩:=bcells hB1)
 go_ret
 exact ⟨rfl,Below.z⟩
set_option maxRecDepth 100000 in
theorem pick1_any (L:List Int) (r:Int) (p q b cp i:Nat) (a:Option Addr) (A:Nat→Prop) (w:World) (hi:i < L.length) (hL:L.length≤64) (hp:w.cell? ⟨p,0,none⟩=some (.pointer (some ⟨b,0,none⟩))) (hq:w.cell? ⟨q,0,none⟩=some (.int .i64 r))
  (hl:w.cell? ⟨b,0,none⟩=some (.slice a L.length cp)) (hr:RIs w A L a):
  Calls Tryz.prog 159 #[.int .i64 i,.pointer (some ⟨p,0,none⟩),.pointer (some ⟨q,0,none⟩)] w fun e w'=>e=.returned (.bool (decide (r < L[i])))∧Below w.heap.size w w':=by
 have hbs:b < w.heap.size:=World.block_lt_of_cell? _ _ hl
 have hps:p < w.heap.size:=World.block_lt_of_cell? _ _ hp
 have hqs:q < w.heap.size:=World.block_lt_of_cell? _ _ hq
 obtain ⟨g,o,rfl,hA,hgs,g0⟩:=hr.get i hi
 have hlt:(i:Int) < (L.length:Int):=by omega
 clear hr
 go_enter Tryz.func159,Tryz.ntmps159
 go_wp2_with fail
 refine wp_tail 9 (by kernel_rfl) (by kernel_rfl) ?_
 simp only [List.take_succ_cons,List.take_zero,List.drop_succ_cons,List.drop_zero]
 repeat still_step
 refine wpStill_nil ?_
 go_wp2_with fail
 go_ret
 exact ⟨rfl,Below.z⟩
theorem findIdx_eq (L:List Int) (r:Int) (i:Nat) (hi:i≤L.length) (h1:∀k (h:k < L.length),k < i→L[k]≤r) (h2:∀(h:i < L.length),r < L[i]):pickI L r=i:=by
 unfold pickI
 rcases Nat.lt_or_ge i L.length with h|h
 ·rw [List.findIdx_eq h]
  exact ⟨by simp [h2 h],fun j hj=>by have:=h1 j (by omega) hj;simp;omega⟩
 ·rw [List.findIdx_eq_length_of_false]
  ·omega
  ·intro x hx
   obtain ⟨k,hk,rfl⟩:=List.getElem_of_mem hx
   have:=h1 k hk (by omega)
   simp;omega
theorem cmpVs_drop:∀(l l':List GV) (j:Nat),j≤l.length→j≤l'.length→(∀q (h:q < l.length) (h':q < l'.length),q < j→cmpV l[q] l'[q]=0)→cmpVs l l'=cmpVs (l.drop j) (l'.drop j)
 | _,_,0,_,_,_=>by simp
 | [],_,j+1,h,_,_=>by simp at h
 | _::_,[],j+1,_,h,_=>by simp at h
 | x::l,y::l',j+1,h,h',g=>by
  have g0:=g 0 (by simp) (by simp) (by omega)
  simp only [List.getElem_cons_zero] at g0
  rw [cmpVs,if_pos g0,List.drop_succ_cons,List.drop_succ_cons]
  exact cmpVs_drop l l' j (by simpa using h) (by simpa using h') fun q hq hq' hj=>by
   have:=g (q+1) (by simpa using hq) (by simpa using hq') (by omega)
   simpa only [List.getElem_cons_succ] using this
theorem cmpVs_hit (l l':List GV) (j:Nat) (h:j < l.length) (h':j < l'.length) (g:∀q (h:q < l.length) (h':q < l'.length),q < j→cmpV l[q] l'[q]=0) (hn:cmpV l[j] l'[j]≠0):cmpVs l l'=cmpV l[j] l'[j]:=by
 rw [cmpVs_drop l l' j (by omega) (by omega) g,List.drop_eq_getElem_cons h,List.drop_eq_getElem_cons h',cmpVs,if_neg hn]
theorem cmpVs_end (l l':List GV) (j:Nat) (hj:j=min l.length l'.length) (g:∀q (h:q < l.length) (h':q < l'.length),q < j→cmpV l[q] l'[q]=0):cmpVs l l'=cmpI l.length l'.length:=by
 rw [cmpVs_drop l l' j (by omega) (by omega) g]
 rcases Nat.lt_trichotomy l.length l'.length with h|h|h
 ·rw [List.drop_eq_nil_of_le (by omega),List.drop_eq_getElem_cons (show j < l'.length by omega),cmpVs,cmpI,if_pos (by omega)]
 ·rw [List.drop_eq_nil_of_le (by omega),List.drop_eq_nil_of_le (by omega),cmpVs,cmpI,if_neg (by omega),if_pos (by omega)]
 ·rw [List.drop_eq_nil_of_le (show l'.length≤j by omega),List.drop_eq_getElem_cons (show j < l.length by omega),cmpVs,cmpI,if_neg (by omega),if_neg (by omega)]
theorem nan8_any (a:Int) (w:World):Calls Tryz.prog 212 #[.int .u8 a] w fun e w'=>e=.returned (.bool false)∧w=w':=by
 go_enter Tryz.func212,Tryz.ntmps212
 go_wp2_with fail
 all_goals go_ret
 all_goals exact ⟨by simp,rfl⟩
theorem nan64_any (a:Int) (w:World):Calls Tryz.prog 213 #[.int .i64 a] w fun e w'=>e=.returned (.bool false)∧w=w':=by
 go_enter Tryz.func213,Tryz.ntmps213
 go_wp2_with fail
 all_goals go_ret
 all_goals exact ⟨by simp,rfl⟩
theorem nan_any (a:Int) (w:World):Calls Tryz.prog 187 #[.int .i64 a] w fun e w'=>e=.returned (.bool false)∧w=w':=by
 go_enter Tryz.func187,Tryz.ntmps187
 go_wp2_with fail
 all_goals go_ret
 all_goals exact ⟨by simp,rfl⟩
theorem compare8_any (a b:Int) (w:World) (ha:isU8 a) (hb:isU8 b):Calls Tryz.prog 209 #[.int .u8 a,.int .u8 b] w fun e w'=>e=.returned (.int .i64 (cmpI a b))∧w=w':=by
 obtain ⟨h0,h1⟩:=ha
 obtain ⟨h2,h3⟩:=hb
 generalize hF:cmpI a b=F
 have HF:=hid hF
 clear hF
 go_enter Tryz.func209,Tryz.ntmps209
 go_wp2_with (go_at_call 212;refine (nan8_any _ _).mono ?_;rintro e w' ⟨rfl,rfl⟩)
 all_goals go_ret
 all_goals refine ⟨ret_int ?_,rfl⟩
 all_goals rw [←HF.out]
 all_goals unfold cmpI
 all_goals (first|rfl|omega|((try simp only [beq_iff_eq,beq_eq_false_iff_ne,bne_iff_ne,bne_eq_false_iff_eq,decide_eq_true_eq,decide_eq_false_iff_not,ne_eq,Bool.and_eq_true,Bool.or_eq_true,Bool.and_eq_false_iff,Bool.or_eq_false_iff,Bool.not_eq_true',Bool.not_eq_false'] at *);(repeat' split)<;>first|rfl|omega|contradiction|(simp_all;done)|(simp_all;omega)))
theorem compare64_any (a b:Int) (w:World) (ha:isI64 a) (hb:isI64 b):Calls Tryz.prog 210 #[.int .i64 a,.int .i64 b] w fun e w'=>e=.returned (.int .i64 (cmpI a b))∧w=w':=by
 obtain ⟨h0,h1⟩:=ha
 obtain ⟨h2,h3⟩:=hb
 generalize hF:cmpI a b=F
 have HF:=hid hF
 clear hF
 go_enter Tryz.func210,Tryz.ntmps210
 go_wp2_with (go_at_call 213;refine (nan64_any _ _).mono ?_;rintro e w' ⟨rfl,rfl⟩)
 all_goals go_ret
 all_goals refine ⟨ret_int ?_,rfl⟩
 all_goals rw [←HF.out]
 all_goals unfold cmpI
 all_goals (first|rfl|omega|((try simp only [beq_iff_eq,beq_eq_false_iff_ne,bne_iff_ne,bne_eq_false_iff_eq,decide_eq_true_eq,decide_eq_false_iff_not,ne_eq,Bool.and_eq_true,Bool.or_eq_true,Bool.and_eq_false_iff,Bool.or_eq_false_iff,Bool.not_eq_true',Bool.not_eq_false'] at *);(repeat' split)<;>first|rfl|omega|contradiction|(simp_all;done)|(simp_all;omega)))
theorem compare_any (a b:Int) (w:World) (ha:isI64 a) (hb:isI64 b):Calls Tryz.prog 211 #[.int .i64 a,.int .i64 b] w fun e w'=>e=.returned (.int .i64 (cmpI a b))∧w=w':=by
 obtain ⟨h0,h1⟩:=ha
 obtain ⟨h2,h3⟩:=hb
 generalize hF:cmpI a b=F
 have HF:=hid hF
 clear hF
 go_enter Tryz.func211,Tryz.ntmps211
 go_wp2_with (go_at_call 187;refine (nan_any _ _).mono ?_;rintro e w' ⟨rfl,rfl⟩)
 all_goals go_ret
 all_goals refine ⟨ret_int ?_,rfl⟩
 all_goals rw [←HF.out]
 all_goals unfold cmpI
 all_goals (first|rfl|omega|((try simp only [beq_iff_eq,beq_eq_false_iff_ne,bne_iff_ne,bne_eq_false_iff_eq,decide_eq_true_eq,decide_eq_false_iff_not,ne_eq,Bool.and_eq_true,Bool.or_eq_true,Bool.and_eq_false_iff,Bool.or_eq_false_iff,Bool.not_eq_true',Bool.not_eq_false'] at *);(repeat' split)<;>first|rfl|omega|contradiction|(simp_all;done)|(simp_all;omega)))
set_option maxRecDepth 100000 in
set_option maxHeartbeats 1000000 in
theorem cmp_any (N:Nat):∀(x y:GV) (w:World) (A A':Nat→Prop) (m m':VA),sizeV x≤N→okV x→okV y→RVs w A x.l m.a→RVs w A' y.l m'.a →
  Calls Tryz.prog 207 #[VV x m,VV y m'] w fun e w'=>e=.returned (.int .i64 (cmpV x y))∧Below w.heap.size w w':=by
 induction N with
 | zero=>intro x;have:=sizeV_pos x;intros;omega
 | succ N ih=>
  rintro x y w A A' ⟨ma,mc⟩ ⟨ma',mc'⟩ hN ox oy hl hl'
  dsimp only at hl hl'
  have IH:=hid ih
  have HL:=hid hl
  have HL':=hid hl'
  rw [sizeV_eq] at hN
  clear hl hl' ih
  obtain ⟨⟨x1,x2⟩,⟨x3,x4⟩,x5,ox'⟩:=okV_iff.1 ox
  obtain ⟨⟨y1,y2⟩,⟨y3,y4⟩,y5,oy'⟩:=okV_iff.1 oy
  have O:=hid (And.intro ox' oy')
  clear ox oy ox' oy'
  rw [cmpV_eq]
  by_cases hk:x.k=y.k
  case neg=>
   rw [if_neg hk]
   have hk':(x.k != y.k)=true:=by simpa using hk
   clear hk
   go_enter Tryz.func207,Tryz.ntmps207
   go_wp2_with (go_at_call 209;refine (compare8_any _ _ _ ⟨by omega,by omega⟩ ⟨by omega,by omega⟩).mono ?_;rintro e w' ⟨rfl,rfl⟩)
   go_ret
   exact ⟨rfl,Below.z⟩
  rw [if_pos hk]
  have hk':(x.k != y.k)=false:=by simpa using hk
  clear hk
  by_cases h12:x.k=1∨x.k=2
  ·rw [if_pos h12]
   have HB:=hid (show leafB x.k=true by rcases h12 with h|h<;>simp [leafB,h])
   clear h12
   go_enter Tryz.func207,Tryz.ntmps207
   go_wp2_with (first
    | (go_at_call 164;refine (leaf_any _ _ ⟨by omega,by omega⟩).mono ?_;rw [HB.out];rintro e w' ⟨rfl,rfl⟩)
    | (go_at_call 210;refine (compare64_any _ _ _ ⟨by omega,by omega⟩ ⟨by omega,by omega⟩).mono ?_;rintro e w' ⟨rfl,rfl⟩))
   go_ret
   exact ⟨rfl,Below.z⟩
  rw [if_neg h12]
  have HB:=hid (show leafB x.k=false by simp only [leafB,Bool.or_eq_false_iff,beq_eq_false_iff_ne];omega)
  clear h12
  by_cases h34:x.k=3∨x.k=4
  case neg=>
   rw [if_neg h34]
   have h3':(x.k != 3)=true:=by simp;omega
   have h4':(x.k != 4)=true:=by simp;omega
   clear h34
   go_enter Tryz.func207,Tryz.ntmps207
   go_wp2_with (go_at_call 164;refine (leaf_any _ _ ⟨by omega,by omega⟩).mono ?_;rw [HB.out];rintro e w' ⟨rfl,rfl⟩)
   go_ret
   exact ⟨rfl,Below.z⟩
  rw [if_pos h34]
  generalize hF:cmpVs x.l y.l=F
  have HF:=hid hF
  clear hF
  rcases h34 with h34|h34
  ·have h3':(x.k != 3)=false:=by simp [h34]
   clear h34
   rcases Nat.lt_or_ge y.l.length x.l.length with hxy|hxy
   ·have hxyI:(y.l.length:Int) < (x.l.length:Int):=by omega
    go_enter Tryz.func207,Tryz.ntmps207
    go_wp2_with (go_at_call 164;refine (leaf_any _ _ ⟨by omega,by omega⟩).mono ?_;rw [HB.out];rintro e w' ⟨rfl,rfl⟩)
    go_loopg [43] (y.l.length) (fun gk i wr=>∃j:Nat,gk+j=y.l.length∧i=.int .i64 j∧Hid (∀q (h:q < x.l.length) (h':q < y.l.length),q < j→cmpV x.l[q] y.l[q]=0)∧Below w.heap.size w wr∧w.heap.size+1 < wr.heap.size ∧
     wr.cell? ⟨w.heap.size,2,none⟩=some (.slice ma x.l.length mc)∧wr.cell? ⟨w.heap.size+1,2,none⟩=some (.slice ma' y.l.length mc'))
    case atStart=>exact ⟨0,by omega,by go_num,fun q h h' hq=>absurd hq (by omega),Below.z,by simp,by go_simp,by go_simp⟩
    case round=>
     obtain ⟨j,hj,rfl,HS,hb,hz,hcx,hcy⟩:=hrel
     by_cases hlt:j < y.l.length
     ·have hlt1:j < x.l.length:=by omega
      have hlt2:j < y.l.length:=by omega
      obtain ⟨b,o,mj,rfl,hA,hbs,g0,gx⟩:=HL.out.get j hlt1
      obtain ⟨b',o',mj',rfl,hA',hbs',g0',gy⟩:=HL'.out.get j hlt2
      obtain ⟨k0,k1,k2⟩:=At3.1 (g0.ext (Agree.below hb) (A:=fun _=>True) trivial)
      obtain ⟨k0',k1',k2'⟩:=At3.1 (g0'.ext (Agree.below hb) (A:=fun _=>True) trivial)
      have hs1:b < wr.heap.size:=by omega
      have hs2:b' < wr.heap.size:=by omega
      clear hbs hbs' g0 g0'
      generalize hC:cmpV x.l[j] y.l[j]=C
      have HC:=hid hC
      clear hC
      go_wp2_with fail
      refine wp_tail 10 (by kernel_rfl) (by kernel_rfl) ?_
      simp only [List.take_succ_cons,List.take_zero,List.drop_succ_cons,List.drop_zero]
      repeat still_step
      refine wpStill_nil ?_
      go_wp2_with (go_at_call 207;refine (IH.out x.l[j] y.l[j] _ A A' mj mj' (by have:=sizeVs_get x.l j hlt1;omega) (O.out.1.get j hlt1) (O.out.2.get j hlt2)
        (by exact RV_iff.1 (RV.ext (Agree.below hb.drew) _ _ gx)) (by exact RV_iff.1 (RV.ext (Agree.below hb.drew) _ _ gy))).mono ?_;rw [HC.out];rintro e2 w2 ⟨rfl,hb2⟩)
      all_goals have hbb:Below w.heap.size w w2:=(hb.drew).trans (hb2.mono (by simp;omega))
      ·have hne:C≠0:=by simpa using ‹(C != 0)=true›
       go_ret
       exact ⟨ret_int (by rw [←HF.out,cmpVs_hit x.l y.l j hlt1 hlt2 HS.out (by rw [HC.out];exact hne),HC.out]),hbb⟩
      ·have hne:C=0:=by simpa using ‹(C != 0)=false›
       have hz2:=hb2.size
       simp at hz2
       go_roundg (gk - 1)
       case rel=>exact ⟨j+1,by omega,by go_num,fun q h h' hq=>(by
        by_cases hqj:q=j
        ·subst hqj;rw [HC.out];exact hne
        ·exact HS.out q h h' (by omega)),hbb,by omega,(hb2.cell (by simp;omega)).trans (by go_simp),(hb2.cell (by simp;omega)).trans (by go_simp)⟩
       case measure=>omega
     ·have hjl:j=y.l.length:=by omega
      go_wp2_with (go_at_call 211;refine (compare_any _ _ _ ⟨by omega,by omega⟩ ⟨by omega,by omega⟩).mono ?_;rintro e w' ⟨rfl,rfl⟩)
      go_ret
      exact ⟨ret_int (by rw [←HF.out,cmpVs_end x.l y.l j (by omega) HS.out]),hb⟩
   ·have hxyI:¬(y.l.length:Int) < (x.l.length:Int):=by omega
    go_enter Tryz.func207,Tryz.ntmps207
    go_wp2_with (go_at_call 164;refine (leaf_any _ _ ⟨by omega,by omega⟩).mono ?_;rw [HB.out];rintro e w' ⟨rfl,rfl⟩)
    go_loopg [43] (x.l.length) (fun gk i wr=>∃j:Nat,gk+j=x.l.length∧i=.int .i64 j∧Hid (∀q (h:q < x.l.length) (h':q < y.l.length),q < j→cmpV x.l[q] y.l[q]=0)∧Below w.heap.size w wr∧w.heap.size+1 < wr.heap.size ∧
     wr.cell? ⟨w.heap.size,2,none⟩=some (.slice ma x.l.length mc)∧wr.cell? ⟨w.heap.size+1,2,none⟩=some (.slice ma' y.l.length mc'))
    case atStart=>exact ⟨0,by omega,by go_num,fun q h h' hq=>absurd hq (by omega),Below.z,by simp,by go_simp,by go_simp⟩
    case round=>
     obtain ⟨j,hj,rfl,HS,hb,hz,hcx,hcy⟩:=hrel
     by_cases hlt:j < x.l.length
     ·have hlt1:j < x.l.length:=by omega
      have hlt2:j < y.l.length:=by omega
      obtain ⟨b,o,mj,rfl,hA,hbs,g0,gx⟩:=HL.out.get j hlt1
      obtain ⟨b',o',mj',rfl,hA',hbs',g0',gy⟩:=HL'.out.get j hlt2
      obtain ⟨k0,k1,k2⟩:=At3.1 (g0.ext (Agree.below hb) (A:=fun _=>True) trivial)
      obtain ⟨k0',k1',k2'⟩:=At3.1 (g0'.ext (Agree.below hb) (A:=fun _=>True) trivial)
      have hs1:b < wr.heap.size:=by omega
      have hs2:b' < wr.heap.size:=by omega
      clear hbs hbs' g0 g0'
      generalize hC:cmpV x.l[j] y.l[j]=C
      have HC:=hid hC
      clear hC
      go_wp2_with fail
      refine wp_tail 10 (by kernel_rfl) (by kernel_rfl) ?_
      simp only [List.take_succ_cons,List.take_zero,List.drop_succ_cons,List.drop_zero]
      repeat still_step
      refine wpStill_nil ?_
      go_wp2_with (go_at_call 207;refine (IH.out x.l[j] y.l[j] _ A A' mj mj' (by have:=sizeVs_get x.l j hlt1;omega) (O.out.1.get j hlt1) (O.out.2.get j hlt2)
        (by exact RV_iff.1 (RV.ext (Agree.below hb.drew) _ _ gx)) (by exact RV_iff.1 (RV.ext (Agree.below hb.drew) _ _ gy))).mono ?_;rw [HC.out];rintro e2 w2 ⟨rfl,hb2⟩)
      all_goals have hbb:Below w.heap.size w w2:=(hb.drew).trans (hb2.mono (by simp;omega))
      ·have hne:C≠0:=by simpa using ‹(C != 0)=true›
       go_ret
       exact ⟨ret_int (by rw [←HF.out,cmpVs_hit x.l y.l j hlt1 hlt2 HS.out (by rw [HC.out];exact hne),HC.out]),hbb⟩
      ·have hne:C=0:=by simpa using ‹(C != 0)=false›
       have hz2:=hb2.size
       simp at hz2
       go_roundg (gk - 1)
       case rel=>exact ⟨j+1,by omega,by go_num,fun q h h' hq=>(by
        by_cases hqj:q=j
        ·subst hqj;rw [HC.out];exact hne
        ·exact HS.out q h h' (by omega)),hbb,by omega,(hb2.cell (by simp;omega)).trans (by go_simp),(hb2.cell (by simp;omega)).trans (by go_simp)⟩
       case measure=>omega
     ·have hjl:j=x.l.length:=by omega
      go_wp2_with (go_at_call 211;refine (compare_any _ _ _ ⟨by omega,by omega⟩ ⟨by omega,by omega⟩).mono ?_;rintro e w' ⟨rfl,rfl⟩)
      go_ret
      exact ⟨ret_int (by rw [←HF.out,cmpVs_end x.l y.l j (by omega) HS.out]),hb⟩
  ·have h3':(x.k != 3)=true:=by simp [h34]
   have h4':(x.k != 4)=false:=by simp [h34]
   clear h34
   rcases Nat.lt_or_ge y.l.length x.l.length with hxy|hxy
   ·have hxyI:(y.l.length:Int) < (x.l.length:Int):=by omega
    go_enter Tryz.func207,Tryz.ntmps207
    go_wp2_with (go_at_call 164;refine (leaf_any _ _ ⟨by omega,by omega⟩).mono ?_;rw [HB.out];rintro e w' ⟨rfl,rfl⟩)
    go_loopg [43] (y.l.length) (fun gk i wr=>∃j:Nat,gk+j=y.l.length∧i=.int .i64 j∧Hid (∀q (h:q < x.l.length) (h':q < y.l.length),q < j→cmpV x.l[q] y.l[q]=0)∧Below w.heap.size w wr∧w.heap.size+1 < wr.heap.size ∧
     wr.cell? ⟨w.heap.size,2,none⟩=some (.slice ma x.l.length mc)∧wr.cell? ⟨w.heap.size+1,2,none⟩=some (.slice ma' y.l.length mc'))
    case atStart=>exact ⟨0,by omega,by go_num,fun q h h' hq=>absurd hq (by omega),Below.z,by simp,by go_simp,by go_simp⟩
    case round=>
     obtain ⟨j,hj,rfl,HS,hb,hz,hcx,hcy⟩:=hrel
     by_cases hlt:j < y.l.length
     ·have hlt1:j < x.l.length:=by omega
      have hlt2:j < y.l.length:=by omega
      obtain ⟨b,o,mj,rfl,hA,hbs,g0,gx⟩:=HL.out.get j hlt1
      obtain ⟨b',o',mj',rfl,hA',hbs',g0',gy⟩:=HL'.out.get j hlt2
      obtain ⟨k0,k1,k2⟩:=At3.1 (g0.ext (Agree.below hb) (A:=fun _=>True) trivial)
      obtain ⟨k0',k1',k2'⟩:=At3.1 (g0'.ext (Agree.below hb) (A:=fun _=>True) trivial)
      have hs1:b < wr.heap.size:=by omega
      have hs2:b' < wr.heap.size:=by omega
      clear hbs hbs' g0 g0'
      generalize hC:cmpV x.l[j] y.l[j]=C
      have HC:=hid hC
      clear hC
      go_wp2_with fail
      refine wp_tail 10 (by kernel_rfl) (by kernel_rfl) ?_
      simp only [List.take_succ_cons,List.take_zero,List.drop_succ_cons,List.drop_zero]
      repeat still_step
      refine wpStill_nil ?_
      go_wp2_with (go_at_call 207;refine (IH.out x.l[j] y.l[j] _ A A' mj mj' (by have:=sizeVs_get x.l j hlt1;omega) (O.out.1.get j hlt1) (O.out.2.get j hlt2)
        (by exact RV_iff.1 (RV.ext (Agree.below hb.drew) _ _ gx)) (by exact RV_iff.1 (RV.ext (Agree.below hb.drew) _ _ gy))).mono ?_;rw [HC.out];rintro e2 w2 ⟨rfl,hb2⟩)
      all_goals have hbb:Below w.heap.size w w2:=(hb.drew).trans (hb2.mono (by simp;omega))
      ·have hne:C≠0:=by simpa using ‹(C != 0)=true›
       go_ret
       exact ⟨ret_int (by rw [←HF.out,cmpVs_hit x.l y.l j hlt1 hlt2 HS.out (by rw [HC.out];exact hne),HC.out]),hbb⟩
      ·have hne:C=0:=by simpa using ‹(C != 0)=false›
       have hz2:=hb2.size
       simp at hz2
       go_roundg (gk - 1)
       case rel=>exact ⟨j+1,by omega,by go_num,fun q h h' hq=>(by
        by_cases hqj:q=j
        ·subst hqj;rw [HC.out];exact hne
        ·exact HS.out q h h' (by omega)),hbb,by omega,(hb2.cell (by simp;omega)).trans (by go_simp),(hb2.cell (by simp;omega)).trans (by go_simp)⟩
       case measure=>omega
     ·have hjl:j=y.l.length:=by omega
      go_wp2_with (go_at_call 211;refine (compare_any _ _ _ ⟨by omega,by omega⟩ ⟨by omega,by omega⟩).mono ?_;rintro e w' ⟨rfl,rfl⟩)
      go_ret
      exact ⟨ret_int (by rw [←HF.out,cmpVs_end x.l y.l j (by omega) HS.out]),hb⟩
   ·have hxyI:¬(y.l.length:Int) < (x.l.length:Int):=by omega
    go_enter Tryz.func207,Tryz.ntmps207
    go_wp2_with (go_at_call 164;refine (leaf_any _ _ ⟨by omega,by omega⟩).mono ?_;rw [HB.out];rintro e w' ⟨rfl,rfl⟩)
    go_loopg [43] (x.l.length) (fun gk i wr=>∃j:Nat,gk+j=x.l.length∧i=.int .i64 j∧Hid (∀q (h:q < x.l.length) (h':q < y.l.length),q < j→cmpV x.l[q] y.l[q]=0)∧Below w.heap.size w wr∧w.heap.size+1 < wr.heap.size ∧
     wr.cell? ⟨w.heap.size,2,none⟩=some (.slice ma x.l.length mc)∧wr.cell? ⟨w.heap.size+1,2,none⟩=some (.slice ma' y.l.length mc'))
    case atStart=>exact ⟨0,by omega,by go_num,fun q h h' hq=>absurd hq (by omega),Below.z,by simp,by go_simp,by go_simp⟩
    case round=>
     obtain ⟨j,hj,rfl,HS,hb,hz,hcx,hcy⟩:=hrel
     by_cases hlt:j < x.l.length
     ·have hlt1:j < x.l.length:=by omega
      have hlt2:j < y.l.length:=by omega
      obtain ⟨b,o,mj,rfl,hA,hbs,g0,gx⟩:=HL.out.get j hlt1
      obtain ⟨b',o',mj',rfl,hA',hbs',g0',gy⟩:=HL'.out.get j hlt2
      obtain ⟨k0,k1,k2⟩:=At3.1 (g0.ext (Agree.below hb) (A:=fun _=>True) trivial)
      obtain ⟨k0',k1',k2'⟩:=At3.1 (g0'.ext (Agree.below hb) (A:=fun _=>True) trivial)
      have hs1:b < wr.heap.size:=by omega
      have hs2:b' < wr.heap.size:=by omega
      clear hbs hbs' g0 g0'
      generalize hC:cmpV x.l[j] y.l[j]=C
      have HC:=hid hC
      clear hC
      go_wp2_with fail
      refine wp_tail 10 (by kernel_rfl) (by kernel_rfl) ?_
      simp only [List.take_succ_cons,List.take_zero,List.drop_succ_cons,List.drop_zero]
      repeat still_step
      refine wpStill_nil ?_
      go_wp2_with (go_at_call 207;refine (IH.out x.l[j] y.l[j] _ A A' mj mj' (by have:=sizeVs_get x.l j hlt1;omega) (O.out.1.get j hlt1) (O.out.2.get j hlt2)
        (by exact RV_iff.1 (RV.ext (Agree.below hb.drew) _ _ gx)) (by exact RV_iff.1 (RV.ext (Agree.below hb.drew) _ _ gy))).mono ?_;rw [HC.out];rintro e2 w2 ⟨rfl,hb2⟩)
      all_goals have hbb:Below w.heap.size w w2:=(hb.drew).trans (hb2.mono (by simp;omega))
      ·have hne:C≠0:=by simpa using ‹(C != 0)=true›
       go_ret
       exact ⟨ret_int (by rw [←HF.out,cmpVs_hit x.l y.l j hlt1 hlt2 HS.out (by rw [HC.out];exact hne),HC.out]),hbb⟩
      ·have hne:C=0:=by simpa using ‹(C != 0)=false›
       have hz2:=hb2.size
       simp at hz2
       go_roundg (gk - 1)
       case rel=>exact ⟨j+1,by omega,by go_num,fun q h h' hq=>(by
        by_cases hqj:q=j
        ·subst hqj;rw [HC.out];exact hne
        ·exact HS.out q h h' (by omega)),hbb,by omega,(hb2.cell (by simp;omega)).trans (by go_simp),(hb2.cell (by simp;omega)).trans (by go_simp)⟩
       case measure=>omega
     ·have hjl:j=x.l.length:=by omega
      go_wp2_with (go_at_call 211;refine (compare_any _ _ _ ⟨by omega,by omega⟩ ⟨by omega,by omega⟩).mono ?_;rintro e w' ⟨rfl,rfl⟩)
      go_ret
      exact ⟨ret_int (by rw [←HF.out,cmpVs_end x.l y.l j (by omega) HS.out]),hb⟩
theorem cmpI_tri (a b:Int):(a < b∧cmpI a b= -1)∨(a=b∧cmpI a b=0)∨(b < a∧cmpI a b=1):=by
 unfold cmpI
 rcases Int.lt_trichotomy a b with h|h|h
 ·exact .inl ⟨h,if_pos h⟩
 ·exact .inr (.inl ⟨h,by rw [if_neg (by omega),if_pos h]⟩)
 ·exact .inr (.inr ⟨h,by rw [if_neg (by omega),if_neg (by omega)]⟩)
set_option maxRecDepth 100000 in
set_option maxHeartbeats 1000000 in
theorem r14cmp_any (N:Nat):∀(x y:GV) (w:World) (A A':Nat→Prop) (m m':VA),sizeV x≤N→okV x→okV y→RVs w A x.l m.a→RVs w A' y.l m'.a →
  Calls Tryz.prog 54 #[VV x m,VV y m'] w fun e w'=>e=.returned (.int .i64 (cmpV x y))∧Below w.heap.size w w':=by
 induction N with
 | zero=>intro x;have:=sizeV_pos x;intros;omega
 | succ N ih=>
  rintro x y w A A' ⟨ma,mc⟩ ⟨ma',mc'⟩ hN ox oy hl hl'
  dsimp only at hl hl'
  have IH:=hid ih
  have HL:=hid hl
  have HL':=hid hl'
  rw [sizeV_eq] at hN
  clear hl hl' ih
  obtain ⟨⟨x1,x2⟩,⟨x3,x4⟩,x5,ox'⟩:=okV_iff.1 ox
  obtain ⟨⟨y1,y2⟩,⟨y3,y4⟩,y5,oy'⟩:=okV_iff.1 oy
  have O:=hid (And.intro ox' oy')
  clear ox oy ox' oy'
  rw [cmpV_eq]
  by_cases hk:x.k=y.k
  case neg=>
   rw [if_neg hk]
   have hk':(x.k != y.k)=true:=by simpa using hk
   rcases cmpI_tri x.k y.k with ⟨h1,h2⟩|⟨h1,h2⟩|⟨h1,h2⟩
   ·rw [h2]
    have h3:decide (x.k < y.k)=true:=by simpa using h1
    clear hk h1 h2
    go_enter Tryz.func54,Tryz.ntmps54
    go_wp2_with fail
    go_ret
    exact ⟨rfl,Below.r⟩
   ·exact absurd h1 hk
   ·rw [h2]
    have h3:decide (x.k < y.k)=false:=by simp;omega
    clear hk h1 h2
    go_enter Tryz.func54,Tryz.ntmps54
    go_wp2_with fail
    go_ret
    exact ⟨rfl,Below.r⟩
  rw [if_pos hk]
  have hk':(x.k != y.k)=false:=by simpa using hk
  clear hk
  by_cases h12:x.k=1∨x.k=2
  ·rw [if_pos h12]
   have hk12:(x.k==1)=true∨((x.k==1)=false∧(x.k==2)=true):=by
    rcases h12 with h|h
    ·exact .inl (by simp [h])
    ·exact .inr ⟨by simp [h],by simp [h]⟩
   clear h12
   rcases cmpI_tri x.n y.n with ⟨h1,h2⟩|⟨h1,h2⟩|⟨h1,h2⟩
   all_goals rw [h2]
   all_goals clear h2
   ·have h3:decide (x.n < y.n)=true:=by simpa using h1
    clear h1
    rcases hk12 with h4|⟨h4,h5⟩
    all_goals go_enter Tryz.func54,Tryz.ntmps54
    all_goals go_wp2_with fail
    all_goals go_ret
    all_goals exact ⟨rfl,Below.r⟩
   ·have h3:decide (x.n < y.n)=false:=by simp;omega
    have h6:decide (y.n < x.n)=false:=by simp;omega
    clear h1
    rcases hk12 with h4|⟨h4,h5⟩
    all_goals go_enter Tryz.func54,Tryz.ntmps54
    all_goals go_wp2_with fail
    all_goals go_ret
    all_goals exact ⟨rfl,Below.r⟩
   ·have h3:decide (x.n < y.n)=false:=by simp;omega
    have h6:decide (y.n < x.n)=true:=by simpa using h1
    clear h1
    rcases hk12 with h4|⟨h4,h5⟩
    all_goals go_enter Tryz.func54,Tryz.ntmps54
    all_goals go_wp2_with fail
    all_goals go_ret
    all_goals exact ⟨rfl,Below.r⟩
  rw [if_neg h12]
  have h1':(x.k==1)=false:=by simp;omega
  have h2':(x.k==2)=false:=by simp;omega
  by_cases h34:x.k=3∨x.k=4
  case neg=>
   rw [if_neg h34]
   have h3':(x.k != 3)=true:=by simp;omega
   have h4':(x.k != 4)=true:=by simp;omega
   clear h34 h12
   go_enter Tryz.func54,Tryz.ntmps54
   go_wp2_with fail
   go_ret
   exact ⟨rfl,Below.r⟩
  rw [if_pos h34]
  generalize hF:cmpVs x.l y.l=F
  have HF:=hid hF
  clear hF
  have h34':(x.k != 3)=false∨((x.k != 3)=true∧(x.k != 4)=false):=by
   rcases h34 with h|h
   ·exact .inl (by simp [h])
   ·exact .inr ⟨by simp [h],by simp [h]⟩
  clear h34 h12
  rcases h34' with h3'|⟨h3',h4'⟩
  all_goals
   go_enter Tryz.func54,Tryz.ntmps54
   go_wp2_with fail
   go_loopg [5] (x.l.length) (fun gk i wr=>∃j:Nat,gk+j=x.l.length∧i=.int .i64 j∧j≤y.l.length∧Hid (∀q (h:q < x.l.length) (h':q < y.l.length),q < j→cmpV x.l[q] y.l[q]=0)∧Below w.heap.size w wr∧w.heap.size+1 < wr.heap.size ∧
    wr.cell? ⟨w.heap.size,2,none⟩=some (.slice ma x.l.length mc)∧wr.cell? ⟨w.heap.size+1,2,none⟩=some (.slice ma' y.l.length mc'))
   case atStart=>exact ⟨0,by omega,rfl,by omega,fun q h h' hq=>absurd hq (by omega),Below.r,by simp,by go_simp,by go_simp⟩
   case round=>
    obtain ⟨j,hj,rfl,hjy,HS,hb,hz,hcx,hcy⟩:=hrel
    by_cases hlt1:j < x.l.length
    ·by_cases hlt2:j < y.l.length
     ·obtain ⟨b,o,mj,rfl,hA,hbs,g0,gx⟩:=HL.out.get j hlt1
      obtain ⟨b',o',mj',rfl,hA',hbs',g0',gy⟩:=HL'.out.get j hlt2
      obtain ⟨k0,k1,k2⟩:=At3.1 (g0.ext (Agree.below hb) (A:=fun _=>True) trivial)
      obtain ⟨k0',k1',k2'⟩:=At3.1 (g0'.ext (Agree.below hb) (A:=fun _=>True) trivial)
      have hs1:b < wr.heap.size:=by omega
      have hs2:b' < wr.heap.size:=by omega
      clear hbs hbs' g0 g0'
      generalize hC:cmpV x.l[j] y.l[j]=C
      have HC:=hid hC
      clear hC
      go_wp2_with fail
      refine wp_tail 10 (by kernel_rfl) (by kernel_rfl) ?_
      simp only [List.take_succ_cons,List.take_zero,List.drop_succ_cons,List.drop_zero]
      repeat still_step
      refine wpStill_nil ?_
      go_wp2_with (go_at_call 54;refine (IH.out x.l[j] y.l[j] _ A A' mj mj' (by have:=sizeVs_get x.l j hlt1;omega) (O.out.1.get j hlt1) (O.out.2.get j hlt2)
        (by exact RV_iff.1 (RV.ext (Agree.below hb.drew) _ _ gx)) (by exact RV_iff.1 (RV.ext (Agree.below hb.drew) _ _ gy))).mono ?_;rw [HC.out];rintro e2 w2 ⟨rfl,hb2⟩)
      all_goals have hbb:Below w.heap.size w w2:=(hb.drew).trans (hb2.mono (by simp;omega))
      ·have hne:C≠0:=by simpa using ‹(C != 0)=true›
       go_ret
       exact ⟨ret_int (by rw [←HF.out,cmpVs_hit x.l y.l j hlt1 hlt2 HS.out (by rw [HC.out];exact hne),HC.out]),hbb⟩
      ·have hne:C=0:=by simpa using ‹(C != 0)=false›
       have hz2:=hb2.size
       simp at hz2
       go_roundg (gk - 1)
       case rel=>exact ⟨j+1,by omega,by go_num,by omega,fun q h h' hq=>(by
        by_cases hqj:q=j
        ·subst hqj;rw [HC.out];exact hne
        ·exact HS.out q h h' (by omega)),hbb,by omega,(hb2.cell (by simp;omega)).trans (by go_simp),(hb2.cell (by simp;omega)).trans (by go_simp)⟩
       case measure=>omega
     ·have hjl:j=y.l.length:=by omega
      have HE:=hid (cmpVs_end x.l y.l j (by omega) HS.out)
      have hl1:¬x.l.length < y.l.length:=by omega
      have hl2:y.l.length < x.l.length:=by omega
      go_wp2_with fail
      go_ret
      exact ⟨ret_int (by rw [←HF.out,HE.out,cmpI,if_neg (by omega),if_neg (by omega)]),Below.r⟩
    ·have hjl:j=x.l.length:=by omega
     have HE:=hid (cmpVs_end x.l y.l j (by omega) HS.out)
     by_cases hl1:x.l.length < y.l.length
     ·go_wp2_with fail
      go_ret
      exact ⟨ret_int (by rw [←HF.out,HE.out,cmpI,if_pos (by omega)]),Below.r⟩
     ·have hl2:¬y.l.length < x.l.length:=by omega
      go_wp2_with fail
      go_ret
      exact ⟨ret_int (by rw [←HF.out,HE.out,cmpI,if_neg (by omega),if_pos (by omega)]),Below.r⟩
def Res.Keep {α:Type} (r r':Res α):Prop:=r=.no 2∨r'=r
theorem Keep.refl {α:Type} (r:Res α):r.Keep r:=.inr rfl
theorem Keep.bind {α β:Type} {r r':Res α} {g g':α→Nat→Res β} (h:r.Keep r') (hg:∀v j,r=.ok v j→(g v j).Keep (g' v j)):(r.bind g).Keep (r'.bind g'):=by
 rcases h with rfl|rfl
 ·exact .inl rfl
 ·cases r' with
  | no k=>exact .inr rfl
  | ok v j=>exact hg v j rfl
theorem Keep.map {α β:Type} {r r':Res α} {g:α→β} (h:r.Keep r'):(r.map g).Keep (r'.map g):=by
 rcases h with rfl|rfl
 ·exact .inl rfl
 ·exact .inr rfl
end Go.Proofs.YtclphfojkggcpaaGreat
