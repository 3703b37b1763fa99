/- What the proofs of the Trial statements need: part 11. -/
import Derived.Test.YtojjdneicmbfjaaGreatDoorQ5
import Derived.Test.YtojjdneicmbfjaaGreatDoorQ7
import Derived.Test.YtojjdneicmbfjaaGreatDoorQ9
set_option linter.unusedVariables false
set_option linter.unusedSimpArgs false
namespace Go.Proofs.YtojjdneicmbfjaaGreatDoor
open Go Go.RowKit
structure GR where
 f:Int
 t:Int
 v:GV
def subS (s:ByteArray) (a:Nat):ByteArray:=s.extract a s.size
def runT (s:ByteArray) (t:GT):Res GV:=sampT s 4098 t [] 0
def runE (t:GT) (s:ByteArray):Int:=if (checkTE t).2≠0 then (checkTE t).2 else if isBits s=true then 0 else 3
def cutE (t:GT) (p:GP) (s:ByteArray) (m:Int):Int:=
 if runE t s≠0 then runE t s else if (checkPE p).2≠0 then (checkPE p).2 else if m < 0∨1000 < m then 1 else 0
def cutT (s:ByteArray) (t:GT) (p:GP):Nat→Nat→List GR×Int
 | 0,_=>([],2)
 | n+1,i=>match runT (subS s i) t with
  | .no k=>([],if k=2 then 3 else 4)
  | .ok v u=>if holdsP p v=true then (⟨i,(i+u:Nat),v⟩::(cutT s t p n (i+u)).1,(cutT s t p n (i+u)).2) else ([⟨i,(i+u:Nat),v⟩],1)
theorem subS_size (s:ByteArray) (a:Nat) (h:a≤s.size):(subS s a).size=s.size - a:=by
 simp [subS]
theorem subS_list (s:ByteArray) (a:Nat):(subS s a).data.toList=s.data.toList.drop a:=by
 unfold subS
 rw [ByteArray.data_extract,Array.toList_extract,List.extract_eq_take_drop,List.take_of_length_le]
 simp
theorem isBits_sub {s:ByteArray} (h:isBits s=true) (a:Nat) (ha:a≤s.size):isBits (subS s a)=true:=by
 unfold isBits at h ⊢
 rw [Bool.and_eq_true] at h ⊢
 obtain ⟨h1,h2⟩:=h
 have h1:=of_decide_eq_true h1
 refine ⟨decide_eq_true (by rw [subS_size s a ha];omega),?_⟩
 unfold oddB at h2 ⊢
 rw [Bool.not_not] at h2 ⊢
 rw [subS_list]
 rw [List.all_eq_true] at h2 ⊢
 exact fun b hb=>h2 b (List.mem_of_mem_drop hb)
theorem runE_sub {t:GT} {s:ByteArray} (h:runE t s=0) (a:Nat) (ha:a≤s.size):runE t (subS s a)=0:=by
 unfold runE at h ⊢
 split at h
 ·omega
 ·rename_i h1
  rw [if_neg h1]
  split at h
  ·rename_i h2;rw [if_pos (isBits_sub h2 a ha)]
  ·omega
theorem runT_in {t:GT} {s:ByteArray} (h:runE t s=0) (ox:okT t):(runT s t).In okV 0 s.size:=by
 have h1:(chkT 0 1 12 false t).2=0:=by
  unfold runE checkTE at h
  by_cases h0:(chkT 0 1 12 false t).2=0
  ·exact h0
  ·rw [if_pos h0] at h;rw [if_pos h0] at h;omega
 exact sampT_in s (sizeT t) 4098 t [] 0 (good_of_chk 12 t 0 1 false h1) ox (Nat.le_refl _) trivial (by omega)
theorem cut_cons {s:ByteArray} {t:GT} {p:GP} {n a:Nat} {x:GR} {r:List GR} {e:Int} (h:cutT s t p n a=(x::r,e)):
  0 < n∧∃(v:GV) (u:Nat),runT (subS s a) t=.ok v u∧x=⟨a,(a+u:Nat),v⟩∧((holdsP p v=true∧cutT s t p (n - 1) (a+u)=(r,e))∨(holdsP p v=false∧r=[]∧e=1)):=by
 cases n with
 | zero=>simp [cutT] at h
 | succ n=>
  refine ⟨by omega,?_⟩
  rcases hr:runT (subS s a) t with ⟨v,u⟩|⟨k⟩
  ·refine ⟨v,u,rfl,?_⟩
   simp only [cutT,hr] at h
   cases hh:holdsP p v
   ·rw [hh,if_neg (by simp)] at h
    simp only [Prod.mk.injEq,List.cons.injEq] at h
    exact ⟨h.1.1.symm,.inr ⟨rfl,h.1.2.symm,h.2.symm⟩⟩
   ·rw [hh,if_pos rfl] at h
    simp only [Prod.mk.injEq,List.cons.injEq] at h
    refine ⟨h.1.1.symm,.inl ⟨rfl,?_⟩⟩
    rw [Nat.add_sub_cancel,←h.1.2,←h.2]
  ·simp [cutT,hr] at h
theorem cut_nil {s:ByteArray} {t:GT} {p:GP} {n a:Nat} {e:Int} (h:cutT s t p n a=([],e)):
  (n=0∧e=2)∨(0 < n∧∃k,runT (subS s a) t=.no k∧e=if k=2 then 3 else 4):=by
 cases n with
 | zero=>simp [cutT] at h;exact .inl ⟨rfl,h.symm⟩
 | succ n=>
  refine .inr ⟨by omega,?_⟩
  rcases hr:runT (subS s a) t with ⟨v,u⟩|⟨k⟩
  ·simp only [cutT,hr] at h
   split at h<;>simp at h
  ·refine ⟨k,rfl,?_⟩
   simp only [cutT,hr,Prod.mk.injEq] at h
   exact h.2.symm
theorem cut_len (s:ByteArray) (t:GT) (p:GP):∀(n a:Nat) (l:List GR) (e:Int),cutT s t p n a=(l,e)→l.length≤n∧(e=1→0 < l.length)∧(e=2→l.length=n)∧(e=3∨e=4→l.length < n)∧(e=1∨e=2∨e=3∨e=4)
 | n,a,[],e,h=>by
  rcases cut_nil h with ⟨rfl,rfl⟩|⟨h0,k,_,rfl⟩
  ·simp
  ·refine ⟨by simp,?_,?_,fun _=>by simpa using h0,?_⟩
   ·split<;>omega
   ·split<;>omega
   ·split<;>omega
 | n,a,x::r,e,h=>by
  obtain ⟨h0,v,u,_,_,hc|⟨_,rfl,rfl⟩⟩:=cut_cons h
  ·obtain ⟨h1,h2,h3,h4,h5⟩:=cut_len s t p (n - 1) (a+u) r e hc.2
   refine ⟨by simp;omega,fun _=>by simp,fun he=>by have:=h3 he;simp;omega,fun he=>by have:=h4 he;simp;omega,h5⟩
  ·exact ⟨by simp;omega,fun _=>by simp,fun he=>by omega,fun he=>by omega,.inl rfl⟩
 termination_by n a l=>l.length
theorem cut_nil_ne {s:ByteArray} {t:GT} {p:GP} {n a:Nat} {e:Int} (h:cutT s t p n a=([],e)):e≠1:=by
 intro he
 have:=(cut_len s t p n a [] e h).2.1 he
 simp at this
theorem cutT_step (s:ByteArray) (t:GT) (p:GP) (n i:Nat):cutT s t p (n+1) i=match runT (subS s i) t with
  | .no k=>([],if k=2 then 3 else 4)
  | .ok v u=>if holdsP p v=true then (⟨i,(i+u:Nat),v⟩::(cutT s t p n (i+u)).1,(cutT s t p n (i+u)).2) else ([⟨i,(i+u:Nat),v⟩],1):=rfl
theorem cut_mem {s:ByteArray} {t:GT} (p:GP) (hE:runE t s=0) (ox:okT t):∀(n a:Nat),a≤s.size→∀x∈(cutT s t p n a).1,(0≤x.f∧x.f≤(s.size:Int))∧(0≤x.t∧x.t≤(s.size:Int))∧okV x.v
 | 0,a,ha,x,hx=>by simp [cutT] at hx
 | n+1,a,ha,x,hx=>by
  rw [cutT_step] at hx
  have hin:=runT_in (runE_sub hE a ha) ox
  rcases hr:runT (subS s a) t with ⟨v,u⟩|⟨k⟩
  ·rw [hr] at hx hin
   rw [subS_size s a ha] at hin
   obtain ⟨-,hu,okx⟩:=hin
   have h0:(0≤(a:Int)∧(a:Int)≤(s.size:Int))∧(0≤((a+u:Nat):Int)∧((a+u:Nat):Int)≤(s.size:Int))∧okV v:=⟨by omega,by omega,okx⟩
   dsimp only at hx
   split at hx
   ·rcases List.mem_cons.1 hx with rfl|hx
    ·exact h0
    ·exact cut_mem p hE ox n (a+u) (by omega) x hx
   ·rcases List.mem_singleton.1 hx with rfl
    exact h0
  ·rw [hr] at hx
   simp at hx
theorem app_list (s s2:ByteArray):(s++s2).data.toList=s.data.toList++s2.data.toList:=by simp
theorem may_iff {p:GP}:mayP p=true↔(checkPE p).2=0:=by unfold mayP;simp
section
def Loc (s s':ByteArray) (j:Nat):Prop:=j≤s'.size∧∀i,i < j→s'.data.toList.getD i 48=s.data.toList.getD i 48
theorem Loc.le {s s':ByteArray} {i j:Nat} (h:Loc s s' j) (hi:i≤j):Loc s s' i:=⟨Nat.le_trans hi h.1,fun q hq=>h.2 q (Nat.lt_of_lt_of_le hq hi)⟩
def LocR (s s':ByteArray) {α:Type} (i:Nat) (r r':Res α):Prop:=∀v j,r=.ok v j→i≤j∧(Loc s s' j→r'=.ok v j)
def LocP (s s':ByteArray) {α:Type} (i:Nat) (r r':Option α×Nat):Prop:=∀v j,r=(some v,j)→i≤j∧(Loc s s' j→r'=(some v,j))
section
variable {s s':ByteArray}
theorem LocR.ok {α:Type} (v:α) (i:Nat):LocR s s' i (.ok v i) (.ok v i):=fun w j h=>by
 cases h
 exact ⟨Nat.le_refl _,fun _=>rfl⟩
theorem LocR.no {α:Type} (k:Nat) (i:Nat) (r:Res α):LocR s s' i (.no k) r:=fun w j h=>by cases h
theorem LocR.bind {α β:Type} {i:Nat} {r r':Res α} {g g':α→Nat→Res β} (h:LocR s s' i r r') (hg:∀v j,LocR s s' j (g v j) (g' v j)):LocR s s' i (r.bind g) (r'.bind g'):=fun w q e=>by
 cases r with
 | no k=>cases e
 | ok v j=>
  obtain ⟨h1,h2⟩:=h v j rfl
  obtain ⟨h3,h4⟩:=hg v j w q e
  exact ⟨Nat.le_trans h1 h3,fun hL=>by rw [h2 (hL.le h3)];exact h4 hL⟩
theorem LocR.map {α β:Type} {i:Nat} {r r':Res α} {g:α→β} (h:LocR s s' i r r'):LocR s s' i (r.map g) (r'.map g):=fun w q e=>by
 cases r with
 | no k=>cases e
 | ok v j=>
  obtain ⟨h1,h2⟩:=h v j rfl
  cases e
  exact ⟨h1,fun hL=>by rw [h2 hL];rfl⟩
theorem LocP.need {α:Type} {i:Nat} {r r':Option α×Nat} (h:LocP s s' i r r'):LocR s s' i (needR r) (needR r'):=fun w q e=>by
 obtain ⟨o,j⟩:=r
 cases o with
 | none=>cases e
 | some v=>
  cases e
  obtain ⟨h1,h2⟩:=h _ _ rfl
  exact ⟨h1,fun hL=>by rw [h2 hL];rfl⟩
theorem LocP.some {α:Type} (v:α) (i:Nat):LocP s s' i (Option.some v,i) (Option.some v,i):=fun w j h=>by
 cases h
 exact ⟨Nat.le_refl _,fun _=>rfl⟩
theorem takeV_loc (i:Nat):∀j,Loc s s' (i+j)→takeV s' i j=takeV s i j
 | 0,_=>rfl
 | j+1,h=>by rw [takeV,takeV,takeV_loc i j (h.le (by omega)),h.2 (i+j) (by omega)]
theorem firstN_nil (s:ByteArray) (n:Nat):∀f i v j,firstN s n 0 f i=(Option.some v,j)→v=0∧0 < n∧j=i
 | 0,i,v,j,h=>by cases h
 | f+1,i,v,j,h=>by
  rw [firstN] at h
  split at h
  ·cases h
  ·split at h
   ·rename_i h2;cases h;exact ⟨rfl,by simpa [takeV] using h2,by omega⟩
   ·exact firstN_nil s n f i v j h
theorem firstN_loc (n q:Nat) (hq:0 < q):∀f i v j,firstN s n q f i=(Option.some v,j)→i≤j∧(Loc s s' j→∀f',s'.size+1≤i+f'→firstN s' n q f' i=(Option.some v,j))
 | 0,i,v,j,h=>by cases h
 | f+1,i,v,j,h=>by
  rw [firstN] at h
  split at h
  ·cases h
  ·split at h
   ·rename_i h1 h2
    cases h
    refine ⟨by omega,fun hL f' hf=>?_⟩
    have:=hL.1
    obtain ⟨g,rfl⟩:∃g,f'=g+1:=⟨f' - 1,by omega⟩
    rw [firstN,takeV_loc i q hL,if_neg (by omega),if_pos h2]
   ·rename_i h1 h2
    obtain ⟨h3,h4⟩:=firstN_loc n q hq f (i+q) v j h
    refine ⟨by omega,fun hL f' hf=>?_⟩
    have:=hL.1
    obtain ⟨g,rfl⟩:∃g,f'=g+1:=⟨f' - 1,by omega⟩
    rw [firstN,takeV_loc i q (hL.le h3),if_neg (by omega),if_neg h2]
    exact h4 hL g (by omega)
theorem drawP_loc (m i:Nat):LocP s s' i (drawP s m i) (drawP s' m i):=fun v j h=>by
 unfold drawP at h ⊢
 rcases Nat.eq_zero_or_pos (widthN m) with h0|h0
 ·rw [h0] at h ⊢
  obtain ⟨rfl,h1,rfl⟩:=firstN_nil s m _ _ _ _ h
  refine ⟨Nat.le_refl _,fun hL=>?_⟩
  have:=hL.1
  rw [show s'.size+1 - j=(s'.size - j)+1 by omega,firstN,if_neg (by omega),if_pos (by simpa [takeV] using h1)]
  rfl
 ·obtain ⟨h1,h2⟩:=firstN_loc (s':=s') m _ h0 _ _ _ _ h
  exact ⟨h1,fun hL=>h2 hL _ (by omega)⟩
theorem freqP_loc (w:List Int) (i:Nat):LocP s s' i (freqP s w i) (freqP s' w i):=fun v j h=>by
 unfold freqP at h ⊢
 cases hd:drawP s (sumI w).toNat i with
 | mk o q=>
  rw [hd] at h
  cases o with
  | none=>cases h
  | some a=>
   obtain ⟨h1,h2⟩:=drawP_loc (s':=s') _ _ _ _ hd
   cases h
   exact ⟨h1,fun hL=>by rw [h2 hL]⟩
theorem aliasP_loc (w:List Int) (i:Nat):LocP s s' i (aliasP s w i) (aliasP s' w i):=fun v j h=>by
 unfold aliasP at h ⊢
 cases hd:drawP s w.length i with
 | mk o q=>
  rw [hd] at h
  cases o with
  | none=>cases h
  | some a=>
   simp only [] at h
   obtain ⟨h1,h2⟩:=drawP_loc (s':=s') _ _ _ _ hd
   cases hd2:drawP s (sumI w).toNat q with
   | mk o2 q2=>
    rw [hd2] at h
    cases o2 with
    | none=>cases h
    | some r=>
     obtain ⟨h3,h4⟩:=drawP_loc (s':=s') _ _ _ _ hd2
     cases h
     exact ⟨by omega,fun hL=>by rw [h2 (hL.le h3)];simp only [];rw [h4 hL]⟩
theorem permDraws_loc:∀(n i:Nat),LocP s s' i (permDraws s n i) (permDraws s' n i)
 | 0,i=>LocP.some _ _
 | n+1,i=>fun v j h=>by
  rw [permDraws] at h ⊢
  cases hd:drawP s (n+2) i with
  | mk o q=>
   rw [hd] at h
   cases o with
   | none=>cases h
   | some a=>
    simp only [] at h
    obtain ⟨h1,h2⟩:=drawP_loc (s':=s') _ _ _ _ hd
    cases hd2:permDraws s n q with
    | mk o2 q2=>
     rw [hd2] at h
     cases o2 with
     | none=>cases h
     | some r=>
      obtain ⟨h3,h4⟩:=permDraws_loc n q _ _ hd2
      cases h
      exact ⟨by omega,fun hL=>by rw [h2 (hL.le h3)];simp only [];rw [h4 hL]⟩
theorem poolDraws_loc:∀(n m i:Nat),LocP s s' i (poolDraws s n m i) (poolDraws s' n m i)
 | 0,m,i=>LocP.some _ _
 | n+1,m,i=>fun v j h=>by
  rw [poolDraws] at h ⊢
  cases hd:drawP s (m+1) i with
  | mk o q=>
   rw [hd] at h
   cases o with
   | none=>cases h
   | some a=>
    simp only [] at h
    obtain ⟨h1,h2⟩:=drawP_loc (s':=s') _ _ _ _ hd
    cases hd2:poolDraws s n (m+1) q with
    | mk o2 q2=>
     rw [hd2] at h
     cases o2 with
     | none=>cases h
     | some r=>
      obtain ⟨h3,h4⟩:=poolDraws_loc n (m+1) q _ _ hd2
      cases h
      exact ⟨by omega,fun hL=>by rw [h2 (hL.le h3)];simp only [];rw [h4 hL]⟩
theorem permP_loc (n i:Nat):LocP s s' i (permP s n i) (permP s' n i):=fun v j h=>by
 unfold permP at h ⊢
 cases hd:permDraws s (n - 1) i with
 | mk o q=>
  rw [hd] at h
  cases o with
  | none=>cases h
  | some a=>
   obtain ⟨h1,h2⟩:=permDraws_loc (s':=s') _ _ _ _ hd
   cases h
   exact ⟨h1,fun hL=>by rw [h2 hL]⟩
theorem poolP_loc (k n i:Nat):LocP s s' i (poolP s k n i) (poolP s' k n i):=fun v j h=>by
 unfold poolP at h ⊢
 cases hd:poolDraws s (n - k) k i with
 | mk o q=>
  rw [hd] at h
  cases o with
  | none=>cases h
  | some a=>
   obtain ⟨h1,h2⟩:=poolDraws_loc (s':=s') _ _ _ _ _ hd
   cases h
   exact ⟨h1,fun hL=>by rw [h2 hL]⟩
theorem allD_loc {α β:Type} {g g':α→Nat→Res β} (h:∀x j,LocR s s' j (g x j) (g' x j)):∀(l:List α) (i:Nat),LocR s s' i (allD g l i) (allD g' l i)
 | [],i=>LocR.ok _ _
 | x::l,i=>LocR.bind (h x i) fun _ j=>LocR.map (allD_loc h l j)
theorem repD_loc {β:Type} {g g':Nat→Res β} (h:∀j,LocR s s' j (g j) (g' j)):∀(n i:Nat),LocR s s' i (repD g n i) (repD g' n i)
 | 0,i=>LocR.ok _ _
 | n+1,i=>LocR.bind (h i) fun _ j=>LocR.map (repD_loc h n j)
theorem atD_loc {α β:Type} {g g':α→Nat→Res β} (h:∀x j,LocR s s' j (g x j) (g' x j)) (l:List α) (n i:Nat):LocR s s' i (atD g l n i) (atD g' l n i):=by
 unfold atD
 split
 ·exact h _ i
 ·exact LocR.no _ _ _
theorem filtD_loc {g g':Nat→Res GV} {p:GP} (h:∀j,LocR s s' j (g j) (g' j)):∀(f i:Nat) (v:GV) (j:Nat),filtD g p f i=.ok v j→i≤j∧(Loc s s' j→∀f',s'.size+1≤i+f'→filtD g' p f' i=.ok v j)
 | 0,i,v,j,e=>by cases e
 | f+1,i,v,j,e=>by
  rw [filtD] at e
  cases hg:g i with
  | no k=>rw [hg] at e;cases e
  | ok u q=>
   rw [hg] at e
   simp only [Res.bind] at e
   obtain ⟨h1,h2⟩:=h i u q hg
   by_cases hp:holdsP p u=true
   ·rw [if_pos hp] at e
    cases e
    refine ⟨h1,fun hL f' hf=>?_⟩
    have:=hL.1
    obtain ⟨k,rfl⟩:∃k,f'=k+1:=⟨f' - 1,by omega⟩
    rw [filtD,h2 hL]
    simp only [Res.bind]
    rw [if_pos hp]
   ·rw [if_neg hp] at e
    by_cases hj:q=i
    ·rw [if_pos hj] at e;cases e
    ·rw [if_neg hj] at e
     obtain ⟨h3,h4⟩:=filtD_loc h f q v j e
     refine ⟨by omega,fun hL f' hf=>?_⟩
     have:=hL.1
     obtain ⟨k,rfl⟩:∃k,f'=k+1:=⟨f' - 1,by omega⟩
     rw [filtD,h2 (hL.le h3)]
     simp only [Res.bind]
     rw [if_neg hp,if_neg hj]
     exact h4 hL k (by omega)
theorem stepD_loc {g g':GT→Env→Nat→Res GV} (h:∀x e j,LocR s s' j (g x e j) (g' x e j)) (t:GT) (m:Int) (up:Env) (i:Nat):LocR s s' i (stepD g t m up i) (stepD g' t m up i):=by
 unfold stepD
 split
 ·exact atD_loc (fun x j=>h x _ j) _ _ _
 ·exact atD_loc (fun x j=>h x _ j) _ _ _
theorem numD_loc (lo hi:Int) (i:Nat):LocR s s' i (numD s lo hi i) (numD s' lo hi i):=LocR.map (LocP.need (drawP_loc _ i))
theorem sampT_loc:∀(f:Nat) (t:GT) (e:Env) (i:Nat),LocR s s' i (sampT s f t e i) (sampT s' f t e i)
 | 0,_,_,_=>LocR.no _ _ _
 | f+1,t,e,i=>by
  have ih:=sampT_loc f
  by_cases h1:t.k=1
  ·rw [sampT_1 _ _ _ _ _ h1,sampT_1 _ _ _ _ _ h1]
   exact LocR.ok _ _
  by_cases h2:t.k=2
  ·rw [sampT_2 _ _ _ _ _ h2,sampT_2 _ _ _ _ _ h2]
   exact LocR.map (numD_loc _ _ i)
  by_cases h3:t.k=3
  ·rw [sampT_3 _ _ _ _ _ h3,sampT_3 _ _ _ _ _ h3]
   exact LocR.bind (LocP.need (freqP_loc _ i)) fun _ j=>atD_loc (fun x j=>ih x e j) _ _ _
  by_cases h4:t.k=4
  ·rw [sampT_4 _ _ _ _ _ h4,sampT_4 _ _ _ _ _ h4]
   exact LocR.bind (LocP.need (aliasP_loc _ i)) fun _ j=>atD_loc (fun x j=>LocR.ok _ _) _ _ _
  by_cases h5:t.k=5
  ·rw [sampT_5 _ _ _ _ _ h5,sampT_5 _ _ _ _ _ h5]
   exact LocR.map (allD_loc (fun x j=>ih x e j) _ _)
  by_cases h6:t.k=6
  ·rw [sampT_6 _ _ _ _ _ h6,sampT_6 _ _ _ _ _ h6]
   exact LocR.bind (numD_loc _ _ i) fun _ j=>LocR.map (repD_loc (fun j=>atD_loc (fun x j=>ih x e j) _ _ _) _ _)
  by_cases h7:t.k=7
  ·rw [sampT_7 _ _ _ _ _ h7,sampT_7 _ _ _ _ _ h7]
   exact LocR.bind (allD_loc (fun x j=>ih x e j) _ _) fun l j=>LocR.map (LocP.need (permP_loc _ _))
  by_cases h8:t.k=8
  ·rw [sampT_8 _ _ _ _ _ h8,sampT_8 _ _ _ _ _ h8]
   exact LocR.bind (LocP.need (poolP_loc _ _ i)) fun row j=>LocR.map (allD_loc (fun x j=>ih x e j) _ _)
  by_cases h9:t.k=9
  ·rw [sampT_9 _ _ _ _ _ h9,sampT_9 _ _ _ _ _ h9]
   intro v j hv
   obtain ⟨a,b⟩:=filtD_loc (fun j=>atD_loc (fun x j=>ih x e j) _ _ _) _ _ _ _ hv
   exact ⟨a,fun hL=>b hL _ (by omega)⟩
  by_cases h11:t.k=11
  ·rw [sampT_11 _ _ _ _ _ h11,sampT_11 _ _ _ _ _ h11]
   cases e with
   | nil=>exact LocR.no _ _ _
   | cons p up=>exact stepD_loc (fun x e j=>ih x e j) _ _ _ i
  rw [sampT_x _ _ _ _ _ h1 h2 h3 h4 h5 h6 h7 h8 h9 h11,sampT_x _ _ _ _ _ h1 h2 h3 h4 h5 h6 h7 h8 h9 h11]
  exact stepD_loc (fun x e j=>ih x e j) _ _ _ i
end
def preS (u:ByteArray) (k:Nat):ByteArray:=u.extract 0 k
theorem preS_size (u:ByteArray) (k:Nat) (h:k≤u.size):(preS u k).size=k:=by simp [preS];omega
theorem preS_list (u:ByteArray) (k:Nat):(preS u k).data.toList=u.data.toList.take k:=by
 unfold preS
 rw [ByteArray.data_extract,Array.toList_extract,List.extract_eq_take_drop]
 simp
theorem preS_loc (u:ByteArray) (k:Nat) (h:k≤u.size):Loc u (preS u k) k:=
 ⟨by rw [preS_size u k h];exact Nat.le_refl _,fun i hi=>by
  rw [preS_list,List.getD_eq_getElem?_getD,List.getD_eq_getElem?_getD,List.getElem?_take,if_pos hi]⟩
theorem runT_whole {u:ByteArray} {t:GT} {v:GV} {k:Nat} (h:runT u t=.ok v k) (hk:k≤u.size):runT (preS u k) t=.ok v k:=
 (sampT_loc 4098 t [] 0 v k h).2 (preS_loc u k hk)
theorem isBits_pre {u:ByteArray} (h:isBits u=true) (k:Nat):isBits (preS u k)=true:=by
 unfold isBits at h ⊢
 rw [Bool.and_eq_true] at h ⊢
 obtain ⟨h1,h2⟩:=h
 have h1:=of_decide_eq_true h1
 refine ⟨decide_eq_true (by simp [preS];omega),?_⟩
 unfold oddB at h2 ⊢
 rw [Bool.not_not] at h2 ⊢
 rw [preS_list]
 rw [List.all_eq_true] at h2 ⊢
 exact fun b hb=>h2 b (List.mem_of_mem_take hb)
end
end Go.Proofs.YtojjdneicmbfjaaGreatDoor
