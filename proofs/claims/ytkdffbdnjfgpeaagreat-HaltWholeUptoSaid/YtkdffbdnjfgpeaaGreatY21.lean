/- Part 22. -/
import Derived.Test.YtkdffbdnjfgpeaaGreatY10
import Derived.Test.YtkdffbdnjfgpeaaGreatY19
set_option linter.all false
namespace Go.Proofs.YtkdffbdnjfgpeaaGreat
open Go Go.RowKit
structure GR where
 f:Int
 t:Int
 v:GV
def Vh (s:ByteArray) (a:Nat):ByteArray:=s.extract a s.size
def Vm (s:ByteArray) (t:GT):Res GV:=Zd s 4098 t [] 0
def ZP (t:GT) (s:ByteArray):Int:=if (Z3 t).2≠0 then (Z3 t).2 else if Zc s=true then 0 else 3
theorem Q7 (s:ByteArray) (a:Nat) (h:a≤s.size):(Vh s a).size=s.size - a:=by
 simp [Vh]
theorem ZcX (s:ByteArray) (a:Nat):(Vh s a).data.toList=s.data.toList.drop a:=by
 unfold Vh
 rw [ByteArray.data_extract,Array.toList_extract,List.extract_eq_take_drop,List.take_of_length_le]
 simp
theorem Ze9 {s:ByteArray} (h:Zc s=true) (a:Nat) (ha:a≤s.size):Zc (Vh s a)=true:=by
 unfold Zc at h ⊢
 rw [Bool.and_eq_true] at h ⊢
 obtain ⟨h1,h2⟩:=h
 have h1:=of_decide_eq_true h1
 refine ⟨decide_eq_true (by rw [Q7 s a ha];omega),?_⟩
 unfold ZaH at h2 ⊢
 rw [Bool.not_not] at h2 ⊢
 rw [ZcX]
 rw [List.all_eq_true] at h2 ⊢
 exact fun b hb=>h2 b (List.mem_of_mem_drop hb)
theorem Vy {t:GT} {s:ByteArray} (h:ZP t s=0) (ox:okT t):(Vm s t).In okV 0 s.size:=by
 have h1:(ZF 0 1 12 false t).2=0:=by
  unfold ZP Z3 at h
  by_cases h0:(ZF 0 1 12 false t).2=0
  ·exact h0
  rw [if_pos h0] at h;rw [if_pos h0] at h;omega
 exact WJ s (Zb t) 4098 t [] 0 (XL 12 t 0 1 false h1) ox (Nat.le_refl _) trivial om
theorem VN (s s2:ByteArray):(s++s2).data.toList=s.data.toList++s2.data.toList:=sm
theorem ZrC {s s':ByteArray} {t:GT} (h:ZpZ s s') (hE:ZP t s=0) (ox:okT t):(Vm s t).Keep (Vm s' t):=by
 have h1:(ZF 0 1 12 false t).2=0:=by
  unfold ZP Z3 at hE
  by_cases h0:(ZF 0 1 12 false t).2=0
  ·exact h0
  rw [if_pos h0] at hE;rw [if_pos h0] at hE;omega
 exact ZqE h (Zb t) 4098 t [] 0 (XL 12 t 0 1 false h1) ox (Nat.le_refl _) trivial om
theorem ZqR {s s2:ByteArray} (h:Zc (s++s2)=true):Zc s=true:=by
 unfold Zc ZaH at h ⊢
 rw [VN,List.all_append,Bool.not_not,Bool.and_eq_true,Bool.and_eq_true] at h
 rw [Bool.not_not,Bool.and_eq_true]
 have h1:=of_decide_eq_true h.1
 rw [ByteArray.size_append] at h1
 exact ⟨decide_eq_true om,h.2.1⟩
theorem ZrT (s s2:ByteArray):ZpZ s (s++s2):=by
 refine ⟨by rw [ByteArray.size_append];omega,fun i hi=>?_⟩
 have h:i < s.data.toList.length:=by rw [Array.length_toList];exact hi
 rw [VN,List.getD_eq_getElem?_getD,List.getD_eq_getElem?_getD,List.getElem?_append_left h]
section
def Loc (s s':ByteArray) (j:Nat):Prop:=j≤s'.size∧∀i,i < j→s'.data.toList.getD i 48=s.data.toList.getD i 48
theorem Loc.le {s s':ByteArray} {i j:Nat} (h:Loc s s' j) (hi:i≤j):Loc s s' i:=⟨Nat.le_trans hi h.1,fun q hq=>h.2 q (Nat.lt_of_lt_of_le hq hi)⟩
def LocR (s s':ByteArray) {α:Type} (i:Nat) (r r':Res α):Prop:=∀v j,r=.ok v j→i≤j∧(Loc s s' j→r'=.ok v j)
def LocP (s s':ByteArray) {α:Type} (i:Nat) (r r':Option α×Nat):Prop:=∀v j,r=(some v,j)→i≤j∧(Loc s s' j→r'=(some v,j))
section
variable {s s':ByteArray}
theorem LocR.ok {α:Type} (v:α) (i:Nat):LocR s s' i (.ok v i) (.ok v i):=fun w j h=>by
 cases h
 exact ⟨Nat.le_refl _,fun _=>rfl⟩
theorem LocR.no {α:Type} (k:Nat) (i:Nat) (r:Res α):LocR s s' i (.no k) r:=fun w j h=>by cases h
theorem LocR.bind {α β:Type} {i:Nat} {r r':Res α} {g g':α→Nat→Res β} (h:LocR s s' i r r') (hg:∀v j,LocR s s' j (g v j) (g' v j)):LocR s s' i (r.bind g) (r'.bind g'):=fun w q e=>by
 cases r with
 | no k=>cases e
 | ok v j=>
  obtain ⟨h1,h2⟩:=h v j rfl
  obtain ⟨h3,h4⟩:=hg v j w q e
  exact ⟨Nat.le_trans h1 h3,fun hL=>by rw [h2 (hL.le h3)];exact h4 hL⟩
theorem LocR.map {α β:Type} {i:Nat} {r r':Res α} {g:α→β} (h:LocR s s' i r r'):LocR s s' i (r.map g) (r'.map g):=fun w q e=>by
 cases r with
 | no k=>cases e
 | ok v j=>
  obtain ⟨h1,h2⟩:=h v j rfl
  cases e
  exact ⟨h1,fun hL=>by rw [h2 hL];rfl⟩
theorem LocP.need {α:Type} {i:Nat} {r r':Option α×Nat} (h:LocP s s' i r r'):LocR s s' i (Y2 r) (Y2 r'):=fun w q e=>by
 obtain ⟨o,j⟩:=r
 cases o with
 | none=>cases e
 | some v=>
  cases e
  obtain ⟨h1,h2⟩:=h _ _ rfl
  exact ⟨h1,fun hL=>by rw [h2 hL];rfl⟩
theorem LocP.some {α:Type} (v:α) (i:Nat):LocP s s' i (Option.some v,i) (Option.some v,i):=fun w j h=>by
 cases h
 exact ⟨Nat.le_refl _,fun _=>rfl⟩
theorem J5 (i:Nat):∀j,Loc s s' (i+j)→YJ s' i j=YJ s i j
 | 0,_=>rfl
 | j+1,h=>by rw [YJ,YJ,J5 i j (h.le om),h.2 (i+j) om]
theorem Zbf (s:ByteArray) (n:Nat):∀f i v j,YX s n 0 f i=(Option.some v,j)→v=0∧0 < n∧j=i
 | 0,i,v,j,h=>by cases h
 | f+1,i,v,j,h=>by
  rw [YX] at h
  split at h
  ·cases h
  split at h
  ·rename_i h2;cases h;exact ⟨rfl,by simpa [YJ] using h2,om⟩
  exact Zbf s n f i v j h
theorem Zbe (n q:Nat) (hq:0 < q):∀f i v j,YX s n q f i=(Option.some v,j)→i≤j∧(Loc s s' j→∀f',s'.size+1≤i+f'→YX s' n q f' i=(Option.some v,j))
 | 0,i,v,j,h=>by cases h
 | f+1,i,v,j,h=>by
  rw [YX] at h
  split at h
  ·cases h
  split at h
  ·rename_i h1 h2
   cases h
   refine ⟨om,fun hL f' hf=>?_⟩
   have:=hL.1
   obtain ⟨g,rfl⟩:∃g,f'=g+1:=⟨f' - 1,om⟩
   rw [YX,J5 i q hL,if_neg om,if_pos h2]
  rename_i h1 h2
  obtain ⟨h3,h4⟩:=Zbe n q hq f (i+q) v j h
  refine ⟨om,fun hL f' hf=>?_⟩
  have:=hL.1
  obtain ⟨g,rfl⟩:∃g,f'=g+1:=⟨f' - 1,om⟩
  rw [YX,J5 i q (hL.le h3),if_neg om,if_neg h2]
  exact h4 hL g om
theorem VD (m i:Nat):LocP s s' i (ZN s m i) (ZN s' m i):=fun v j h=>by
 unfold ZN at h ⊢
 rcases Nat.eq_zero_or_pos (Z7 m) with h0|h0
 ·rw [h0] at h ⊢
  obtain ⟨rfl,h1,rfl⟩:=Zbf s m _ _ _ _ h
  refine ⟨Nat.le_refl _,fun hL=>?_⟩
  have:=hL.1
  rw [show s'.size+1 - j=(s'.size - j)+1 by omega,YX,if_neg (om),if_pos (by simpa [YJ] using h1)]
  rfl
 obtain ⟨h1,h2⟩:=Zbe (s':=s') m _ h0 _ _ _ _ h
 exact ⟨h1,fun hL=>h2 hL _ om⟩
theorem ZgP (w:List Int) (i:Nat):LocP s s' i (VS s w i) (VS s' w i):=fun v j h=>by
 unfold VS at h ⊢
 cases hd:ZN s (Zj w).toNat i with
 | mk o q=>
  rw [hd] at h
  cases o with
  | none=>cases h
  | some a=>
   obtain ⟨h1,h2⟩:=VD (s':=s') _ _ _ _ hd
   cases h
   exact ⟨h1,fun hL=>by rw [h2 hL]⟩
theorem ZeV (w:List Int) (i:Nat):LocP s s' i (Ys s w i) (Ys s' w i):=fun v j h=>by
 unfold Ys at h ⊢
 cases hd:ZN s w.length i with
 | mk o q=>
  rw [hd] at h
  cases o with
  | none=>cases h
  | some a=>
   simp only [] at h
   obtain ⟨h1,h2⟩:=VD (s':=s') _ _ _ _ hd
   cases hd2:ZN s (Zj w).toNat q with
   | mk o2 q2=>
    rw [hd2] at h
    cases o2 with
    | none=>cases h
    | some r=>
     obtain ⟨h3,h4⟩:=VD (s':=s') _ _ _ _ hd2
     cases h
     exact ⟨om,fun hL=>by rw [h2 (hL.le h3)];simp only [];rw [h4 hL]⟩
theorem Kf:∀(n i:Nat),LocP s s' i (ZI s n i) (ZI s' n i)
 | 0,i=>LocP.some _ _
 | n+1,i=>fun v j h=>by
  rw [ZI] at h ⊢
  cases hd:ZN s (n+2) i with
  | mk o q=>
   rw [hd] at h
   cases o with
   | none=>cases h
   | some a=>
    simp only [] at h
    obtain ⟨h1,h2⟩:=VD (s':=s') _ _ _ _ hd
    cases hd2:ZI s n q with
    | mk o2 q2=>
     rw [hd2] at h
     cases o2 with
     | none=>cases h
     | some r=>
      obtain ⟨h3,h4⟩:=Kf n q _ _ hd2
      cases h
      exact ⟨om,fun hL=>by rw [h2 (hL.le h3)];simp only [];rw [h4 hL]⟩
theorem Kh:∀(n m i:Nat),LocP s s' i (ZJ s n m i) (ZJ s' n m i)
 | 0,m,i=>LocP.some _ _
 | n+1,m,i=>fun v j h=>by
  rw [ZJ] at h ⊢
  cases hd:ZN s (m+1) i with
  | mk o q=>
   rw [hd] at h
   cases o with
   | none=>cases h
   | some a=>
    simp only [] at h
    obtain ⟨h1,h2⟩:=VD (s':=s') _ _ _ _ hd
    cases hd2:ZJ s n (m+1) q with
    | mk o2 q2=>
     rw [hd2] at h
     cases o2 with
     | none=>cases h
     | some r=>
      obtain ⟨h3,h4⟩:=Kh n (m+1) q _ _ hd2
      cases h
      exact ⟨om,fun hL=>by rw [h2 (hL.le h3)];simp only [];rw [h4 hL]⟩
theorem Zg0 (n i:Nat):LocP s s' i (Xi s n i) (Xi s' n i):=fun v j h=>by
 unfold Xi at h ⊢
 cases hd:ZI s (n - 1) i with
 | mk o q=>
  rw [hd] at h
  cases o with
  | none=>cases h
  | some a=>
   obtain ⟨h1,h2⟩:=Kf (s':=s') _ _ _ _ hd
   cases h
   exact ⟨h1,fun hL=>by rw [h2 hL]⟩
theorem Zg1 (k n i:Nat):LocP s s' i (Xm s k n i) (Xm s' k n i):=fun v j h=>by
 unfold Xm at h ⊢
 cases hd:ZJ s (n - k) k i with
 | mk o q=>
  rw [hd] at h
  cases o with
  | none=>cases h
  | some a=>
   obtain ⟨h1,h2⟩:=Kh (s':=s') _ _ _ _ _ hd
   cases h
   exact ⟨h1,fun hL=>by rw [h2 hL]⟩
theorem K2 {α β:Type} {g g':α→Nat→Res β} (h:∀x j,LocR s s' j (g x j) (g' x j)):∀(l:List α) (i:Nat),LocR s s' i (Xt g l i) (Xt g' l i)
 | [],i=>LocR.ok _ _
 | x::l,i=>LocR.bind (h x i) fun _ j=>LocR.map (K2 h l j)
theorem Zew {β:Type} {g g':Nat→Res β} (h:∀j,LocR s s' j (g j) (g' j)):∀(n i:Nat),LocR s s' i (QF g n i) (QF g' n i)
 | 0,i=>LocR.ok _ _
 | n+1,i=>LocR.bind (h i) fun _ j=>LocR.map (Zew h n j)
theorem QN {α β:Type} {g g':α→Nat→Res β} (h:∀x j,LocR s s' j (g x j) (g' x j)) (l:List α) (n i:Nat):LocR s s' i (atD g l n i) (atD g' l n i):=by
 unfold atD
 split
 ·exact h _ i
 exact LocR.no _ _ _
theorem Zcq {g g':Nat→Res GV} {p:GP} (h:∀j,LocR s s' j (g j) (g' j)):∀(f i:Nat) (v:GV) (j:Nat),WD g p f i=.ok v j→i≤j∧(Loc s s' j→∀f',s'.size+1≤i+f'→WD g' p f' i=.ok v j)
 | 0,i,v,j,e=>by cases e
 | f+1,i,v,j,e=>by
  rw [WD] at e
  cases hg:g i with
  | no k=>rw [hg] at e;cases e
  | ok u q=>
   rw [hg] at e
   simp only [Res.bind] at e
   obtain ⟨h1,h2⟩:=h i u q hg
   by_cases hp:Zh p u=true
   ·rw [if_pos hp] at e
    cases e
    refine ⟨h1,fun hL f' hf=>?_⟩
    have:=hL.1
    obtain ⟨k,rfl⟩:∃k,f'=k+1:=⟨f' - 1,om⟩
    rw [WD,h2 hL]
    simp only [Res.bind]
    rw [if_pos hp]
   rw [if_neg hp] at e
   by_cases hj:q=i
   ·rw [if_pos hj] at e;cases e
   rw [if_neg hj] at e
   obtain ⟨h3,h4⟩:=Zcq h f q v j e
   refine ⟨om,fun hL f' hf=>?_⟩
   have:=hL.1
   obtain ⟨k,rfl⟩:∃k,f'=k+1:=⟨f' - 1,om⟩
   rw [WD,h2 (hL.le h3)]
   simp only [Res.bind]
   rw [if_neg hp,if_neg hj]
   exact h4 hL k om
theorem ZcU {g g':GT→Env→Nat→Res GV} (h:∀x e j,LocR s s' j (g x e j) (g' x e j)) (t:GT) (m:Int) (up:Env) (i:Nat):LocR s s' i (Wd g t m up i) (Wd g' t m up i):=by
 unfold Wd
 split
 ·exact QN (fun x j=>h x _ j) _ _ _
 exact QN (fun x j=>h x _ j) _ _ _
theorem Zd6 (lo hi:Int) (i:Nat):LocR s s' i (WK s lo hi i) (WK s' lo hi i):=LocR.map (LocP.need (VD _ i))
theorem ZcM:∀(f:Nat) (t:GT) (e:Env) (i:Nat),LocR s s' i (Zd s f t e i) (Zd s' f t e i)
 | 0,_,_,_=>LocR.no _ _ _
 | f+1,t,e,i=>by
  have ih:=ZcM f
  by_cases h1:t.k=1
  ·rw [ZaN _ _ _ _ _ h1,ZaN _ _ _ _ _ h1]
   exact LocR.ok _ _
  by_cases h2:t.k=2
  ·rw [ZaO _ _ _ _ _ h2,ZaO _ _ _ _ _ h2]
   exact LocR.map (Zd6 _ _ i)
  by_cases h3:t.k=3
  ·rw [ZaP _ _ _ _ _ h3,ZaP _ _ _ _ _ h3]
   exact LocR.bind (LocP.need (ZgP _ i)) fun _ j=>QN (fun x j=>ih x e j) _ _ _
  by_cases h4:t.k=4
  ·rw [ZaQ _ _ _ _ _ h4,ZaQ _ _ _ _ _ h4]
   exact LocR.bind (LocP.need (ZeV _ i)) fun _ j=>QN (fun x j=>LocR.ok _ _) _ _ _
  by_cases h5:t.k=5
  ·rw [ZaR _ _ _ _ _ h5,ZaR _ _ _ _ _ h5]
   exact LocR.map (K2 (fun x j=>ih x e j) _ _)
  by_cases h6:t.k=6
  ·rw [ZaS _ _ _ _ _ h6,ZaS _ _ _ _ _ h6]
   exact LocR.bind (Zd6 _ _ i) fun _ j=>LocR.map (Zew (fun j=>QN (fun x j=>ih x e j) _ _ _) _ _)
  by_cases h7:t.k=7
  ·rw [ZaT _ _ _ _ _ h7,ZaT _ _ _ _ _ h7]
   exact LocR.bind (K2 (fun x j=>ih x e j) _ _) fun l j=>LocR.map (LocP.need (Zg0 _ _))
  by_cases h8:t.k=8
  ·rw [ZaU _ _ _ _ _ h8,ZaU _ _ _ _ _ h8]
   exact LocR.bind (LocP.need (Zg1 _ _ i)) fun row j=>LocR.map (K2 (fun x j=>ih x e j) _ _)
  by_cases h9:t.k=9
  ·rw [ZaV _ _ _ _ _ h9,ZaV _ _ _ _ _ h9]
   intro v j hv
   obtain ⟨a,b⟩:=Zcq (fun j=>QN (fun x j=>ih x e j) _ _ _) _ _ _ _ hv
   exact ⟨a,fun hL=>b hL _ om⟩
  by_cases h11:t.k=11
  ·rw [ZbR _ _ _ _ _ h11,ZbR _ _ _ _ _ h11]
   cases e with
   | nil=>exact LocR.no _ _ _
   | cons p up=>exact ZcU (fun x e j=>ih x e j) _ _ _ i
  rw [ZdC _ _ _ _ _ h1 h2 h3 h4 h5 h6 h7 h8 h9 h11,ZdC _ _ _ _ _ h1 h2 h3 h4 h5 h6 h7 h8 h9 h11]
  exact ZcU (fun x e j=>ih x e j) _ _ _ i
end
def Qv (u:ByteArray) (k:Nat):ByteArray:=u.extract 0 k
theorem Q0 (u:ByteArray) (k:Nat) (h:k≤u.size):(Qv u k).size=k:=by simp [Qv];omega
theorem VG (u:ByteArray) (k:Nat):(Qv u k).data.toList=u.data.toList.take k:=by
 unfold Qv
 rw [ByteArray.data_extract,Array.toList_extract,List.extract_eq_take_drop]
 simp
theorem Ziu (u:ByteArray) (k:Nat) (h:k≤u.size):Loc u (Qv u k) k:=
 ⟨by rw [Q0 u k h];exact Nat.le_refl _,fun i hi=>by
  rw [VG,List.getD_eq_getElem?_getD,List.getD_eq_getElem?_getD,List.getElem?_take,if_pos hi]⟩
theorem ZfW {u:ByteArray} {t:GT} {v:GV} {k:Nat} (h:Vm u t=.ok v k) (hk:k≤u.size):Vm (Qv u k) t=.ok v k:=
 (ZcM 4098 t [] 0 v k h).2 (Ziu u k hk)
theorem Ze8 {u:ByteArray} (h:Zc u=true) (k:Nat):Zc (Qv u k)=true:=by
 unfold Zc at h ⊢
 rw [Bool.and_eq_true] at h ⊢
 obtain ⟨h1,h2⟩:=h
 have h1:=of_decide_eq_true h1
 refine ⟨decide_eq_true (by simp [Qv];omega),?_⟩
 unfold ZaH at h2 ⊢
 rw [Bool.not_not] at h2 ⊢
 rw [VG]
 rw [List.all_eq_true] at h2 ⊢
 exact fun b hb=>h2 b (List.mem_of_mem_take hb)
end
end Go.Proofs.YtkdffbdnjfgpeaaGreat
