/- What the proofs of the Trial statements need: part 33. -/
import Derived.Test.YtclphfojkggcpaaGreatZ7
import Derived.Test.YtclphfojkggcpaaGreatZ10
import Derived.Test.YtclphfojkggcpaaGreatZ31
set_option linter.unusedVariables false
set_option linter.unusedSimpArgs false
namespace Go.Proofs.YtclphfojkggcpaaGreat
open Go Go.RowKit
structure GR where
 f:Int
 t:Int
 v:GV
def subS (s:ByteArray) (a:Nat):ByteArray:=s.extract a s.size
def runT (s:ByteArray) (t:GT):Res GV:=sampT s 4098 t [] 0
def runE (t:GT) (s:ByteArray):Int:=if (checkTE t).2≠0 then (checkTE t).2 else if isBits s=true then 0 else 3
def cutE (t:GT) (p:GP) (s:ByteArray) (m:Int):Int:=
 if runE t s≠0 then runE t s else if (checkPE p).2≠0 then (checkPE p).2 else if m < 0∨1000 < m then 1 else 0
def cutT (s:ByteArray) (t:GT) (p:GP):Nat→Nat→List GR×Int
 | 0,_=>([],2)
 | n+1,i=>match runT (subS s i) t with
  | .no k=>([],if k=2 then 3 else 4)
  | .ok v u=>if holdsP p v=true then (⟨i,(i+u:Nat),v⟩::(cutT s t p n (i+u)).1,(cutT s t p n (i+u)).2) else ([⟨i,(i+u:Nat),v⟩],1)
theorem subS_size (s:ByteArray) (a:Nat) (h:a≤s.size):(subS s a).size=s.size - a:=by
 simp [subS]
theorem subS_list (s:ByteArray) (a:Nat):(subS s a).data.toList=s.data.toList.drop a:=by
 unfold subS
 rw [ByteArray.data_extract,Array.toList_extract,List.extract_eq_take_drop,List.take_of_length_le]
 simp
theorem isBits_sub {s:ByteArray} (h:isBits s=true) (a:Nat) (ha:a≤s.size):isBits (subS s a)=true:=by
 unfold isBits at h ⊢
 rw [Bool.and_eq_true] at h ⊢
 obtain ⟨h1,h2⟩:=h
 have h1:=of_decide_eq_true h1
 refine ⟨decide_eq_true (by rw [subS_size s a ha];omega),?_⟩
 unfold oddB at h2 ⊢
 rw [Bool.not_not] at h2 ⊢
 rw [subS_list]
 rw [List.all_eq_true] at h2 ⊢
 exact fun b hb=>h2 b (List.mem_of_mem_drop hb)
theorem runE_sub {t:GT} {s:ByteArray} (h:runE t s=0) (a:Nat) (ha:a≤s.size):runE t (subS s a)=0:=by
 unfold runE at h ⊢
 split at h
 ·omega
 ·rename_i h1
  rw [if_neg h1]
  split at h
  ·rename_i h2;rw [if_pos (isBits_sub h2 a ha)]
  ·omega
theorem runT_in {t:GT} {s:ByteArray} (h:runE t s=0) (ox:okT t):(runT s t).In okV 0 s.size:=by
 have h1:(chkT 0 1 12 false t).2=0:=by
  unfold runE checkTE at h
  by_cases h0:(chkT 0 1 12 false t).2=0
  ·exact h0
  ·rw [if_pos h0] at h;rw [if_pos h0] at h;omega
 exact sampT_in s (sizeT t) 4098 t [] 0 (good_of_chk 12 t 0 1 false h1) ox (Nat.le_refl _) trivial (by omega)
theorem cut_cons {s:ByteArray} {t:GT} {p:GP} {n a:Nat} {x:GR} {r:List GR} {e:Int} (h:cutT s t p n a=(x::r,e)):
  0 < n∧∃(v:GV) (u:Nat),runT (subS s a) t=.ok v u∧x=⟨a,(a+u:Nat),v⟩∧((holdsP p v=true∧cutT s t p (n - 1) (a+u)=(r,e))∨(holdsP p v=false∧r=[]∧e=1)):=by
 cases n with
 | zero=>simp [cutT] at h
 | succ n=>
  refine ⟨by omega,?_⟩
  rcases hr:runT (subS s a) t with ⟨v,u⟩|⟨k⟩
  ·refine ⟨v,u,rfl,?_⟩
   simp only [cutT,hr] at h
   cases hh:holdsP p v
   ·rw [hh,if_neg (by simp)] at h
    simp only [Prod.mk.injEq,List.cons.injEq] at h
    exact ⟨h.1.1.symm,.inr ⟨rfl,h.1.2.symm,h.2.symm⟩⟩
   ·rw [hh,if_pos rfl] at h
    simp only [Prod.mk.injEq,List.cons.injEq] at h
    refine ⟨h.1.1.symm,.inl ⟨rfl,?_⟩⟩
    rw [Nat.add_sub_cancel,←h.1.2,←h.2]
  ·simp [cutT,hr] at h
theorem cut_nil {s:ByteArray} {t:GT} {p:GP} {n a:Nat} {e:Int} (h:cutT s t p n a=([],e)):
  (n=0∧e=2)∨(0 < n∧∃k,runT (subS s a) t=.no k∧e=if k=2 then 3 else 4):=by
 cases n with
 | zero=>simp [cutT] at h;exact .inl ⟨rfl,h.symm⟩
 | succ n=>
  refine .inr ⟨by omega,?_⟩
  rcases hr:runT (subS s a) t with ⟨v,u⟩|⟨k⟩
  ·simp only [cutT,hr] at h
   split at h<;>simp at h
  ·refine ⟨k,rfl,?_⟩
   simp only [cutT,hr,Prod.mk.injEq] at h
   exact h.2.symm
theorem cut_len (s:ByteArray) (t:GT) (p:GP):∀(n a:Nat) (l:List GR) (e:Int),cutT s t p n a=(l,e)→l.length≤n∧(e=1→0 < l.length)∧(e=2→l.length=n)∧(e=3∨e=4→l.length < n)∧(e=1∨e=2∨e=3∨e=4)
 | n,a,[],e,h=>by
  rcases cut_nil h with ⟨rfl,rfl⟩|⟨h0,k,_,rfl⟩
  ·simp
  ·refine ⟨by simp,?_,?_,fun _=>by simpa using h0,?_⟩
   ·split<;>omega
   ·split<;>omega
   ·split<;>omega
 | n,a,x::r,e,h=>by
  obtain ⟨h0,v,u,_,_,hc|⟨_,rfl,rfl⟩⟩:=cut_cons h
  ·obtain ⟨h1,h2,h3,h4,h5⟩:=cut_len s t p (n - 1) (a+u) r e hc.2
   refine ⟨by simp;omega,fun _=>by simp,fun he=>by have:=h3 he;simp;omega,fun he=>by have:=h4 he;simp;omega,h5⟩
  ·exact ⟨by simp;omega,fun _=>by simp,fun he=>by omega,fun he=>by omega,.inl rfl⟩
 termination_by n a l=>l.length
theorem cutT_step (s:ByteArray) (t:GT) (p:GP) (n i:Nat):cutT s t p (n+1) i=match runT (subS s i) t with
  | .no k=>([],if k=2 then 3 else 4)
  | .ok v u=>if holdsP p v=true then (⟨i,(i+u:Nat),v⟩::(cutT s t p n (i+u)).1,(cutT s t p n (i+u)).2) else ([⟨i,(i+u:Nat),v⟩],1):=rfl
theorem cut_mem {s:ByteArray} {t:GT} (p:GP) (hE:runE t s=0) (ox:okT t):∀(n a:Nat),a≤s.size→∀x∈(cutT s t p n a).1,(0≤x.f∧x.f≤(s.size:Int))∧(0≤x.t∧x.t≤(s.size:Int))∧okV x.v
 | 0,a,ha,x,hx=>by simp [cutT] at hx
 | n+1,a,ha,x,hx=>by
  rw [cutT_step] at hx
  have hin:=runT_in (runE_sub hE a ha) ox
  rcases hr:runT (subS s a) t with ⟨v,u⟩|⟨k⟩
  ·rw [hr] at hx hin
   rw [subS_size s a ha] at hin
   obtain ⟨-,hu,okx⟩:=hin
   have h0:(0≤(a:Int)∧(a:Int)≤(s.size:Int))∧(0≤((a+u:Nat):Int)∧((a+u:Nat):Int)≤(s.size:Int))∧okV v:=⟨by omega,by omega,okx⟩
   dsimp only at hx
   split at hx
   ·rcases List.mem_cons.1 hx with rfl|hx
    ·exact h0
    ·exact cut_mem p hE ox n (a+u) (by omega) x hx
   ·rcases List.mem_singleton.1 hx with rfl
    exact h0
  ·rw [hr] at hx
   simp at hx
end Go.Proofs.YtclphfojkggcpaaGreat
