/- What the proofs of the Trial statements need: part 12. -/
import Derived.Lib.Bytealg
import Derived.Lib.Repeat
import Derived.Test.YtojjdneicmbfjaaGreatDoorQ0
import Derived.Test.YtojjdneicmbfjaaGreatDoorQ10
set_option linter.unusedVariables false
set_option linter.unusedSimpArgs false
namespace Go.Proofs.YtojjdneicmbfjaaGreatDoor
open Go Go.RowKit
def repS (b:UInt8) (n:Nat):ByteArray:=⟨(Lib.repeatL [b] n).toArray⟩
theorem repS_list (b:UInt8) (n:Nat):(repS b n).data.toList=List.replicate n b:=by
 have:=Lib.repeatL_replicate b 1 n
 simpa [repS] using this
def cutS (u:ByteArray) (a n:Nat):ByteArray:=u.extract 0 a++u.extract (a+n) u.size
def clrS (u:ByteArray) (a n:Nat):ByteArray:=u.extract 0 a++repS 48 n++u.extract (a+n) u.size
def dwnS (u:ByteArray) (a:Nat):ByteArray:=u.extract 0 a++⟨#[48]⟩++repS 49 (u.size - a - 1)
def wayL (ch:ByteArray→Nat→Nat→ByteArray) (u:ByteArray) (n:Nat):List ByteArray:=((List.range (u.size+1 - n)).map fun a=>ch u a n).filter fun x=>decide (x≠u)
def waysL (ch:ByteArray→Nat→Nat→ByteArray) (u:ByteArray):List ByteArray:=wayL ch u 8++(wayL ch u 4++(wayL ch u 2++wayL ch u 1))
def dwnL (u:ByteArray):List ByteArray:=((List.range u.size).filter fun a=>decide (u.data.toList.getD a 48=49)).map fun a=>dwnS u a
def candL (u:ByteArray):List ByteArray:=waysL cutS u++(waysL clrS u++dwnL u)
def failT (t:GT) (p:GP) (u:ByteArray):Option (ByteArray×GV):=
 if runE t u≠0 then none else match runT u t with
 | .no _=>none
 | .ok v k=>if holdsP p v=true then none else some (preS u k,v)
def scanT (t:GT) (p:GP):List ByteArray→Option (ByteArray×GV)
 | []=>none
 | x::l=>match failT t p x with
  | some r=>some r
  | none=>scanT t p l
def shrT (t:GT) (p:GP):Nat→ByteArray→GV→Nat→ByteArray×GV×Nat
 | 0,u,v,k=>(u,v,k)
 | n+1,u,v,k=>match scanT t p (candL u) with
  | some r=>shrT t p n r.1 r.2 (k+1)
  | none=>(u,v,k)
theorem scanT_none {t:GT} {p:GP}:∀{l:List ByteArray},scanT t p l=none↔∀x∈l,failT t p x=none
 | []=>by simp [scanT]
 | x::l=>by
  rw [scanT]
  cases h:failT t p x with
  | some r=>simp [h]
  | none=>simp [h,scanT_none (l:=l)]
theorem scanT_some {t:GT} {p:GP} {r:ByteArray×GV}:∀{l:List ByteArray},scanT t p l=some r→∃x∈l,failT t p x=some r
 | [],h=>by simp [scanT] at h
 | x::l,h=>by
  rw [scanT] at h
  cases hx:failT t p x with
  | some q=>rw [hx] at h;cases h;exact ⟨x,by simp,hx⟩
  | none=>rw [hx] at h;obtain ⟨y,hy,e⟩:=scanT_some (l:=l) h;exact ⟨y,by simp [hy],e⟩
theorem scanT_app {t:GT} {p:GP}:∀(l r:List ByteArray),scanT t p (l++r)=match scanT t p l with|some x=>some x|none=>scanT t p r
 | [],r=>rfl
 | x::l,r=>by
  rw [List.cons_append,scanT,scanT]
  cases failT t p x with
  | some q=>rfl
  | none=>exact scanT_app l r
def keyL:Nat→List UInt8→Nat
 | p,[]=>p
 | p,b::l=>keyL (256*p+b.toNat) l
def keyS (u:ByteArray):Nat:=keyL 1 u.data.toList
theorem keyL_app:∀(l r:List UInt8) (p:Nat),keyL p (l++r)=keyL (keyL p l) r
 | [],r,p=>rfl
 | b::l,r,p=>keyL_app l r _
theorem keyL_bounds:∀(l:List UInt8) (p:Nat),p*256 ^ l.length≤keyL p l∧keyL p l < (p+1)*256 ^ l.length
 | [],p=>by simp [keyL]
 | b::l,p=>by
  obtain ⟨h1,h2⟩:=keyL_bounds l (256*p+b.toNat)
  have hb:=b.toNat_lt
  rw [keyL,List.length_cons,Nat.pow_succ]
  constructor
  ·refine Nat.le_trans ?_ h1
   rw [Nat.mul_comm (256 ^ l.length) 256,←Nat.mul_assoc]
   exact Nat.mul_le_mul_right _ (by omega)
  ·refine Nat.lt_of_lt_of_le h2 ?_
   rw [Nat.mul_comm (256 ^ l.length) 256,←Nat.mul_assoc]
   exact Nat.mul_le_mul_right _ (by omega)
theorem keyL_lt {l r:List UInt8} {p q:Nat} (h:p < q) (hl:l.length=r.length):keyL p l < keyL q r:=by
 have h1:=(keyL_bounds l p).2
 have h2:=(keyL_bounds r q).1
 rw [hl] at h1
 exact Nat.lt_of_lt_of_le h1 (Nat.le_trans (Nat.mul_le_mul_right _ h) h2)
theorem keyL_short {l r:List UInt8} (h:l.length < r.length):keyL 1 l < keyL 1 r:=by
 have h1:=(keyL_bounds l 1).2
 have h2:=(keyL_bounds r 1).1
 have h3:256 ^ (l.length+1)≤256 ^ r.length:=Nat.pow_le_pow_right (by omega) h
 rw [Nat.pow_succ] at h3
 omega
theorem keyL_le:∀{l r:List UInt8} {p q:Nat},p≤q→l.length=r.length→(∀i,l.getD i 0≤r.getD i 0)→keyL p l≤keyL q r
 | [],[],p,q,h,_,_=>h
 | a::l,b::r,p,q,h,hl,hi=>by
  rw [keyL,keyL]
  have h0:=hi 0
  simp only [List.getD_cons_zero] at h0
  have h0:=UInt8.le_iff_toNat_le.1 h0
  exact keyL_le (by omega) (by simpa using hl) (fun i=>by simpa using hi (i+1))
theorem keyL_inj:∀{l r:List UInt8} {p q:Nat},l.length=r.length→keyL p l=keyL q r→p=q∧l=r
 | [],[],p,q,_,h=>⟨h,rfl⟩
 | a::l,b::r,p,q,hl,h=>by
  rw [keyL,keyL] at h
  obtain ⟨h1,h2⟩:=keyL_inj (by simpa using hl) h
  have ha:=a.toNat_lt
  have hb:=b.toNat_lt
  have h3:a.toNat=b.toNat:=by omega
  have h4:a=b:=UInt8.toNat_inj.1 h3
  exact ⟨by omega,by rw [h4,h2]⟩
theorem keyL_cmp:∀(l r:List UInt8) (p:Nat),l.length=r.length→Lib.compareBytes l r=cmpI (keyL p l) (keyL p r)
 | [],[],p,_=>by simp [Lib.compareBytes,cmpI,keyL]
 | a::l,b::r,p,h=>by
  have hl:l.length=r.length:=by simpa using h
  rw [Lib.compareBytes,keyL,keyL]
  by_cases h1:a < b
  ·have:=keyL_lt (p:=256*p+a.toNat) (q:=256*p+b.toNat) (by have:=UInt8.lt_iff_toNat_lt.1 h1;omega) hl
   rw [if_pos h1,cmpI,if_pos (by omega)]
  ·rw [if_neg h1]
   by_cases h2:b < a
   ·have:=keyL_lt (p:=256*p+b.toNat) (q:=256*p+a.toNat) (by have:=UInt8.lt_iff_toNat_lt.1 h2;omega) hl.symm
    rw [if_pos h2,cmpI,if_neg (by omega),if_neg (by omega)]
   ·rw [if_neg h2]
    have:a.toNat=b.toNat:=by
     have h3:=mt UInt8.lt_iff_toNat_lt.2 h1
     have h4:=mt UInt8.lt_iff_toNat_lt.2 h2
     omega
    rw [this]
    exact keyL_cmp l r _ hl
def cmpS (a b:ByteArray):Int:=if a.size < b.size then -1 else if b.size < a.size then 1 else Lib.compareBytes a.data.toList b.data.toList
theorem size_list (a:ByteArray):a.size=a.data.toList.length:=by rw [Array.length_toList];rfl
theorem cmpS_key (a b:ByteArray):cmpS a b=cmpI (keyS a) (keyS b):=by
 unfold cmpS keyS
 rw [size_list,size_list]
 split
 ·rename_i h
  have:=keyL_short h
  rw [cmpI,if_pos (by omega)]
 ·split
  ·rename_i h
   have:=keyL_short h
   rw [cmpI,if_neg (by omega),if_neg (by omega)]
  ·exact keyL_cmp _ _ _ (by omega)
theorem keyS_inj {a b:ByteArray} (h:keyS a=keyS b):a=b:=by
 unfold keyS at h
 rcases Nat.lt_trichotomy a.data.toList.length b.data.toList.length with h1|h1|h1
 ·have:=keyL_short h1;omega
 ·exact ByteArray.ext (Array.ext' (keyL_inj h1 h).2)
 ·have:=keyL_short h1;omega
theorem ext_list (u:ByteArray) (a b:Nat):(u.extract a b).data.toList=(u.data.toList.take b).drop a:=by
 rw [ByteArray.data_extract,Array.toList_extract,List.extract_eq_take_drop,List.drop_take]
theorem cutS_list (u:ByteArray) (a n:Nat):(cutS u a n).data.toList=u.data.toList.take a++u.data.toList.drop (a+n):=by
 unfold cutS
 rw [app_list,ext_list,ext_list,size_list,List.take_length]
 simp
theorem clrS_list (u:ByteArray) (a n:Nat):(clrS u a n).data.toList=u.data.toList.take a++(List.replicate n 48++u.data.toList.drop (a+n)):=by
 unfold clrS
 rw [app_list,app_list,ext_list,ext_list,size_list,List.take_length,repS_list]
 simp
theorem dwnS_list (u:ByteArray) (a:Nat):(dwnS u a).data.toList=u.data.toList.take a++48::List.replicate (u.size - a - 1) 49:=by
 unfold dwnS
 rw [app_list,app_list,ext_list,repS_list]
 simp
def BitsL (l:List UInt8):Prop:=∀b∈l,b=48∨b=49
theorem isBits_iff {u:ByteArray}:isBits u=true↔u.size≤1024∧BitsL u.data.toList:=by
 unfold isBits oddB BitsL
 rw [Bool.and_eq_true,Bool.not_not,List.all_eq_true,decide_eq_true_eq]
 refine and_congr_right fun _=>forall_congr' fun b=>forall_congr' fun _=>?_
 rw [Bool.or_eq_true,beq_iff_eq,beq_iff_eq]
 exact or_congr ⟨fun h=>UInt8.toNat_inj.1 h,fun h=>by rw [h];rfl⟩ ⟨fun h=>UInt8.toNat_inj.1 h,fun h=>by rw [h];rfl⟩
theorem wayL_mem {ch:ByteArray→Nat→Nat→ByteArray} {u x:ByteArray} {n:Nat}:x∈wayL ch u n↔(∃a,a+n≤u.size∧ch u a n=x)∧x≠u:=by
 unfold wayL
 simp only [List.mem_filter,List.mem_map,List.mem_range,decide_eq_true_eq]
 exact and_congr_left fun _=>exists_congr fun a=>and_congr_left fun _=>by omega
theorem waysL_mem {ch:ByteArray→Nat→Nat→ByteArray} {u x:ByteArray}:x∈waysL ch u→∃n a,1≤n∧a+n≤u.size∧ch u a n=x∧x≠u:=fun h=>by
 unfold waysL at h
 simp only [List.mem_append,wayL_mem] at h
 rcases h with ⟨⟨a,h1,h2⟩,h3⟩|⟨⟨a,h1,h2⟩,h3⟩|⟨⟨a,h1,h2⟩,h3⟩|⟨⟨a,h1,h2⟩,h3⟩
 ·exact ⟨8,a,by omega,h1,h2,h3⟩
 ·exact ⟨4,a,by omega,h1,h2,h3⟩
 ·exact ⟨2,a,by omega,h1,h2,h3⟩
 ·exact ⟨1,a,by omega,h1,h2,h3⟩
theorem dwnL_mem {u x:ByteArray}:x∈dwnL u↔∃a,a < u.size∧u.data.toList.getD a 48=49∧dwnS u a=x:=by
 unfold dwnL
 simp only [List.mem_filter,List.mem_map,List.mem_range,decide_eq_true_eq]
 exact exists_congr fun a=>and_assoc
theorem split3 (l:List UInt8) (a n:Nat):l=l.take a++((l.drop a).take n++l.drop (a+n)):=by
 rw [←List.drop_drop,List.take_append_drop,List.take_append_drop]
theorem cand_less {u x:ByteArray} (hu:isBits u=true) (hx:x∈candL u):keyS x < keyS u∧isBits x=true∧x.size≤u.size:=by
 obtain ⟨h0,hb⟩:=isBits_iff.1 hu
 have hz:u.data.toList.length=u.size:=(size_list u).symm
 unfold candL at hx
 rcases List.mem_append.1 hx with hx|hx
 ·obtain ⟨n,a,h1,h2,rfl,h3⟩:=waysL_mem hx
  have hl:=cutS_list u a n
  have hs:(cutS u a n).size+n=u.size:=by rw [size_list,hl];simp only [List.length_append,List.length_take,List.length_drop,List.length_replicate,hz];omega
  refine ⟨keyL_short (by rw [←size_list,←size_list];omega),isBits_iff.2 ⟨by omega,?_⟩,by omega⟩
  rw [hl]
  intro b hb'
  rcases List.mem_append.1 hb' with h|h
  ·exact hb b (List.mem_of_mem_take h)
  ·exact hb b (List.mem_of_mem_drop h)
 rcases List.mem_append.1 hx with hx|hx
 ·obtain ⟨n,a,h1,h2,rfl,h3⟩:=waysL_mem hx
  have hl:=clrS_list u a n
  have hs:(clrS u a n).size=u.size:=by rw [size_list,hl];simp only [List.length_append,List.length_take,List.length_drop,List.length_replicate,hz];omega
  have hk:keyS (clrS u a n)≤keyS u:=by
   unfold keyS
   rw [hl]
   conv=>rhs;rw [split3 u.data.toList a n]
   rw [keyL_app,keyL_app _ ((u.data.toList.drop a).take n++_)]
   have hm:((u.data.toList.drop a).take n).length=n:=by rw [List.length_take,List.length_drop,hz];omega
   refine keyL_le (Nat.le_refl _) (by rw [List.length_append,List.length_append,hm,List.length_replicate]) fun i=>?_
   by_cases hi:i < n
   ·rw [List.getD_eq_getElem?_getD,List.getD_eq_getElem?_getD,List.getElem?_append_left (by simpa using hi),List.getElem?_append_left (by omega),List.getElem?_replicate,if_pos hi,List.getElem?_eq_getElem (by omega)]
    simp only [Option.getD_some]
    rcases hb _ (List.mem_of_mem_drop (List.mem_of_mem_take (List.getElem_mem (l:=(u.data.toList.drop a).take n) (n:=i) (by omega)))) with e|e
    ·rw [e];exact UInt8.le_iff_toNat_le.2 (by decide)
    ·rw [e];exact UInt8.le_iff_toNat_le.2 (by decide)
   ·rw [List.getD_eq_getElem?_getD,List.getD_eq_getElem?_getD,List.getElem?_append_right (by simpa using hi),List.getElem?_append_right (by omega),hm,List.length_replicate]
    exact UInt8.le_iff_toNat_le.2 (Nat.le_refl _)
  refine ⟨?_,isBits_iff.2 ⟨by omega,?_⟩,by omega⟩
  ·rcases Nat.lt_or_eq_of_le hk with h|h
   ·exact h
   ·exact absurd (keyS_inj h) h3
  ·rw [hl]
   intro b hb'
   rcases List.mem_append.1 hb' with h|h
   ·exact hb b (List.mem_of_mem_take h)
   ·rcases List.mem_append.1 h with h|h
    ·exact .inl (List.mem_replicate.1 h).2
    ·exact hb b (List.mem_of_mem_drop h)
 ·obtain ⟨a,h1,h2,rfl⟩:=dwnL_mem.1 hx
  have hl:=dwnS_list u a
  have h1':=h1
  rw [size_list] at h1'
  have hs:(dwnS u a).size=u.size:=by rw [size_list,hl];simp only [List.length_append,List.length_take,List.length_cons,List.length_replicate,hz];omega
  refine ⟨?_,isBits_iff.2 ⟨by omega,?_⟩,by omega⟩
  ·unfold keyS
   rw [hl]
   conv=>rhs;rw [split3 u.data.toList a 1]
   rw [keyL_app,keyL_app _ ((u.data.toList.drop a).take 1++_)]
   have hd:(u.data.toList.drop a).take 1=[49]:=by
    rw [List.drop_eq_getElem_cons h1']
    rw [List.getD_eq_getElem?_getD,List.getElem?_eq_getElem h1'] at h2
    simp only [Option.getD_some] at h2
    rw [h2]
    rfl
   rw [hd]
   rw [List.cons_append,List.nil_append,keyL,keyL]
   refine keyL_lt ?_ (by rw [List.length_replicate,List.length_drop,hz];omega)
   have e1:(48:UInt8).toNat=48:=rfl
   have e2:(49:UInt8).toNat=49:=rfl
   omega
  ·rw [hl]
   intro b hb'
   rcases List.mem_append.1 hb' with h|h
   ·exact hb b (List.mem_of_mem_take h)
   ·rcases List.mem_cons.1 h with h|h
    ·exact .inl h
    ·exact .inr (List.mem_replicate.1 h).2
theorem keyS_pre (u:ByteArray) (k:Nat) (h:k≤u.size):keyS (preS u k)≤keyS u:=by
 unfold keyS
 rw [preS_list]
 rw [size_list] at h
 rcases Nat.lt_or_eq_of_le h with h1|h1
 ·exact Nat.le_of_lt (keyL_short (by rw [List.length_take];omega))
 ·rw [h1,List.take_length];exact Nat.le_refl _
theorem runE_bits {t:GT} {u:ByteArray} (h:runE t u=0):(checkTE t).2=0∧isBits u=true:=by
 unfold runE at h
 split at h
 ·omega
 ·split at h
  ·rename_i h1 h2;exact ⟨by simpa using h1,h2⟩
  ·omega
theorem runE_of {t:GT} {u:ByteArray} (h:(checkTE t).2=0) (hb:isBits u=true):runE t u=0:=by
 unfold runE
 rw [if_neg (by simp [h]),if_pos hb]
theorem fail_whole {t:GT} {p:GP} {u s:ByteArray} {v:GV} (ox:okT t) (h:failT t p u=some (s,v)):
  runE t u=0∧isBits s=true∧s.size≤u.size∧runT s t=.ok v s.size∧failT t p s=some (s,v)∧keyS s≤keyS u∧okV v∧holdsP p v=false:=by
 unfold failT at h
 split at h
 ·cases h
 ·rename_i h0
  have hE:runE t u=0:=by simpa using h0
  obtain ⟨hT,hB⟩:=runE_bits hE
  have hin:=runT_in hE ox
  cases hr:runT u t with
  | no k=>rw [hr] at h;cases h
  | ok w k=>
   rw [hr] at h hin
   simp only [] at h
   split at h
   ·cases h
   ·rename_i hh
    cases h
    have hk:k≤u.size:=hin.2.1
    have hw:=runT_whole hr hk
    have hs:=preS_size u k hk
    have hb:=isBits_pre hB k
    refine ⟨hE,hb,by omega,by rw [hs];exact hw,?_,keyS_pre u k hk,hin.2.2,by simpa using hh⟩
    unfold failT
    rw [if_neg (by simp [runE_of hT hb]),hw]
    simp only []
    rw [if_neg hh]
    have:preS (preS u k) k=preS u k:=by
     refine ByteArray.ext (Array.ext' ?_)
     rw [preS_list,preS_list,List.take_take,Nat.min_self]
    rw [this]
theorem shr_all {t:GT} {p:GP} (ox:okT t):∀(n:Nat) (u:ByteArray) (v:GV) (k:Nat),failT t p u=some (u,v) →
  failT t p (shrT t p n u v k).1=some ((shrT t p n u v k).1,(shrT t p n u v k).2.1)∧k≤(shrT t p n u v k).2.2∧(shrT t p n u v k).2.2≤k+n ∧
  ((shrT t p n u v k).2.2=k→(shrT t p n u v k).1=u∧(shrT t p n u v k).2.1=v)∧(k < (shrT t p n u v k).2.2→keyS (shrT t p n u v k).1 < keyS u) ∧
  ((shrT t p n u v k).2.2 < k+n→scanT t p (candL (shrT t p n u v k).1)=none)∧(shrT t p n u v k).1.size≤u.size
 | 0,u,v,k,h=>⟨h,Nat.le_refl _,Nat.le_refl _,fun _=>⟨rfl,rfl⟩,fun h=>absurd h (Nat.lt_irrefl _),fun h=>absurd h (Nat.lt_irrefl _),Nat.le_refl _⟩
 | n+1,u,v,k,h=>by
  rw [shrT]
  cases hs:scanT t p (candL u) with
  | none=>exact ⟨h,Nat.le_refl _,by simp,fun _=>⟨rfl,rfl⟩,fun h=>absurd h (Nat.lt_irrefl _),fun _=>hs,Nat.le_refl _⟩
  | some r=>
   obtain ⟨s,w⟩:=r
   simp only []
   obtain ⟨x,hx,hf⟩:=scanT_some hs
   obtain ⟨e1,e2,e3,e4,e5,e6,e7⟩:=fail_whole ox hf
   obtain ⟨hE,hB, -⟩:=fail_whole ox h
   obtain ⟨c1,c2,c3⟩:=cand_less hB hx
   obtain ⟨i1,i2,i3,i4,i5,i6,i7⟩:=shr_all ox n s w (k+1) e5
   refine ⟨i1,by omega,by omega,fun h=>by omega,fun _=>?_,fun h=>i6 (by omega),by omega⟩
   rcases Nat.lt_or_eq_of_le i2 with h1|h1
   ·have:=i5 h1;omega
   ·obtain ⟨h2,h3⟩:=i4 h1.symm
    rw [h2];omega
abbrev Bit:={ x:ByteArray // isBits x=true }
def uptoW (ch:ByteArray→Nat→Nat→ByteArray) (u:ByteArray) (n a:Nat):List ByteArray:=((List.range a).map fun a=>ch u a n).filter fun x=>decide (x≠u)
theorem uptoW_same (ch:ByteArray→Nat→Nat→ByteArray) (u:ByteArray) (n a:Nat) (h:ch u a n=u):uptoW ch u n (a+1)=uptoW ch u n a:=by
 unfold uptoW
 rw [List.range_succ,List.map_append,List.filter_append]
 simp [h]
theorem uptoW_next (ch:ByteArray→Nat→Nat→ByteArray) (u:ByteArray) (n a:Nat) (h:¬ch u a n=u):uptoW ch u n (a+1)=uptoW ch u n a++[ch u a n]:=by
 unfold uptoW
 rw [List.range_succ,List.map_append,List.filter_append]
 simp [h]
theorem uptoW_len (ch:ByteArray→Nat→Nat→ByteArray) (u:ByteArray) (n a:Nat):(uptoW ch u n a).length≤a:=by
 unfold uptoW
 exact Nat.le_trans (List.length_filter_le _ _) (by simp)
theorem uptoW_pre (ch:ByteArray→Nat→Nat→ByteArray) (u:ByteArray) (n a:Nat):∀k,uptoW ch u n a <+: uptoW ch u n (a+k)
 | 0=>List.prefix_rfl
 | k+1=>by
  refine (uptoW_pre ch u n a k).trans ?_
  by_cases h:ch u (a+k) n=u
  ·rw [←Nat.add_assoc,uptoW_same ch u n (a+k) h];exact List.prefix_rfl
  ·rw [←Nat.add_assoc,uptoW_next ch u n (a+k) h];exact List.prefix_append _ _
def widthL:List Nat:=[8,4,2,1]
def preW (ch:ByteArray→Nat→Nat→ByteArray) (u:ByteArray) (i:Nat):List ByteArray:=(widthL.take i).flatMap fun n=>wayL ch u n
theorem preW_next (ch:ByteArray→Nat→Nat→ByteArray) (u:ByteArray) (i n:Nat) (h:widthL[i]? =some n):preW ch u i++uptoW ch u n (u.size+1 - n)=preW ch u (i+1):=by
 unfold preW
 rw [List.take_add_one,h,List.flatMap_append]
 simp [wayL,uptoW]
theorem preW_all (ch:ByteArray→Nat→Nat→ByteArray) (u:ByteArray):preW ch u 4=waysL ch u:=by
 simp [preW,widthL,waysL]
theorem preW_pre (ch:ByteArray→Nat→Nat→ByteArray) (u:ByteArray) (i:Nat):∀k,preW ch u i <+: preW ch u (i+k)
 | 0=>List.prefix_rfl
 | k+1=>by
  refine (preW_pre ch u i k).trans ?_
  unfold preW
  rw [←Nat.add_assoc,List.take_add_one,List.flatMap_append]
  exact List.prefix_append _ _
theorem pre_waysL (ch:ByteArray→Nat→Nat→ByteArray) (u:ByteArray) (i n a:Nat) (h:widthL[i]? =some n) (ha:a≤u.size+1 - n):preW ch u i++uptoW ch u n a <+: waysL ch u:=by
 have hi:i < 4:=by
  have:=(List.getElem?_eq_some_iff.1 h).1
  simpa [widthL] using this
 have h1:=uptoW_pre ch u n a (u.size+1 - n - a)
 rw [show a+(u.size+1 - n - a)=u.size+1 - n by omega] at h1
 refine ((List.prefix_append_right_inj _).2 h1).trans ?_
 rw [preW_next ch u i n h,←preW_all]
 have:=preW_pre ch u (i+1) (3 - i)
 rwa [show i+1+(3 - i)=4 by omega] at this
theorem wayL_len (ch:ByteArray→Nat→Nat→ByteArray) (u:ByteArray) (n:Nat):(wayL ch u n).length≤u.size+1 - n:=uptoW_len ch u n _
theorem waysL_len (ch:ByteArray→Nat→Nat→ByteArray) (u:ByteArray):(waysL ch u).length≤4*u.size:=by
 unfold waysL
 simp only [List.length_append]
 have h8:=wayL_len ch u 8
 have h4:=wayL_len ch u 4
 have h2:=wayL_len ch u 2
 have h1:=wayL_len ch u 1
 omega
theorem preW_len (ch:ByteArray→Nat→Nat→ByteArray) (u:ByteArray) (i:Nat) (hi:i < 4):(preW ch u i).length≤3*u.size:=by
 have h8:=wayL_len ch u 8
 have h4:=wayL_len ch u 4
 have h2:=wayL_len ch u 2
 rcases (show i=0∨i=1∨i=2∨i=3 by omega) with rfl|rfl|rfl|rfl
 ·simp [preW]
 all_goals
  simp only [preW,widthL,List.take_succ_cons,List.take_zero,List.flatMap_cons,List.flatMap_nil,List.length_append,List.length_nil]
  omega
theorem cutS_bits {u:ByteArray} (hu:isBits u=true) {a n:Nat} (h:a+n≤u.size):isBits (cutS u a n)=true:=by
 obtain ⟨h0,hb⟩:=isBits_iff.1 hu
 have hl:=cutS_list u a n
 refine isBits_iff.2 ⟨?_,?_⟩
 ·rw [size_list,hl];simp only [List.length_append,List.length_take,List.length_drop,List.length_replicate,←size_list];omega
 ·rw [hl]
  intro b hb'
  rcases List.mem_append.1 hb' with h|h
  ·exact hb b (List.mem_of_mem_take h)
  ·exact hb b (List.mem_of_mem_drop h)
theorem clrS_bits {u:ByteArray} (hu:isBits u=true) {a n:Nat} (h:a+n≤u.size):isBits (clrS u a n)=true:=by
 obtain ⟨h0,hb⟩:=isBits_iff.1 hu
 have hl:=clrS_list u a n
 refine isBits_iff.2 ⟨?_,?_⟩
 ·rw [size_list,hl];simp only [List.length_append,List.length_take,List.length_drop,List.length_replicate,←size_list];omega
 ·rw [hl]
  intro b hb'
  rcases List.mem_append.1 hb' with h|h
  ·exact hb b (List.mem_of_mem_take h)
  ·rcases List.mem_append.1 h with h|h
   ·exact .inl (List.mem_replicate.1 h).2
   ·exact hb b (List.mem_of_mem_drop h)
theorem dwnS_bits {u:ByteArray} (hu:isBits u=true) {a:Nat} (h:a < u.size):isBits (dwnS u a)=true:=by
 obtain ⟨h0,hb⟩:=isBits_iff.1 hu
 have hl:=dwnS_list u a
 refine isBits_iff.2 ⟨?_,?_⟩
 ·rw [size_list,hl];simp only [List.length_append,List.length_take,List.length_cons,List.length_replicate,←size_list];omega
 ·rw [hl]
  intro b hb'
  rcases List.mem_append.1 hb' with h|h
  ·exact hb b (List.mem_of_mem_take h)
  ·rcases List.mem_cons.1 h with h|h
   ·exact .inl h
   ·exact .inr (List.mem_replicate.1 h).2
def uptoD (u:ByteArray) (a:Nat):List ByteArray:=((List.range a).filter fun a=>decide (u.data.toList.getD a 48=49)).map fun a=>dwnS u a
theorem uptoD_same (u:ByteArray) (a:Nat) (h:¬u.data.toList.getD a 48=49):uptoD u (a+1)=uptoD u a:=by
 unfold uptoD
 rw [List.range_succ,List.filter_append,List.map_append]
 rw [List.filter_cons_of_neg (by simpa using h)]
 simp
theorem uptoD_next (u:ByteArray) (a:Nat) (h:u.data.toList.getD a 48=49):uptoD u (a+1)=uptoD u a++[dwnS u a]:=by
 unfold uptoD
 rw [List.range_succ,List.filter_append,List.map_append]
 rw [List.filter_cons_of_pos (by simpa using h)]
 simp
theorem uptoD_len (u:ByteArray) (a:Nat):(uptoD u a).length≤a:=by
 unfold uptoD
 rw [List.length_map]
 exact Nat.le_trans (List.length_filter_le _ _) (by simp)
theorem uptoD_pre (u:ByteArray) (a:Nat):∀k,uptoD u a <+: uptoD u (a+k)
 | 0=>List.prefix_rfl
 | k+1=>by
  refine (uptoD_pre u a k).trans ?_
  by_cases h:u.data.toList.getD (a+k) 48=49
  ·rw [←Nat.add_assoc,uptoD_next u (a+k) h];exact List.prefix_append _ _
  ·rw [←Nat.add_assoc,uptoD_same u (a+k) h];exact List.prefix_rfl
theorem uptoD_all (u:ByteArray):uptoD u u.size=dwnL u:=rfl
theorem pre_candL (u:ByteArray) (a:Nat) (ha:a≤u.size):waysL cutS u++(waysL clrS u++uptoD u a) <+: candL u:=by
 have h1:=uptoD_pre u a (u.size - a)
 rw [show a+(u.size - a)=u.size by omega,uptoD_all] at h1
 exact (List.prefix_append_right_inj _).2 ((List.prefix_append_right_inj _).2 h1)
theorem failT_same {t:GT} {p q:GP} (h:∀v,holdsP p v=holdsP q v) (u:ByteArray):failT t p u=failT t q u:=by
 unfold failT
 split
 ·rfl
 ·split
  ·rfl
  ·rw [h]
theorem scanT_same {t:GT} {p q:GP} (h:∀v,holdsP p v=holdsP q v):∀l,scanT t p l=scanT t q l
 | []=>rfl
 | x::l=>by rw [scanT,scanT,failT_same h,scanT_same h l]
theorem shrT_same {t:GT} {p q:GP} (h:∀v,holdsP p v=holdsP q v):∀n u v k,shrT t p n u v k=shrT t q n u v k
 | 0,u,v,k=>rfl
 | n+1,u,v,k=>by
  rw [shrT,shrT,scanT_same h]
  split
  ·exact shrT_same h n _ _ _
  ·rfl
theorem cutT_same {s:ByteArray} {t:GT} {p q:GP} (h:∀v,holdsP p v=holdsP q v):∀n a,cutT s t p n a=cutT s t q n a
 | 0,a=>rfl
 | n+1,a=>by
  rw [cutT,cutT]
  split
  ·rfl
  ·rw [h,cutT_same h n]
structure RepT where
 e:Int
 n:Nat
 s:Nat
 u:ByteArray
 v:GV
def bitsR (w:ByteArray) (r:GR):ByteArray:=w.extract r.f.toNat r.t.toNat
def repT (t:GT) (p:GP) (w:ByteArray) (N:Nat):RepT:=
 match (cutT w t p N 0).1.getLast?,(cutT w t p N 0).2==1 with
 | some r,true=>⟨1,(cutT w t p N 0).1.length,(shrT t p 1024 (bitsR w r) r.v 0).2.2,(shrT t p 1024 (bitsR w r) r.v 0).1,(shrT t p 1024 (bitsR w r) r.v 0).2.1⟩
 | _,_=>⟨(cutT w t p N 0).2,(cutT w t p N 0).1.length,0,ByteArray.empty,⟨0,0,[]⟩⟩
theorem repT_same {t:GT} {p q:GP} {w:ByteArray} (h:∀v,holdsP p v=holdsP q v) (N:Nat):repT t p w N=repT t q w N:=by
 unfold repT
 simp only [cutT_same h,shrT_same h]
def shrE (t:GT) (p:GP) (u:ByteArray):Int:=
 if runE t u≠0 then runE t u else if (checkPE p).2≠0 then (checkPE p).2 else match failT t p u with
 | some r=>if r.1=u then 0 else 1
 | none=>1
theorem shrE_zero {t:GT} {p:GP} {u:ByteArray} (h:shrE t p u=0):runE t u=0∧(checkPE p).2=0∧∃v,failT t p u=some (u,v):=by
 unfold shrE at h
 split at h
 ·omega
 ·rename_i h1
  split at h
  ·omega
  ·rename_i h2
   refine ⟨by omega,by omega,?_⟩
   split at h
   ·rename_i r hr
    split at h
    ·rename_i hu
     exact ⟨r.2,by rw [hr,←hu]⟩
    ·omega
   ·omega
theorem cut_fail (s:ByteArray) (t:GT) (p:GP):∀(n a:Nat),(∀r∈((cutT s t p n a).1).dropLast,holdsP p r.v=true)∧((cutT s t p n a).2≠1→∀r∈(cutT s t p n a).1,holdsP p r.v=true) ∧
  ((cutT s t p n a).2=1→∃r,(cutT s t p n a).1.getLast? =some r∧∃f k:Nat,r.f=f∧r.t=(f+k:Nat)∧runT (subS s f) t=.ok r.v k∧holdsP p r.v=false∧a≤f)
 | 0,a=>by simp [cutT]
 | n+1,a=>by
  rw [cutT]
  cases hr:runT (subS s a) t with
  | no k=>
   simp only []
   refine ⟨by simp,by simp,fun h=>?_⟩
   split at h<;>omega
  | ok v k=>
   simp only []
   by_cases hh:holdsP p v=true
   ·rw [if_pos hh]
    obtain ⟨h1,h2,h3⟩:=cut_fail s t p n (a+k)
    refine ⟨fun r hm=>?_,fun he r hm=>?_,fun he=>?_⟩
    ·cases hl:(cutT s t p n (a+k)).1 with
     | nil=>rw [hl] at hm;simp at hm
     | cons y ys=>
      rw [hl] at hm h1
      simp only [List.dropLast_cons_cons] at hm
      rcases List.mem_cons.1 hm with h|h
      ·rw [h];exact hh
      ·exact h1 r h
    ·rcases List.mem_cons.1 hm with h|h
     ·rw [h];exact hh
     ·exact h2 he r h
    ·obtain ⟨r,e1,f,j,e2,e3,e4,e5,e6⟩:=h3 he
     refine ⟨r,?_,f,j,e2,e3,e4,e5,by omega⟩
     simp only []
     rw [List.getLast?_cons,e1]
     rfl
   ·rw [if_neg hh]
    refine ⟨by simp,fun h=>absurd rfl h,fun _=>⟨_,rfl,a,k,rfl,rfl,hr,by simpa using hh,Nat.le_refl _⟩⟩
theorem sub_pre (s:ByteArray) (f k:Nat):preS (subS s f) k=s.extract f (f+k):=by
 refine ByteArray.ext (Array.ext' ?_)
 rw [preS_list,subS_list,ext_list,List.drop_take]
 rw [show f+k - f=k by omega]
theorem cut_last {s:ByteArray} {t:GT} {p:GP} {N:Nat} (ox:okT t) (hE:runE t s=0) (h:(cutT s t p N 0).2=1):
  ∃r,(cutT s t p N 0).1.getLast? =some r∧∃f k:Nat,r.f=f∧r.t=(f+k:Nat)∧f+k≤s.size∧bitsR s r=s.extract f (f+k)∧isBits (bitsR s r)=true∧failT t p (bitsR s r)=some (bitsR s r,r.v)∧okV r.v:=by
 obtain ⟨r,e1,f,k,e2,e3,e4,e5, -⟩:=(cut_fail s t p N 0).2.2 h
 have hb:bitsR s r=s.extract f (f+k):=by
  unfold bitsR
  rw [e2,e3]
  rfl
 have hf:f≤s.size:=by
  have hm:r∈(cutT s t p N 0).1:=List.mem_of_getLast? e1
  have:=(cut_mem p hE ox N 0 (Nat.zero_le _) r hm).1.2
  omega
 have hre:=runE_sub hE f hf
 have hin:=runT_in hre ox
 rw [e4] at hin
 have hk:k≤(subS s f).size:=hin.2.1
 have hsz:=subS_size s f hf
 have hft:failT t p (subS s f)=some (preS (subS s f) k,r.v):=by
  unfold failT
  rw [if_neg (by simp [hre]),e4]
  simp only []
  rw [if_neg (by simp [e5])]
 have hw:=fail_whole ox hft
 rw [sub_pre] at hw
 exact ⟨r,e1,f,k,e2,e3,by omega,hb,by rw [hb];exact hw.2.1,by rw [hb];exact hw.2.2.2.2.1,hin.2.2⟩
def numV (n:Int):GV:=⟨1,n,[]⟩
def Sx (t:GT) (p:GP) (u:ByteArray) (v:GV) (s:ByteArray) (y:GV) (n:Nat):Prop:=shrE t p u=0∧failT t p u=some (u,v)∧shrT t p 1024 u v 0=(s,y,n)
set_option maxRecDepth 1000000 in
theorem sx1:Sx (spanT 0 7) (lessP 5) ⟨#[49,49,49]⟩ (numV 7) ⟨#[49,48,49]⟩ (numV 5) 1:=⟨by decide +kernel,by kernel_rfl,by kernel_rfl⟩
set_option maxRecDepth 1000000 in
theorem sx2:Sx (spanT 0 7) (lessP 5) ⟨#[49,48,49]⟩ (numV 5) ⟨#[49,48,49]⟩ (numV 5) 0:=⟨by decide +kernel,by kernel_rfl,by kernel_rfl⟩
def listT:GT:=⟨6,noV,[],0,3,[],noP,[spanT 0 1]⟩
def lenP (n:Int):GP:=⟨11,noV,0,[lessP n]⟩
set_option maxRecDepth 1000000 in
theorem sx3:Sx listT (lenP 2) ⟨#[49,49,49,49,49]⟩ ⟨4,0,[numV 1,numV 1,numV 1]⟩ ⟨#[49,48,48,48]⟩ ⟨4,0,[numV 0,numV 0]⟩ 1:=⟨by decide +kernel,by kernel_rfl,by kernel_rfl⟩
set_option maxRecDepth 1000000 in
theorem se0:shrE (spanT 0 7) (lessP 5) ⟨#[48,48,48]⟩=1:=by decide +kernel
def Rx (t:GT) (p:GP) (w:ByteArray) (N:Nat) (r:RepT):Prop:=cutE t p w N=0∧repT t p w N=r
set_option maxRecDepth 1000000 in
theorem rx1:Rx (spanT 0 7) (lessP 5) ⟨#[48,48,48,49,49,49]⟩ 5 ⟨1,2,1,⟨#[49,48,49]⟩,numV 5⟩:=⟨by decide +kernel,by kernel_rfl⟩
set_option maxRecDepth 1000000 in
theorem rx2:Rx (spanT 0 7) (lessP 5) ⟨#[48,48,48,48,48,49]⟩ 5 ⟨3,2,0,⟨#[]⟩,noV⟩:=⟨by decide +kernel,by kernel_rfl⟩
end Go.Proofs.YtojjdneicmbfjaaGreatDoor
