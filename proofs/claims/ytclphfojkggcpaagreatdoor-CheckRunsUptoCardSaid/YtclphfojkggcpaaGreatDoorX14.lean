/- Part 15. -/
import Derived.Lib.Bytealg
import Derived.Lib.Repeat
import Derived.Test.YtclphfojkggcpaaGreatDoorX13
import Derived.Test.YtclphfojkggcpaaGreatDoorX24
set_option linter.all false
namespace Go.Proofs.YtclphfojkggcpaaGreatDoor
open Go.Lib (hid)
open Go Go.RowKit Go.Proofs.Tryz
def V9 (b:UInt8) (n:Nat):ByteArray:=⟨(Lib.repeatL [b] n).toArray⟩
theorem Wx (b:UInt8) (n:Nat):(V9 b n).data.toList=List.replicate n b:=by
 have:=Lib.repeatL_replicate b 1 n
 simpa [V9] using this
def Yq (u:ByteArray) (a n:Nat):ByteArray:=u.extract 0 a++u.extract (a+n) u.size
def YU (u:ByteArray) (a n:Nat):ByteArray:=u.extract 0 a++V9 48 n++u.extract (a+n) u.size
def V7 (u:ByteArray) (a:Nat):ByteArray:=u.extract 0 a++⟨#[48]⟩++V9 49 (u.size - a - 1)
def V6 (ch:ByteArray→Nat→Nat→ByteArray) (u:ByteArray) (n:Nat):List ByteArray:=((List.range (u.size+1 - n)).map fun a=>ch u a n).filter fun x=>decide (x≠u)
def YQ (ch:ByteArray→Nat→Nat→ByteArray) (u:ByteArray):List ByteArray:=V6 ch u 8++(V6 ch u 4++(V6 ch u 2++V6 ch u 1))
def Zh0 (u:ByteArray):List ByteArray:=((List.range u.size).filter fun a=>decide (u.data.toList.getD a 48=49)).map fun a=>V7 u a
def Xu (u:ByteArray):List ByteArray:=YQ Yq u++(YQ YU u++Zh0 u)
def Yf (t:GT) (p:GP) (u:ByteArray):Option (ByteArray×GV):=
 if ZP t u≠0 then none else match Vm u t with
 | .no _=>none
 | .ok v k=>if Zh p v=true then none else some (Qv u k,v)
def Yn (t:GT) (p:GP):List ByteArray→Option (ByteArray×GV)
 | []=>none
 | x::l=>match Yf t p x with
  | some r=>some r
  | none=>Yn t p l
def YO (t:GT) (p:GP):Nat→ByteArray→GV→Nat→ByteArray×GV×Nat
 | 0,u,v,k=>(u,v,k)
 | n+1,u,v,k=>match Yn t p (Xu u) with
  | some r=>YO t p n r.1 r.2 (k+1)
  | none=>(u,v,k)
theorem KJ {t:GT} {p:GP} {r:ByteArray×GV}:∀{l:List ByteArray},Yn t p l=some r→∃x∈l,Yf t p x=some r
 | [],h=>by simp [Yn] at h
 | x::l,h=>by
  rw [Yn] at h
  cases hx:Yf t p x with
  | some q=>rw [hx] at h;cases h;exact ⟨x,sm,hx⟩
  | none=>rw [hx] at h;obtain ⟨y,hy,e⟩:=KJ (l:=l) h;exact ⟨y,by simp [hy],e⟩
theorem UD {t:GT} {p:GP}:∀(l r:List ByteArray),Yn t p (l++r)=match Yn t p l with|some x=>some x|none=>Yn t p r
 | [],r=>rfl
 | x::l,r=>by
  rw [List.cons_append,Yn,Yn]
  cases Yf t p x with
  | some q=>rfl
  | none=>exact UD l r
def VU:Nat→List UInt8→Nat
 | p,[]=>p
 | p,b::l=>VU (256*p+b.toNat) l
def Ka (u:ByteArray):Nat:=VU 1 u.data.toList
theorem Qp:∀(l r:List UInt8) (p:Nat),VU p (l++r)=VU (VU p l) r
 | [],r,p=>rfl
 | b::l,r,p=>Qp l r _
theorem Vd:∀(l:List UInt8) (p:Nat),p*256 ^ l.length≤VU p l∧VU p l < (p+1)*256 ^ l.length
 | [],p=>by simp [VU]
 | b::l,p=>by
  obtain ⟨h1,h2⟩:=Vd l (256*p+b.toNat)
  have hb:=b.toNat_lt
  rw [VU,List.length_cons,Nat.pow_succ]
  constructor
  ·refine Nat.le_trans ?_ h1
   rw [Nat.mul_comm (256 ^ l.length) 256,←Nat.mul_assoc]
   exact Nat.mul_le_mul_right _ om
  refine Nat.lt_of_lt_of_le h2 ?_
  rw [Nat.mul_comm (256 ^ l.length) 256,←Nat.mul_assoc]
  exact Nat.mul_le_mul_right _ om
theorem Zjl {l r:List UInt8} {p q:Nat} (h:p < q) (hl:l.length=r.length):VU p l < VU q r:=by
 have h1:=(Vd l p).2
 have h2:=(Vd r q).1
 rw [hl] at h1
 exact Nat.lt_of_lt_of_le h1 (Nat.le_trans (Nat.mul_le_mul_right _ h) h2)
theorem UU {l r:List UInt8} (h:l.length < r.length):VU 1 l < VU 1 r:=by
 have h1:=(Vd l 1).2
 have h2:=(Vd r 1).1
 have h3:256 ^ (l.length+1)≤256 ^ r.length:=Nat.pow_le_pow_right om h
 rw [Nat.pow_succ] at h3
 omega
theorem Zgn:∀{l r:List UInt8} {p q:Nat},p≤q→l.length=r.length→(∀i,l.getD i 0≤r.getD i 0)→VU p l≤VU q r
 | [],[],p,q,h,_,_=>h
 | a::l,b::r,p,q,h,hl,hi=>by
  rw [VU,VU]
  have h0:=hi 0
  simp only [List.getD_cons_zero] at h0
  have h0:=UInt8.le_iff_toNat_le.1 h0
  exact Zgn om (by simpa using hl) (fun i=>by simpa using hi (i+1))
theorem ZdY:∀{l r:List UInt8} {p q:Nat},l.length=r.length→VU p l=VU q r→p=q∧l=r
 | [],[],p,q,_,h=>⟨h,rfl⟩
 | a::l,b::r,p,q,hl,h=>by
  rw [VU,VU] at h
  obtain ⟨h1,h2⟩:=ZdY (by simpa using hl) h
  have ha:=a.toNat_lt
  have hb:=b.toNat_lt
  have h3:a.toNat=b.toNat:=om
  have h4:a=b:=UInt8.toNat_inj.1 h3
  exact ⟨om,by rw [h4,h2]⟩
theorem ZK (a:ByteArray):a.size=a.data.toList.length:=by rw [Array.length_toList];rfl
theorem Zid {a b:ByteArray} (h:Ka a=Ka b):a=b:=by
 unfold Ka at h
 rcases Nat.lt_trichotomy a.data.toList.length b.data.toList.length with h1|h1|h1
 ·have:=UU h1;omega
 ·exact ByteArray.ext (Array.ext' (ZdY h1 h).2)
 have:=UU h1;omega
theorem Uv (u:ByteArray) (a b:Nat):(u.extract a b).data.toList=(u.data.toList.take b).drop a:=by
 rw [ByteArray.data_extract,Array.toList_extract,List.extract_eq_take_drop,List.drop_take]
theorem JO (u:ByteArray) (a n:Nat):(Yq u a n).data.toList=u.data.toList.take a++u.data.toList.drop (a+n):=by
 unfold Yq
 rw [VN,Uv,Uv,ZK,List.take_length]
 simp
theorem Zcj (u:ByteArray) (a n:Nat):(YU u a n).data.toList=u.data.toList.take a++(List.replicate n 48++u.data.toList.drop (a+n)):=by
 unfold YU
 rw [VN,VN,Uv,Uv,ZK,List.take_length,Wx]
 simp
theorem Zcn (u:ByteArray) (a:Nat):(V7 u a).data.toList=u.data.toList.take a++48::List.replicate (u.size - a - 1) 49:=by
 unfold V7
 rw [VN,VN,Uv,Wx]
 simp
def ZjK (l:List UInt8):Prop:=∀b∈l,b=48∨b=49
theorem YL {u:ByteArray}:Zc u=true↔u.size≤1024∧ZjK u.data.toList:=by
 unfold Zc ZaH ZjK
 rw [Bool.and_eq_true,Bool.not_not,List.all_eq_true,decide_eq_true_eq]
 refine and_congr_right fun _=>forall_congr' fun b=>forall_congr' fun _=>?_
 rw [Bool.or_eq_true,beq_iff_eq,beq_iff_eq]
 exact or_congr ⟨fun h=>UInt8.toNat_inj.1 h,fun h=>by rw [h];rfl⟩ ⟨fun h=>UInt8.toNat_inj.1 h,fun h=>by rw [h];rfl⟩
theorem ZiO {ch:ByteArray→Nat→Nat→ByteArray} {u x:ByteArray} {n:Nat}:x∈V6 ch u n↔(∃a,a+n≤u.size∧ch u a n=x)∧x≠u:=by
 unfold V6
 simp only [List.mem_filter,List.mem_map,List.mem_range,decide_eq_true_eq]
 exact and_congr_left fun _=>exists_congr fun a=>and_congr_left fun _=>om
theorem Zc2 {ch:ByteArray→Nat→Nat→ByteArray} {u x:ByteArray}:x∈YQ ch u→∃n a,1≤n∧a+n≤u.size∧ch u a n=x∧x≠u:=fun h=>by
 unfold YQ at h
 simp only [List.mem_append,ZiO] at h
 rcases h with ⟨⟨a,h1,h2⟩,h3⟩|⟨⟨a,h1,h2⟩,h3⟩|⟨⟨a,h1,h2⟩,h3⟩|⟨⟨a,h1,h2⟩,h3⟩
 ·exact ⟨8,a,om,h1,h2,h3⟩
 ·exact ⟨4,a,om,h1,h2,h3⟩
 ·exact ⟨2,a,om,h1,h2,h3⟩
 exact ⟨1,a,om,h1,h2,h3⟩
theorem Zh1 {u x:ByteArray}:x∈Zh0 u↔∃a,a < u.size∧u.data.toList.getD a 48=49∧V7 u a=x:=by
 unfold Zh0
 simp only [List.mem_filter,List.mem_map,List.mem_range,decide_eq_true_eq]
 exact exists_congr fun a=>and_assoc
theorem ZiF (l:List UInt8) (a n:Nat):l=l.take a++((l.drop a).take n++l.drop (a+n)):=by
 rw [←List.drop_drop,List.take_append_drop,List.take_append_drop]
theorem qe0 {p:Prop} (h:p:=by
 rw [hl]
 intro b hb'
 rcases List.mem_append.1 hb' with h|h
 ·exact hb b (List.mem_of_mem_take h)
 rcases List.mem_append.1 h with h|h
 ·exact .inl (List.mem_replicate.1 h).2
 exact hb b (List.mem_of_mem_drop h)):p:=h
theorem qe1 {p:Prop} (h:p:=by
 rw [hl]
 intro b hb'
 rcases List.mem_append.1 hb' with h|h
 ·exact hb b (List.mem_of_mem_take h)
 rcases List.mem_cons.1 h with h|h
 ·exact .inl h
 exact .inr (List.mem_replicate.1 h).2):p:=h
theorem qe3 {p:Prop} (h:p:=by
 rw [hl]
 intro b hb'
 rcases List.mem_append.1 hb' with h|h
 ·exact hb b (List.mem_of_mem_take h)
 exact hb b (List.mem_of_mem_drop h)):p:=h
theorem Zch {u x:ByteArray} (hu:Zc u=true) (hx:x∈Xu u):Ka x < Ka u∧Zc x=true∧x.size≤u.size:=by
 obtain ⟨h0,hb⟩:=YL.1 hu
 have hz:u.data.toList.length=u.size:=(ZK u).symm
 unfold Xu at hx
 rcases List.mem_append.1 hx with hx|hx
 ·obtain ⟨n,a,h1,h2,rfl,h3⟩:=Zc2 hx
  have hl:=JO u a n
  have hs:(Yq u a n).size+n=u.size:=by rw [ZK,hl];simp only [List.length_append,List.length_take,List.length_drop,List.length_replicate,hz];omega
  refine ⟨UU (by rw [←ZK,←ZK];omega),YL.2 ⟨om,?_⟩,om⟩
  exact qe3
 rcases List.mem_append.1 hx with hx|hx
 ·obtain ⟨n,a,h1,h2,rfl,h3⟩:=Zc2 hx
  have hl:=Zcj u a n
  have hs:(YU u a n).size=u.size:=by rw [ZK,hl];simp only [List.length_append,List.length_take,List.length_drop,List.length_replicate,hz];omega
  have hk:Ka (YU u a n)≤Ka u:=by
   unfold Ka
   rw [hl]
   conv=>rhs;rw [ZiF u.data.toList a n]
   rw [Qp,Qp _ ((u.data.toList.drop a).take n++_)]
   have hm:((u.data.toList.drop a).take n).length=n:=by rw [List.length_take,List.length_drop,hz];omega
   refine Zgn (Nat.le_refl _) (by rw [List.length_append,List.length_append,hm,List.length_replicate]) fun i=>?_
   by_cases hi:i < n
   ·rw [List.getD_eq_getElem?_getD,List.getD_eq_getElem?_getD,List.getElem?_append_left (by simpa using hi),List.getElem?_append_left om,List.getElem?_replicate,if_pos hi,List.getElem?_eq_getElem om]
    simp only [Option.getD_some]
    rcases hb _ (List.mem_of_mem_drop (List.mem_of_mem_take (List.getElem_mem (l:=(u.data.toList.drop a).take n) (n:=i) om))) with e|e
    ·rw [e];exact UInt8.le_iff_toNat_le.2 (by decide)
    rw [e];exact UInt8.le_iff_toNat_le.2 (by decide)
   rw [List.getD_eq_getElem?_getD,List.getD_eq_getElem?_getD,List.getElem?_append_right (by simpa using hi),List.getElem?_append_right om,hm,List.length_replicate]
   exact UInt8.le_iff_toNat_le.2 (Nat.le_refl _)
  refine ⟨?_,YL.2 ⟨om,?_⟩,om⟩
  ·rcases Nat.lt_or_eq_of_le hk with h|h
   ·exact h
   exact absurd (Zid h) h3
  exact qe0
 obtain ⟨a,h1,h2,rfl⟩:=Zh1.1 hx
 have hl:=Zcn u a
 have h1':=h1
 rw [ZK] at h1'
 have hs:(V7 u a).size=u.size:=by rw [ZK,hl];simp only [List.length_append,List.length_take,List.length_cons,List.length_replicate,hz];omega
 refine ⟨?_,YL.2 ⟨om,?_⟩,om⟩
 ·unfold Ka
  rw [hl]
  conv=>rhs;rw [ZiF u.data.toList a 1]
  rw [Qp,Qp _ ((u.data.toList.drop a).take 1++_)]
  have hd:(u.data.toList.drop a).take 1=[49]:=by
   rw [List.drop_eq_getElem_cons h1']
   rw [List.getD_eq_getElem?_getD,List.getElem?_eq_getElem h1'] at h2
   simp only [Option.getD_some] at h2
   rw [h2]
   rfl
  rw [hd]
  rw [List.cons_append,List.nil_append,VU,VU]
  refine Zjl ?_ (by rw [List.length_replicate,List.length_drop,hz];omega)
  have e1:(48:UInt8).toNat=48:=rfl
  have e2:(49:UInt8).toNat=49:=rfl
  omega
 exact qe1
theorem Zie (u:ByteArray) (k:Nat) (h:k≤u.size):Ka (Qv u k)≤Ka u:=by
 unfold Ka
 rw [VG]
 rw [ZK] at h
 rcases Nat.lt_or_eq_of_le h with h1|h1
 ·exact Nat.le_of_lt (UU (by rw [List.length_take];omega))
 rw [h1,List.take_length];exact Nat.le_refl _
theorem VI {t:GT} {u:ByteArray} (h:ZP t u=0):(Z3 t).2=0∧Zc u=true:=by
 unfold ZP at h
 split at h
 ·omega
 split at h
 ·rename_i h1 h2;exact ⟨by simpa using h1,h2⟩
 omega
theorem Zdz {t:GT} {u:ByteArray} (h:(Z3 t).2=0) (hb:Zc u=true):ZP t u=0:=by
 unfold ZP
 rw [if_neg (by simp [h]),if_pos hb]
theorem Wp {t:GT} {p:GP} {u s:ByteArray} {v:GV} (ox:okT t) (h:Yf t p u=some (s,v)):
  ZP t u=0∧Zc s=true∧s.size≤u.size∧Vm s t=.ok v s.size∧Yf t p s=some (s,v)∧Ka s≤Ka u∧okV v∧Zh p v=false:=by
 unfold Yf at h
 split at h
 ·cases h
 rename_i h0
 have hE:ZP t u=0:=by simpa using h0
 obtain ⟨hT,hB⟩:=VI hE
 have hin:=Vy hE ox
 cases hr:Vm u t with
 | no k=>rw [hr] at h;cases h
 | ok w k=>
  rw [hr] at h hin
  simp only [] at h
  split at h
  ·cases h
  rename_i hh
  cases h
  have hk:k≤u.size:=hin.2.1
  have hw:=ZfW hr hk
  have hs:=Q0 u k hk
  have hb:=Ze8 hB k
  refine ⟨hE,hb,om,by rw [hs];exact hw,?_,Zie u k hk,hin.2.2,by simpa using hh⟩
  unfold Yf
  rw [if_neg (by simp [Zdz hT hb]),hw]
  simp only []
  rw [if_neg hh]
  have:Qv (Qv u k) k=Qv u k:=by
   refine ByteArray.ext (Array.ext' ?_)
   rw [VG,VG,List.take_take,Nat.min_self]
  rw [this]
theorem Zgx {t:GT} {p:GP} (ox:okT t):∀(n:Nat) (u:ByteArray) (v:GV) (k:Nat),Yf t p u=some (u,v) →
  Yf t p (YO t p n u v k).1=some ((YO t p n u v k).1,(YO t p n u v k).2.1)∧k≤(YO t p n u v k).2.2∧(YO t p n u v k).2.2≤k+n ∧
  ((YO t p n u v k).2.2=k→(YO t p n u v k).1=u∧(YO t p n u v k).2.1=v)∧(k < (YO t p n u v k).2.2→Ka (YO t p n u v k).1 < Ka u) ∧
  ((YO t p n u v k).2.2 < k+n→Yn t p (Xu (YO t p n u v k).1)=none)∧(YO t p n u v k).1.size≤u.size
 | 0,u,v,k,h=>⟨h,Nat.le_refl _,Nat.le_refl _,fun _=>⟨rfl,rfl⟩,fun h=>absurd h (Nat.lt_irrefl _),fun h=>absurd h (Nat.lt_irrefl _),Nat.le_refl _⟩
 | n+1,u,v,k,h=>by
  rw [YO]
  cases hs:Yn t p (Xu u) with
  | none=>exact ⟨h,Nat.le_refl _,sm,fun _=>⟨rfl,rfl⟩,fun h=>absurd h (Nat.lt_irrefl _),fun _=>hs,Nat.le_refl _⟩
  | some r=>
   obtain ⟨s,w⟩:=r
   simp only []
   obtain ⟨x,hx,hf⟩:=KJ hs
   obtain ⟨e1,e2,e3,e4,e5,e6,e7⟩:=Wp ox hf
   obtain ⟨hE,hB, -⟩:=Wp ox h
   obtain ⟨c1,c2,c3⟩:=Zch hB hx
   obtain ⟨i1,i2,i3,i4,i5,i6,i7⟩:=Zgx ox n s w (k+1) e5
   refine ⟨i1,om,om,fun h=>om,fun _=>?_,fun h=>i6 om,om⟩
   rcases Nat.lt_or_eq_of_le i2 with h1|h1
   ·have:=i5 h1;omega
   obtain ⟨h2,h3⟩:=i4 h1.symm
   rw [h2];omega
abbrev Bit:={ x:ByteArray // Zc x=true }
def Vi (ch:ByteArray→Nat→Nat→ByteArray) (u:ByteArray) (n a:Nat):List ByteArray:=((List.range a).map fun a=>ch u a n).filter fun x=>decide (x≠u)
theorem KO (ch:ByteArray→Nat→Nat→ByteArray) (u:ByteArray) (n a:Nat) (h:ch u a n=u):Vi ch u n (a+1)=Vi ch u n a:=by
 unfold Vi
 rw [List.range_succ,List.map_append,List.filter_append]
 simp [h]
theorem V5 (ch:ByteArray→Nat→Nat→ByteArray) (u:ByteArray) (n a:Nat) (h:¬ch u a n=u):Vi ch u n (a+1)=Vi ch u n a++[ch u a n]:=by
 unfold Vi
 rw [List.range_succ,List.map_append,List.filter_append]
 simp [h]
theorem J7 (ch:ByteArray→Nat→Nat→ByteArray) (u:ByteArray) (n a:Nat):(Vi ch u n a).length≤a:=by
 unfold Vi
 exact Nat.le_trans (List.length_filter_le _ _) sm
theorem Zc1 (ch:ByteArray→Nat→Nat→ByteArray) (u:ByteArray) (n a:Nat):∀k,Vi ch u n a <+: Vi ch u n (a+k)
 | 0=>List.prefix_rfl
 | k+1=>by
  refine (Zc1 ch u n a k).trans ?_
  by_cases h:ch u (a+k) n=u
  ·rw [←Nat.add_assoc,KO ch u n (a+k) h];exact List.prefix_rfl
  rw [←Nat.add_assoc,V5 ch u n (a+k) h];exact List.prefix_append _ _
def QJ:List Nat:=[8,4,2,1]
def We (ch:ByteArray→Nat→Nat→ByteArray) (u:ByteArray) (i:Nat):List ByteArray:=(QJ.take i).flatMap fun n=>V6 ch u n
theorem JY (ch:ByteArray→Nat→Nat→ByteArray) (u:ByteArray) (i n:Nat) (h:QJ[i]? =some n):We ch u i++Vi ch u n (u.size+1 - n)=We ch u (i+1):=by
 unfold We
 rw [List.take_add_one,h,List.flatMap_append]
 simp [V6,Vi]
theorem ZbF (ch:ByteArray→Nat→Nat→ByteArray) (u:ByteArray):We ch u 4=YQ ch u:=by
 simp [We,QJ,YQ]
theorem Zed (ch:ByteArray→Nat→Nat→ByteArray) (u:ByteArray) (i:Nat):∀k,We ch u i <+: We ch u (i+k)
 | 0=>List.prefix_rfl
 | k+1=>by
  refine (Zed ch u i k).trans ?_
  unfold We
  rw [←Nat.add_assoc,List.take_add_one,List.flatMap_append]
  exact List.prefix_append _ _
theorem ZcF (ch:ByteArray→Nat→Nat→ByteArray) (u:ByteArray) (i n a:Nat) (h:QJ[i]? =some n) (ha:a≤u.size+1 - n):We ch u i++Vi ch u n a <+: YQ ch u:=by
 have hi:i < 4:=by
  have:=(List.getElem?_eq_some_iff.1 h).1
  simpa [QJ] using this
 have h1:=Zc1 ch u n a (u.size+1 - n - a)
 rw [show a+(u.size+1 - n - a)=u.size+1 - n by omega] at h1
 refine ((List.prefix_append_right_inj _).2 h1).trans ?_
 rw [JY ch u i n h,←ZbF]
 have:=Zed ch u (i+1) (3 - i)
 rwa [show i+1+(3 - i)=4 by omega] at this
theorem YP (ch:ByteArray→Nat→Nat→ByteArray) (u:ByteArray) (n:Nat):(V6 ch u n).length≤u.size+1 - n:=J7 ch u n _
theorem Xj (ch:ByteArray→Nat→Nat→ByteArray) (u:ByteArray):(YQ ch u).length≤4*u.size:=by
 unfold YQ
 simp only [List.length_append]
 have h8:=YP ch u 8
 have h4:=YP ch u 4
 have h2:=YP ch u 2
 have h1:=YP ch u 1
 omega
theorem Qw (ch:ByteArray→Nat→Nat→ByteArray) (u:ByteArray) (i:Nat) (hi:i < 4):(We ch u i).length≤3*u.size:=by
 have h8:=YP ch u 8
 have h4:=YP ch u 4
 have h2:=YP ch u 2
 rcases (show i=0∨i=1∨i=2∨i=3 by omega) with rfl|rfl|rfl|rfl
 ·simp [We]
 all_goals
  simp only [We,QJ,List.take_succ_cons,List.take_zero,List.flatMap_cons,List.flatMap_nil,List.length_append,List.length_nil]
  omega
theorem qe4 {p:Prop} (h:p:=by rw [ZK,hl];simp only [List.length_append,List.length_take,List.length_drop,List.length_replicate,←ZK];omega):p:=h
theorem ZgK {u:ByteArray} (hu:Zc u=true) {a n:Nat} (h:a+n≤u.size):Zc (Yq u a n)=true:=by
 obtain ⟨h0,hb⟩:=YL.1 hu
 have hl:=JO u a n
 refine YL.2 ⟨?_,?_⟩
 ·exact qe4
 exact qe3
theorem ZgH {u:ByteArray} (hu:Zc u=true) {a n:Nat} (h:a+n≤u.size):Zc (YU u a n)=true:=by
 obtain ⟨h0,hb⟩:=YL.1 hu
 have hl:=Zcj u a n
 refine YL.2 ⟨?_,?_⟩
 ·exact qe4
 exact qe0
theorem ZgM {u:ByteArray} (hu:Zc u=true) {a:Nat} (h:a < u.size):Zc (V7 u a)=true:=by
 obtain ⟨h0,hb⟩:=YL.1 hu
 have hl:=Zcn u a
 refine YL.2 ⟨?_,?_⟩
 ·rw [ZK,hl];simp only [List.length_append,List.length_take,List.length_cons,List.length_replicate,←ZK];omega
 exact qe1
def Up (u:ByteArray) (a:Nat):List ByteArray:=((List.range a).filter fun a=>decide (u.data.toList.getD a 48=49)).map fun a=>V7 u a
theorem ZbU (u:ByteArray) (a:Nat) (h:¬u.data.toList.getD a 48=49):Up u (a+1)=Up u a:=by
 unfold Up
 rw [List.range_succ,List.filter_append,List.map_append]
 rw [List.filter_cons_of_neg (by simpa using h)]
 simp
theorem KN (u:ByteArray) (a:Nat) (h:u.data.toList.getD a 48=49):Up u (a+1)=Up u a++[V7 u a]:=by
 unfold Up
 rw [List.range_succ,List.filter_append,List.map_append]
 rw [List.filter_cons_of_pos (by simpa using h)]
 simp
theorem Zhw (u:ByteArray) (a:Nat):(Up u a).length≤a:=by
 unfold Up
 rw [List.length_map]
 exact Nat.le_trans (List.length_filter_le _ _) sm
theorem Zc0 (u:ByteArray) (a:Nat):∀k,Up u a <+: Up u (a+k)
 | 0=>List.prefix_rfl
 | k+1=>by
  refine (Zc0 u a k).trans ?_
  by_cases h:u.data.toList.getD (a+k) 48=49
  ·rw [←Nat.add_assoc,KN u (a+k) h];exact List.prefix_append _ _
  rw [←Nat.add_assoc,ZbU u (a+k) h];exact List.prefix_rfl
theorem ZcZ (u:ByteArray):Up u u.size=Zh0 u:=rfl
theorem Zg2 (u:ByteArray) (a:Nat) (ha:a≤u.size):YQ Yq u++(YQ YU u++Up u a) <+: Xu u:=by
 have h1:=Zc0 u a (u.size - a)
 rw [show a+(u.size - a)=u.size by omega,ZcZ] at h1
 exact (List.prefix_append_right_inj _).2 ((List.prefix_append_right_inj _).2 h1)
def Qk (ch:ByteArray→Nat→Nat→ByteArray) (u:ByteArray) (n k:Nat):List ByteArray:=(List.range k).map fun a=>ch u a n
def ZbV (ch:ByteArray→Nat→Nat→ByteArray) (u:ByteArray) (n k:Nat):List ByteArray:=(Qk ch u n k).filter fun x=>decide (x≠u)
def Zad (u:ByteArray) (k:Nat):List ByteArray:=((List.range k).filter fun a=>decide (u.data.toList.getD a 48=49)).map fun a=>V7 u a
theorem Za3 (ch:ByteArray→Nat→Nat→ByteArray) (u:ByteArray) (n k:Nat):Qk ch u n (k+1)=Qk ch u n k++[ch u k n]:=by
 unfold Qk;rw [List.range_succ,List.map_append];rfl
theorem ZbW (ch:ByteArray→Nat→Nat→ByteArray) (u:ByteArray) (n k:Nat):ZbV ch u n (k+1)=ZbV ch u n k++if ch u k n=u then [] else [ch u k n]:=by
 unfold ZbV
 rw [Za3,List.filter_append]
 by_cases h:ch u k n=u
 ·simp [h]
 simp [h]
theorem Zbb (u:ByteArray) (k:Nat):Zad u (k+1)=Zad u k++if u.data.toList.getD k 48=49 then [V7 u k] else []:=by
 unfold Zad
 rw [List.range_succ,List.filter_append,List.map_append]
 by_cases h:u.data.toList.getD k 48=49
 ·rw [if_pos h,List.filter_cons_of_pos (by exact decide_eq_true h)];rfl
 rw [if_neg h,List.filter_cons_of_neg (by rw [decide_eq_false h];exact Bool.false_ne_true)];rfl
theorem ZgL {u:ByteArray} {a n:Nat} (h:1≤n) (h2:a+n≤u.size):Yq u a n≠u:=fun e=>by
 have hz:u.data.toList.length=u.size:=(ZK u).symm
 have:(Yq u a n).size+n=u.size:=by rw [ZK,JO];simp only [List.length_append,List.length_take,List.length_drop,hz];omega
 rw [e] at this;omega
theorem ZiN (u:ByteArray) (n:Nat) (h:1≤n):V6 Yq u n=Qk Yq u n (u.size+1 - n):=by
 unfold V6 Qk
 refine List.filter_eq_self.2 fun x hx=>?_
 obtain ⟨a,ha,rfl⟩:=List.mem_map.1 hx
 rw [List.mem_range] at ha
 exact decide_eq_true (ZgL h om)
theorem ZjJ (ch:ByteArray→Nat→Nat→ByteArray) (u:ByteArray) (n:Nat):V6 ch u n=ZbV ch u n (u.size+1 - n):=rfl
theorem Zgm (u:ByteArray):Zh0 u=Zad u u.size:=rfl
def ZmY (ch:ByteArray→Nat→Nat→ByteArray) (u:ByteArray) (s:Nat):List ByteArray:=
 (if s < 8 then V6 ch u 8 else [])++((if s < 4 then V6 ch u 4 else [])++((if s < 2 then V6 ch u 2 else [])++(if s < 1 then V6 ch u 1 else [])))
def isW (s:Nat):Prop:=s=8∨s=4∨s=2∨s=1
theorem Ziw (ch:ByteArray→Nat→Nat→ByteArray) (u:ByteArray):ZmY ch u 8=[]:=rfl
theorem Ziv (ch:ByteArray→Nat→Nat→ByteArray) (u:ByteArray):ZmY ch u 0=YQ ch u:=rfl
theorem Q4 {ch:ByteArray→Nat→Nat→ByteArray} {u:ByteArray} {s:Nat} (h:isW s):ZmY ch u (s / 2)=ZmY ch u s++V6 ch u s∧(isW (s / 2)∨s / 2=0):=by
 rcases h with rfl|rfl|rfl|rfl
 ·exact ⟨by simp [ZmY],.inl (.inr (.inl rfl))⟩
 ·exact ⟨by simp [ZmY],.inl (.inr (.inr (.inl rfl)))⟩
 ·exact ⟨by simp [ZmY],.inl (.inr (.inr (.inr rfl)))⟩
 exact ⟨by simp [ZmY],.inr rfl⟩
theorem ZmW (ch:ByteArray→Nat→Nat→ByteArray) (u:ByteArray) (n:Nat) (h:1≤n):(V6 ch u n).length≤u.size:=by
 unfold V6
 refine Nat.le_trans (List.length_filter_le _ _) ?_
 rw [List.length_map,List.length_range];omega
theorem ZmX (ch:ByteArray→Nat→Nat→ByteArray) (u:ByteArray):(YQ ch u).length≤4*u.size:=by
 unfold YQ
 have h8:=ZmW ch u 8 om
 have h4:=ZmW ch u 4 om
 have h2:=ZmW ch u 2 om
 have h1:=ZmW ch u 1 om
 simp only [List.length_append];omega
theorem ZmZ {ch:ByteArray→Nat→Nat→ByteArray} {u:ByteArray} (s:Nat):(ZmY ch u s).length≤4*u.size:=by
 unfold ZmY
 have h8:=ZmW ch u 8 om
 have h4:=ZmW ch u 4 om
 have h2:=ZmW ch u 2 om
 have h1:=ZmW ch u 1 om
 simp only [List.length_append]
 have e:∀(c:Prop) [Decidable c] (l:List ByteArray),(if c then l else []).length≤l.length:=fun c _ l=>by split<;>simp
 have g8:=e (s < 8) (V6 ch u 8)
 have g4:=e (s < 4) (V6 ch u 4)
 have g2:=e (s < 2) (V6 ch u 2)
 have g1:=e (s < 1) (V6 ch u 1)
 omega
theorem Zcc (ch:ByteArray→Nat→Nat→ByteArray) (u:ByteArray) (n k:Nat):(Qk ch u n k).length=k:=by unfold Qk;rw [List.length_map,List.length_range]
theorem Zhy (ch:ByteArray→Nat→Nat→ByteArray) (u:ByteArray) (n k:Nat):(ZbV ch u n k).length≤k:=Nat.le_trans (List.length_filter_le _ _) (by rw [Zcc];exact Nat.le_refl _)
theorem Zco (u:ByteArray) (k:Nat):(Zad u k).length≤k:=by
 unfold Zad;rw [List.length_map];exact Nat.le_trans (List.length_filter_le _ _) (by rw [List.length_range];exact Nat.le_refl _)
theorem ZgF (u:ByteArray):(Xu u).length≤9*u.size:=by
 unfold Xu
 have h1:=ZmX Yq u
 have h2:=ZmX YU u
 have h3:=Zco u u.size
 rw [←Zgm] at h3
 simp only [List.length_append];omega
theorem Zgw {t:GT} {p:GP} {l:List ByteArray} {k:Nat} (h:k < l.length) (hn:Yn t p (l.take k)=none):Yn t p (l.take (k+1))=Yf t p l[k]:=by
 rw [List.take_succ_eq_append_getElem h,UD,hn]
 show Yn t p [l[k]]=_
 rw [Yn]
 cases Yf t p l[k]<;>rfl
theorem Zf2 {t:GT} {p:GP} {l:List ByteArray} {k:Nat} {r:ByteArray×GV} (h:k < l.length) (hn:Yn t p (l.take k)=none) (hf:Yf t p l[k]=some r):Yn t p l=some r:=by
 have h1:=Zgw (t:=t) (p:=p) h hn
 rw [hf] at h1
 rw [←List.take_append_drop (k+1) l,UD,h1]
theorem Wo {s:ByteArray} (h:Zc s=true):s.size≤1024:=(YL.1 h).1
theorem Zhl (b:UInt8) (n:Nat):(V9 b n).size=n:=by rw [ZK,Wx];simp
theorem ZcK (b:UInt8) (n:Nat):V9 b n++⟨#[b]⟩=V9 b (n+1):=by
 refine ByteArray.ext (Array.ext' ?_)
 rw [VN,Wx,Wx,List.replicate_succ']
theorem Ziz (x:ByteArray) (b:UInt8):x++V9 b 0=x:=ByteArray.ext (Array.ext' (by rw [VN,Wx];simp))
set_option maxRecDepth 100000
theorem Zg3 (s:ByteArray) (w:World) (hs:s.size≤9223372036854775807):
  Calls prog 67 #[.string s] w fun e w'=>e=.returned (.bool (Zc s))∧Below w.heap.size w w':=by
 generalize hF:Zc s=F
 have HF:=hid hF
 clear hF
 go_enter func67,ntmps67
 go_wp2_with fail
 ·go_ret
  exact ⟨XA (by rw [←HF.out,Zc];simp;omega),ZlD⟩
 go_loopg [3] (s.size) (fun gk i wr=>∃j:Nat,gk+j=s.size∧i=.int .i64 j∧Hid (∀q (hq:q < s.size),q < j→s[q].toNat=48∨s[q].toNat=49)∧wr=w)
 case atStart=>exact ⟨0,om,rfl,fun q _ hq=>absurd hq om,rfl⟩
 case round=>
  obtain ⟨j,hj,rfl,HZ,rfl⟩:=hrel
  by_cases hlt:j < s.size
  ·go_wp2_with fail
   ·go_roundg (gk - 1)
    case measure=>omega
    case rel=>exact ⟨j+1,om,by go_num,fun q hq hj'=>(by
     by_cases hqj:q=j
     ·subst hqj;exact .inl om
     exact HZ.out q hq om),rfl⟩
   ·have h1:¬s[j].toNat=48:=om
    have h2:¬s[j].toNat=49:=by
     have h3:=‹(_ != _)=true∧(_ != _)=true›.2
     simp at h3;omega
    go_ret
    exact ⟨XA (by rw [←HF.out,Zc,JW s j hlt h1 h2,Bool.not_true,Bool.and_false]),ZlD⟩
   have h2:s[j].toNat=49:=by
    have h3:=‹(_ != _)=false∨(_ != _)=false›
    simp at h3;omega
   go_roundg (gk - 1)
   case measure=>omega
   case rel=>exact ⟨j+1,om,by go_num,fun q hq hj'=>(by
    by_cases hqj:q=j
    ·subst hqj;exact .inr h2
    exact HZ.out q hq om),rfl⟩
  go_wp2_with fail
  go_ret
  exact ⟨XA (by rw [←HF.out,Zc,Kz s fun q hq=>HZ.out q hq om];simp;omega),ZlD⟩
set_option maxRecDepth 512
theorem Q5 (s:ByteArray) (w:World) (hb:Zc s=true):Calls prog 67 #[.string s] w fun e w'=>e=.returned (.bool true)∧Below w.heap.size w w':=by
 have:=Zg3 s w (by have:=Wo hb;omega)
 rwa [hb] at this
set_option maxRecDepth 100000
theorem Zdl (n:Nat) (w:World) (hn:n≤1024):Calls prog 109 #[.int .i64 n] w fun e w'=>e=.returned (.string (V9 48 n))∧Below w.heap.size w w':=by
 go_enter func109,ntmps109
 go_wp2_with fail
 go_loopg [3,4] (n) (fun gk v i wr=>∃(j:Nat) (s:ByteArray),gk+j=n∧v=.string s∧i=.int .i64 j∧Hid (s=V9 48 j)∧s.size=j∧wr=w)
 case atStart=>exact ⟨0,_,om,rfl,rfl,hid rfl,rfl,rfl⟩
 case round=>
  obtain ⟨j,s,hj,rfl,rfl,HS,hz,rfl⟩:=hrel
  by_cases hlt:j < n
  ·have x4:¬9223372036854775807 < s.size+1:=om
   go_wp2_with fail
   go_roundg (gk - 1)
   case measure=>omega
   case rel=>exact ⟨j+1,s++⟨#[48]⟩,om,rfl,by go_num,hid (by rw [HS.out,ZcK]),by rw [ByteArray.size_append,hz];rfl,rfl⟩
  have:j=n:=om
  subst this
  obtain rfl:s=V9 48 j:=HS.out
  go_wp2_with fail
  go_ret
  exact ⟨rfl,ZlD⟩
theorem ZbI (s:ByteArray) (a n:Nat) (w:World) (hs:s.size≤1024) (h1:1≤n) (h2:a+n≤s.size):
  Calls prog 108 #[.string s,.int .i64 a,.int .i64 n] w fun e w'=>e=.returned (.bool true)∧Below w.heap.size w w':=by
 go_enter func108,ntmps108
 go_wp2_with fail
 all_goals first|(exfalso;omega)|skip
 all_goals go_ret
 all_goals exact ⟨XA (by simp;omega),ZlD⟩
set_option maxRecDepth 512
theorem qe2 {p:Prop} (h:p:=by
 go_wp2_with fail
 all_goals go_ret2
 all_goals exact ⟨rfl,Below.trans hb01 (Below.mono (B:=w1.heap.size) (by assumption) hb01.size)⟩):p:=h
set_option maxRecDepth 100000
set_option maxHeartbeats 1000000
theorem Zfr (s:ByteArray) (a n:Nat) (w:World) (hb:Zc s=true) (h1:1≤n) (h2:a+n≤s.size):
  Calls prog 68 #[.string s,.int .i64 a,.int .i64 n] w fun e w'=>e=.returned (.tuple #[.string (Yq s a n),.int .i64 0])∧Below w.heap.size w w':=by
 have hs:=Wo hb
 have x1:(a:Int)≤(s.size:Int):=om
 have x2:(0:Int)≤(a:Int)+(n:Int):=om
 have x3:(a:Int)+(n:Int)≤(s.size:Int):=om
 have x4:¬9223372036854775807 < min a s.size+(s.size - (a+n)):=om
 have ht:((a:Int)+(n:Int)).toNat=a+n:=om
 have wm:IntKind.i64.wrap ((a:Int)+(n:Int))=(a:Int)+(n:Int):=IntWalk.i64_in _ om
 have HB:=hid hb
 clear hb
 go_enter func68,ntmps68
 go_wp2_with (first
  | (go_at_call 67;(with_reducible refine (Q5 s _ HB.out).mono ?_);rintro e w0 ⟨rfl,hb0⟩)
  | (go_at_call 108;(with_reducible refine (ZbI s a n _ hs h1 h2).mono ?_);rintro e w1 ⟨rfl,hb1⟩))
 have hb01:Below w.heap.size w w1:=hb0.trans (hb1.mono hb0.size)
 go_region_held3 (fun W=>Below w1.heap.size w1 W) (((exact ZlD))) ((fail))
 all_goals exact qe2
theorem Jq (s:ByteArray) (a n:Nat) (w:World) (hb:Zc s=true) (h1:1≤n) (h2:a+n≤s.size):
  Calls prog 69 #[.string s,.int .i64 a,.int .i64 n] w fun e w'=>e=.returned (.tuple #[.string (YU s a n),.int .i64 0])∧Below w.heap.size w w':=by
 have hs:=Wo hb
 have x1:(a:Int)≤(s.size:Int):=om
 have x2:(0:Int)≤(a:Int)+(n:Int):=om
 have x3:(a:Int)+(n:Int)≤(s.size:Int):=om
 have x5:(V9 48 n).size=n:=Zhl _ _
 have x4:¬9223372036854775807 < min a s.size+(V9 48 n).size:=om
 have x6:¬9223372036854775807 < min a s.size+(V9 48 n).size+(s.size - (a+n)):=om
 have ht:((a:Int)+(n:Int)).toNat=a+n:=om
 have wm:IntKind.i64.wrap ((a:Int)+(n:Int))=(a:Int)+(n:Int):=IntWalk.i64_in _ om
 have HB:=hid hb
 clear hb x5
 go_enter func69,ntmps69
 go_wp2_with (first
  | (go_at_call 67;(with_reducible refine (Q5 s _ HB.out).mono ?_);rintro e w0 ⟨rfl,hb0⟩)
  | (go_at_call 108;(with_reducible refine (ZbI s a n _ hs h1 h2).mono ?_);rintro e w1 ⟨rfl,hb1⟩))
 have hb01:Below w.heap.size w w1:=hb0.trans (hb1.mono hb0.size)
 clear hb0 hb1
 go_region_held3 (fun W=>Below w1.heap.size w1 W) (((exact ZlD))) ((go_at_call 109;(with_reducible refine (Zdl n _ om).mono ?_);rintro e w2 ⟨rfl,hb2⟩))
 all_goals exact qe2
theorem Zef (s:ByteArray) (a:Nat) (w:World) (hb:Zc s=true) (h2:a < s.size) (h49:s.data.toList.getD a 48=49):
  Calls prog 70 #[.string s,.int .i64 a] w fun e w'=>e=.returned (.tuple #[.string (V7 s a),.int .i64 0])∧Below w.heap.size w w':=by
 have hs:=Wo hb
 have x1:(a:Int)≤(s.size:Int):=om
 have x4:¬9223372036854775807 < min a s.size+1:=om
 have hv:s[a].toNat=49:=by
  rw [List.getD_eq_getElem?_getD,List.getElem?_eq_getElem (by rw [←ZK];exact h2)] at h49
  have h50:s.data.toList[a]'(by rw [←ZK];exact h2)=49:=h49
  have:s[a]=49:=by rw [←h50];simp [ByteArray.getElem_eq_getElem_data]
  rw [this];rfl
 have h0:(s.extract 0 a++⟨#[48]⟩:ByteArray).size=a+1:=by rw [ByteArray.size_append,ByteArray.size_extract];show min a s.size - 0+1=_;omega
 have HD:=hid (show V7 s a=s.extract 0 a++⟨#[48]⟩++V9 49 (s.size - a - 1) from rfl)
 have HV:=hid hv
 have HB:=hid hb
 have H0:=hid h0
 clear hb hv h49 h0
 go_enter func70,ntmps70
 go_wp2_with (go_at_call 67;(with_reducible refine (Q5 s _ HB.out).mono ?_);rintro e w1 ⟨rfl,hb1⟩)
 ·exfalso
  have:=HV.out
  rcases ‹(_∨_)∨(_ != _)=true› with (h5|h5)|h5
  ·omega
  ·omega
  simp at h5;omega
 go_loopg [6] (s.size - a - 1) (fun gk v wr=>∃(j:Nat) (x:ByteArray),gk+j=s.size - a - 1∧v=.string x∧Hid (x=s.extract 0 a++⟨#[48]⟩++V9 49 j)∧x.size=a+1+j∧wr=w1)
 case atStart=>exact ⟨0,_,om,rfl,hid (Ziz _ _).symm,H0.out,rfl⟩
 case round=>
  obtain ⟨j,x,hj,rfl,HS,hz,rfl⟩:=hrel
  by_cases hlt:j < s.size - a - 1
  ·have x5:¬9223372036854775807 < x.size+1:=om
   have x6:x.size < s.size:=om
   go_wp2_with fail
   go_roundg (gk - 1)
   case measure=>omega
   case rel=>exact ⟨j+1,x++⟨#[49]⟩,om,rfl,hid (by rw [HS.out,ByteArray.append_assoc,ZcK]),by rw [ByteArray.size_append,hz];rfl,rfl⟩
  have x6:¬x.size < s.size:=om
  have:j=s.size - a - 1:=om
  subst this
  obtain rfl:x=V7 s a:=HS.out.trans HD.out.symm
  go_wp2_with fail
  go_ret2
  exact ⟨rfl,ZlD⟩
set_option maxRecDepth 512
theorem Zjk:(prog.info? 9).map (fun i=>(i.zero,i.size,i.bytes))=some (some (.string ⟨#[]⟩),1,16):=kr
theorem JN {W:World} (a:Value) (t:TypeId):∀j u,[a][j]? =some u→(W.alloc (.cells #[a] t)).cell? ((⟨W.heap.size,0,none⟩:Addr).add j)=some u:=
 fun j u hu=>World.news_of_block (heap_alloc_new W _) j u (by simpa using hu)
theorem Zkz {a b:ByteArray} (h:¬a=b):(a.toList==b.toList)=false:=by
 refine beq_eq_false_iff_ne.2 fun e=>h ?_
 rw [ByteArray.toList_eq,ByteArray.toList_eq] at e
 exact ByteArray.ext (Array.ext' e)
theorem Zic {s:Nat} (h:isW s):1≤s∧s≤8:=by rcases h with rfl|rfl|rfl|rfl<;>omega
theorem ZhN (u:ByteArray) (k:Nat) (h:k < u.size):u.data.toList.getD k 48=49↔u[k].toNat=49:=by
 rw [List.getD_eq_getElem?_getD,List.getElem?_eq_getElem (by rw [←ZK];exact h)]
 have e:u.data.toList[k]'(by rw [←ZK];exact h)=u[k]:=by simp [ByteArray.getElem_eq_getElem_data]
 rw [Option.getD_some,e]
 exact ⟨fun h=>by rw [h];rfl,fun h=>UInt8.toNat_inj.1 h⟩
set_option maxRecDepth 100000
set_option maxHeartbeats 8000000
theorem Zet (u:ByteArray) (w:World) (hb:Zc u=true):
  Calls prog 43 #[.string u] w fun e w'=>Below w.heap.size w w'∧∃v,e=.returned v∧SRow 9 w' w.heap.size v (Xu u):=by
 have hs:=Wo hb
 obtain ⟨i0,hi0,x0,x1,x2⟩:=info_parts Zjk
 have HB:=hid hb
 clear hb
 go_enter func43,ntmps43
 go_wp2_with (go_at_call 67;(with_reducible refine (Q5 u _ HB.out).mono ?_);rintro e w1 ⟨rfl,hb1⟩;have hz1:=hb1.size)
 go_loopg [3,4] 8 (fun gk v s' wr=>∃(s n:Nat) (L:List ByteArray),Hid (gk=s)∧s'=.int .i64 s∧(isW s∨s=0)∧Below w.heap.size w wr∧Hid (L=ZmY Yq u s)∧Hid (L.length=n)∧Hid (SRow 9 wr w.heap.size v L))
 case atStart=>exact ⟨8,0,[],hid rfl,rfl,.inl (.inl rfl),hb1,hid (Ziw _ _).symm,hid rfl,hid (SRow.nil _ _ _)⟩
 case round=>
  obtain ⟨s,n,L,HG,rfl,hW,hbr,HL,HN,HS⟩:=hrel
  rcases hW with hW|rfl
  ·obtain ⟨hs1,hs8⟩:=Zic hW
   have hd:decide ((1:Int)≤(s:Int))=true:=decide_eq_true om
   go_wp2_with fail
   have HW:=hid hW
   have hq:IntKind.i64.wrap ((s:Int).tdiv 2)=((s / 2:Nat):Int):=by rw [IntWalk.i64_quo _ _ ⟨om,om,om⟩];omega
   have HQ:=hid hq
   clear hW hq
   go_loopg [3,5] (u.size+1 - s) (fun gq v k' wq=>∃(k n:Nat) (L:List ByteArray),gq+k=u.size+1 - s∧k'=.int .i64 k∧Below w.heap.size w wq∧Hid (L=ZmY Yq u s++Qk Yq u s k)∧Hid (L.length=n)∧Hid (SRow 9 wq w.heap.size v L))
   case atStart=>exact ⟨0,n,L,om,rfl,hbr,hid (by rw [HL.out];simp [Qk]),HN,HS⟩
   case round=>
    obtain ⟨k,n2,L2,hk,rfl,hbq,HL2,HN2,HS2⟩:=hrel
    have hn2:n2≤4*u.size+k:=by have h1:=ZmZ (ch:=Yq) (u:=u) s;have h2:=Zcc Yq u s k;have h3:=HN2.out;rw [HL2.out,List.length_append] at h3;omega
    have wm:IntKind.i64.wrap ((k:Int)+(s:Int))=(k:Int)+(s:Int):=IntWalk.i64_in _ om
    by_cases hlt:k+s≤u.size
    ·have hzq:=hbq.size
     go_wp2_with (first
      | (go_at_call 68;(with_reducible refine (Zfr u k s _ HB.out hs1 hlt).mono ?_);rintro e w2 ⟨rfl,hb2⟩;have hz2:=hb2.size)
      | (at_builtin;refine wpList_append_lies _ rfl _ _ 91 rfl w.heap.size 9 i0 _ 1 16 underlying91 hi0 x0 x1 x2 rfl (by decide) _ n2 _ (by rfl) ((World.ownsRow.alloc (SRow.below HS2.out hb2 (Nat.le_refl _)) _) |> fun h=>SRow.at h HN2.out) ⟨w2.heap.size,0,none⟩ 1 1 [.string (Yq u k s)] (by rfl) rfl (JN _ _) (by simp [Value.oneCell']) (by decide) (by unfold maxLen;omega) om (by simp;omega) (w2.heap.size+1) sm ?_;intro g cap w4 hown hgrow hat hlt1))
     have hbw4:Below w.heap.size w w4:=hbq.trans ((hb2.mono hzq).trans (Below.grown ((Below.refl _ _).alloc om _) hgrow (by simp;omega) (fun q e=>(HS2.out.lt _ e).1)))
     go_roundg (gk - 1)
     case measure=>omega
     case rel=>exact ⟨k+1,n2+1,L2++[Yq u k s],om,by go_num,hbw4,hid (by rw [HL2.out,Za3,List.append_assoc]),hid (by rw [List.length_append,HN2.out];rfl),hid (SRow.put hown HN2.out)⟩
    have hkk:k=u.size+1 - s∨True:=.inr trivial
    have hnlt:u.size < k+s:=om
    have hq:=HQ.out
    go_wp2_with fail
    have hL:L2=ZmY Yq u (s / 2):=by
     have hkk:k=u.size+1 - s:=om
     rw [HL2.out,(Q4 HW.out).1,ZiN u s hs1,hkk]
    go_roundg (s / 2)
    case measure=>have:=HG.out;omega
    case rel=>exact ⟨s / 2,n2,L2,hid rfl,by first|rfl|go_num,(Q4 (ch:=Yq) (u:=u) HW.out).2,hbq,hid hL,HN2,HS2⟩
  have HL0:=hid (show L=YQ Yq u from HL.out.trans (Ziv _ _))
  have hn0:n≤4*u.size:=by have h1:=ZmX Yq u;have h3:=HN.out;rw [HL0.out] at h3;omega
  clear HL
  go_wp2_with fail
  go_loopg [3,8] 8 (fun gk v s' wr=>∃(s n:Nat) (L:List ByteArray),Hid (gk=s)∧s'=.int .i64 s∧(isW s∨s=0)∧Below w.heap.size w wr∧Hid (L=YQ Yq u++ZmY YU u s)∧Hid (L.length=n)∧Hid (SRow 9 wr w.heap.size v L))
  case atStart=>exact ⟨8,n,L,hid rfl,rfl,.inl (.inl rfl),hbr,hid (by rw [HL0.out,Ziw,List.append_nil]),HN,HS⟩
  case round=>
   obtain ⟨s,n,L,HG,rfl,hW,hbr,HL,HN,HS⟩:=hrel
   rcases hW with hW|rfl
   ·obtain ⟨hs1,hs8⟩:=Zic hW
    have hd:decide ((1:Int)≤(s:Int))=true:=decide_eq_true om
    go_wp2_with fail
    have HW:=hid hW
    have hq:IntKind.i64.wrap ((s:Int).tdiv 2)=((s / 2:Nat):Int):=by rw [IntWalk.i64_quo _ _ ⟨om,om,om⟩];omega
    have HQ:=hid hq
    clear hW hq
    go_loopg [3,9] (u.size+1 - s) (fun gq v k' wq=>∃(k n:Nat) (L:List ByteArray),gq+k=u.size+1 - s∧k'=.int .i64 k∧Below w.heap.size w wq∧Hid (L=(YQ Yq u++ZmY YU u s)++ZbV YU u s k)∧Hid (L.length=n)∧Hid (SRow 9 wq w.heap.size v L))
    case atStart=>exact ⟨0,n,L,om,rfl,hbr,hid (by rw [HL.out];simp [ZbV,Qk]),HN,HS⟩
    case round=>
     obtain ⟨k,n2,L2,hk,rfl,hbq,HL2,HN2,HS2⟩:=hrel
     have hn2:n2≤8*u.size+k:=by have h0:=ZmX Yq u;have h1:=ZmZ (ch:=YU) (u:=u) s;have h2:=Zhy YU u s k;have h3:=HN2.out;rw [HL2.out,List.length_append,List.length_append] at h3;omega
     have wm:IntKind.i64.wrap ((k:Int)+(s:Int))=(k:Int)+(s:Int):=IntWalk.i64_in _ om
     by_cases hlt:k+s≤u.size
     ·have hzq:=hbq.size
      by_cases hxu:YU u k s=u
      ·have q2:((YU u k s).toList==u.toList)=true:=by rw [hxu];exact beq_self_eq_true _
       have HX:=hid hxu
       clear hxu
       go_wp2_with (go_at_call 69;(with_reducible refine (Jq u k s _ HB.out hs1 hlt).mono ?_);rintro e w2 ⟨rfl,hb2⟩;have hz2:=hb2.size)
       go_roundg (gk - 1)
       case measure=>omega
       case rel=>exact ⟨k+1,n2,L2,om,by go_num,hbq.trans (hb2.mono hzq),hid (by rw [HL2.out,ZbW,if_pos HX.out,List.append_nil]),HN2,hid (SRow.below HS2.out hb2 (Nat.le_refl _))⟩
      have q2:((YU u k s).toList==u.toList)=false:=Zkz hxu
      have HX:=hid hxu
      clear hxu
      go_wp2_with (first
       | (go_at_call 69;(with_reducible refine (Jq u k s _ HB.out hs1 hlt).mono ?_);rintro e w2 ⟨rfl,hb2⟩;have hz2:=hb2.size)
       | (at_builtin;refine wpList_append_lies _ rfl _ _ 91 rfl w.heap.size 9 i0 _ 1 16 underlying91 hi0 x0 x1 x2 rfl (by decide) _ n2 _ (by rfl) ((World.ownsRow.alloc (SRow.below HS2.out hb2 (Nat.le_refl _)) _) |> fun h=>SRow.at h HN2.out) ⟨w2.heap.size,0,none⟩ 1 1 [.string (YU u k s)] (by rfl) rfl (JN _ _) (by simp [Value.oneCell']) (by decide) (by unfold maxLen;omega) om (by simp;omega) (w2.heap.size+1) sm ?_;intro g cap w4 hown hgrow hat hlt1))
      have hbw4:Below w.heap.size w w4:=hbq.trans ((hb2.mono hzq).trans (Below.grown ((Below.refl _ _).alloc om _) hgrow (by simp;omega) (fun q e=>(HS2.out.lt _ e).1)))
      go_roundg (gk - 1)
      case measure=>omega
      case rel=>exact ⟨k+1,n2+1,L2++[YU u k s],om,by go_num,hbw4,hid (by rw [HL2.out,ZbW,if_neg HX.out,List.append_assoc]),hid (by rw [List.length_append,HN2.out];rfl),hid (SRow.put hown HN2.out)⟩
     have hnlt:u.size < k+s:=om
     have hq:=HQ.out
     go_wp2_with fail
     have hL:L2=YQ Yq u++ZmY YU u (s / 2):=by
      have hkk:k=u.size+1 - s:=om
      rw [HL2.out,(Q4 HW.out).1,ZjJ,hkk,List.append_assoc]
     go_roundg (s / 2)
     case measure=>have:=HG.out;omega
     case rel=>exact ⟨s / 2,n2,L2,hid rfl,by first|rfl|go_num,(Q4 (ch:=YU) (u:=u) HW.out).2,hbq,hid hL,HN2,HS2⟩
   have HL1:=hid (show L=YQ Yq u++YQ YU u from HL.out.trans (by rw [Ziv]))
   clear HL
   go_wp2_with fail
   go_loopg [3,12] (u.size) (fun gq v k' wq=>∃(k n:Nat) (L:List ByteArray),gq+k=u.size∧k'=.int .i64 k∧Below w.heap.size w wq∧Hid (L=(YQ Yq u++YQ YU u)++Zad u k)∧Hid (L.length=n)∧Hid (SRow 9 wq w.heap.size v L))
   case atStart=>exact ⟨0,n,L,om,rfl,hbr,hid (by rw [HL1.out];simp [Zad]),HN,HS⟩
   case round=>
    obtain ⟨k,n2,L2,hk,rfl,hbq,HL2,HN2,HS2⟩:=hrel
    have hn2:n2≤8*u.size+k:=by have h0:=ZmX Yq u;have h1:=ZmX YU u;have h2:=Zco u k;have h3:=HN2.out;rw [HL2.out,List.length_append,List.length_append] at h3;omega
    by_cases hlt:k < u.size
    ·have hzq:=hbq.size
     by_cases h49:u.data.toList.getD k 48=49
     ·have hv:u[k].toNat=49:=(ZhN u k hlt).1 h49
      have H49:=hid h49
      clear h49
      go_wp2_with (first
       | (go_at_call 70;(with_reducible refine (Zef u k _ HB.out hlt H49.out).mono ?_);rintro e w2 ⟨rfl,hb2⟩;have hz2:=hb2.size)
       | (at_builtin;refine wpList_append_lies _ rfl _ _ 91 rfl w.heap.size 9 i0 _ 1 16 underlying91 hi0 x0 x1 x2 rfl (by decide) _ n2 _ (by rfl) ((World.ownsRow.alloc (SRow.below HS2.out hb2 (Nat.le_refl _)) _) |> fun h=>SRow.at h HN2.out) ⟨w2.heap.size,0,none⟩ 1 1 [.string (V7 u k)] (by rfl) rfl (JN _ _) (by simp [Value.oneCell']) (by decide) (by unfold maxLen;omega) om (by simp;omega) (w2.heap.size+1) sm ?_;intro g cap w4 hown hgrow hat hlt1))
      all_goals first|(exfalso;omega)|skip
      have hbw4:Below w.heap.size w w4:=hbq.trans ((hb2.mono hzq).trans (Below.grown ((Below.refl _ _).alloc om _) hgrow (by simp;omega) (fun q e=>(HS2.out.lt _ e).1)))
      go_roundg (gk - 1)
      case measure=>omega
      case rel=>exact ⟨k+1,n2+1,L2++[V7 u k],om,by go_num,hbw4,hid (by rw [HL2.out,Zbb,if_pos H49.out,List.append_assoc]),hid (by rw [List.length_append,HN2.out];rfl),hid (SRow.put hown HN2.out)⟩
     have hv:¬u[k].toNat=49:=fun e=>h49 ((ZhN u k hlt).2 e)
     have H49:=hid h49
     clear h49
     go_wp2_with fail
     all_goals first|(exfalso;omega)|skip
     go_roundg (gk - 1)
     case measure=>omega
     case rel=>exact ⟨k+1,n2,L2,om,by go_num,hbq,hid (by rw [HL2.out,Zbb,if_neg H49.out,List.append_nil]),HN2,HS2⟩
    have hkk:k=u.size:=om
    subst hkk
    go_wp2_with fail
    go_ret
    exact ⟨hbq,_,rfl,by have h:=HS2.out;rw [HL2.out,List.append_assoc,←Zgm] at h;exact h⟩
set_option maxRecDepth 512
structure ZiW where
 e:Int
 n:Nat
 s:Nat
 u:ByteArray
 v:GV
def Qd (w:ByteArray) (r:GR):ByteArray:=w.extract r.f.toNat r.t.toNat
def Zdw (t:GT) (p:GP) (w:ByteArray) (N:Nat):ZiW:=
 match (Yz w t p N 0).1.getLast?,(Yz w t p N 0).2==1 with
 | some r,true=>⟨1,(Yz w t p N 0).1.length,(YO t p 1024 (Qd w r) r.v 0).2.2,(YO t p 1024 (Qd w r) r.v 0).1,(YO t p 1024 (Qd w r) r.v 0).2.1⟩
 | _,_=>⟨(Yz w t p N 0).2,(Yz w t p N 0).1.length,0,ByteArray.empty,⟨0,0,[]⟩⟩
def Wj (t:GT) (p:GP) (u:ByteArray):Int:=
 if ZP t u≠0 then ZP t u else if (Zw p).2≠0 then (Zw p).2 else match Yf t p u with
 | some r=>if r.1=u then 0 else 1
 | none=>1
theorem J1 {t:GT} {p:GP} {u:ByteArray} (h:Wj t p u=0):ZP t u=0∧(Zw p).2=0∧∃v,Yf t p u=some (u,v):=by
 unfold Wj at h
 split at h
 ·omega
 rename_i h1
 split at h
 ·omega
 rename_i h2
 refine ⟨om,om,?_⟩
 split at h
 ·rename_i r hr
  split at h
  ·rename_i hu
   exact ⟨r.2,by rw [hr,←hu]⟩
  omega
 omega
theorem ZdP (s:ByteArray) (t:GT) (p:GP):∀(n a:Nat),(∀r∈((Yz s t p n a).1).dropLast,Zh p r.v=true)∧((Yz s t p n a).2≠1→∀r∈(Yz s t p n a).1,Zh p r.v=true) ∧
  ((Yz s t p n a).2=1→∃r,(Yz s t p n a).1.getLast? =some r∧∃f k:Nat,r.f=f∧r.t=(f+k:Nat)∧Vm (Vh s f) t=.ok r.v k∧Zh p r.v=false∧a≤f)
 | 0,a=>by simp [Yz]
 | n+1,a=>by
  rw [Yz]
  cases hr:Vm (Vh s a) t with
  | no k=>
   simp only []
   refine ⟨sm,sm,fun h=>?_⟩
   split at h<;>omega
  | ok v k=>
   simp only []
   by_cases hh:Zh p v=true
   ·rw [if_pos hh]
    obtain ⟨h1,h2,h3⟩:=ZdP s t p n (a+k)
    refine ⟨fun r hm=>?_,fun he r hm=>?_,fun he=>?_⟩
    ·cases hl:(Yz s t p n (a+k)).1 with
     | nil=>rw [hl] at hm;simp at hm
     | cons y ys=>
      rw [hl] at hm h1
      simp only [List.dropLast_cons_cons] at hm
      rcases List.mem_cons.1 hm with h|h
      ·rw [h];exact hh
      exact h1 r h
    ·rcases List.mem_cons.1 hm with h|h
     ·rw [h];exact hh
     exact h2 he r h
    obtain ⟨r,e1,f,j,e2,e3,e4,e5,e6⟩:=h3 he
    refine ⟨r,?_,f,j,e2,e3,e4,e5,om⟩
    simp only []
    rw [List.getLast?_cons,e1]
    rfl
   rw [if_neg hh]
   refine ⟨sm,fun h=>absurd rfl h,fun _=>⟨_,rfl,a,k,rfl,rfl,hr,by simpa using hh,Nat.le_refl _⟩⟩
theorem ZjD (s:ByteArray) (f k:Nat):Qv (Vh s f) k=s.extract f (f+k):=by
 refine ByteArray.ext (Array.ext' ?_)
 rw [VG,ZcX,Uv,List.drop_take]
 rw [show f+k - f=k by omega]
theorem ZhV {s:ByteArray} {t:GT} {p:GP} {N:Nat} (ox:okT t) (hE:ZP t s=0) (h:(Yz s t p N 0).2=1):
  ∃r,(Yz s t p N 0).1.getLast? =some r∧∃f k:Nat,r.f=f∧r.t=(f+k:Nat)∧f+k≤s.size∧Qd s r=s.extract f (f+k)∧Zc (Qd s r)=true∧Yf t p (Qd s r)=some (Qd s r,r.v)∧okV r.v:=by
 obtain ⟨r,e1,f,k,e2,e3,e4,e5, -⟩:=(ZdP s t p N 0).2.2 h
 have hb:Qd s r=s.extract f (f+k):=by
  unfold Qd
  rw [e2,e3]
  rfl
 have hf:f≤s.size:=by
  have hm:r∈(Yz s t p N 0).1:=List.mem_of_getLast? e1
  have:=(Zgl p hE ox N 0 (Nat.zero_le _) r hm).1.2
  omega
 have hre:=ZbQ hE f hf
 have hin:=Vy hre ox
 rw [e4] at hin
 have hk:k≤(Vh s f).size:=hin.2.1
 have hsz:=Q7 s f hf
 have hft:Yf t p (Vh s f)=some (Qv (Vh s f) k,r.v):=by
  unfold Yf
  rw [if_neg (by simp [hre]),e4]
  simp only []
  rw [if_neg (by simp [e5])]
 have hw:=Wp ox hft
 rw [ZjD] at hw
 exact ⟨r,e1,f,k,e2,e3,om,hb,by rw [hb];exact hw.2.1,by rw [hb];exact hw.2.2.2.2.1,hin.2.2⟩
def V0 (n:Int):GV:=⟨1,n,[]⟩
def Sx (t:GT) (p:GP) (u:ByteArray) (v:GV) (s:ByteArray) (y:GV) (n:Nat):Prop:=Wj t p u=0∧Yf t p u=some (u,v)∧YO t p 1024 u v 0=(s,y,n)
set_option maxRecDepth 1000000
theorem sx1:Sx (Yh 0 7) (YN 5) ⟨#[49,49,49]⟩ (V0 7) ⟨#[49,48,49]⟩ (V0 5) 1:=⟨by decide +kernel,kr,kr⟩
theorem sx2:Sx (Yh 0 7) (YN 5) ⟨#[49,48,49]⟩ (V0 5) ⟨#[49,48,49]⟩ (V0 5) 0:=⟨by decide +kernel,kr,kr⟩
set_option maxRecDepth 512
def YT:GT:=⟨6,noV,[],0,3,[],noP,[Yh 0 1]⟩
def Kb (n:Int):GP:=⟨11,noV,0,[YN n]⟩
set_option maxRecDepth 1000000
theorem sx3:Sx YT (Kb 2) ⟨#[49,49,49,49,49]⟩ ⟨4,0,[V0 1,V0 1,V0 1]⟩ ⟨#[49,48,48,48]⟩ ⟨4,0,[V0 0,V0 0]⟩ 1:=⟨by decide +kernel,kr,kr⟩
theorem se0:Wj (Yh 0 7) (YN 5) ⟨#[48,48,48]⟩=1:=by decide +kernel
set_option maxRecDepth 512
def Rx (t:GT) (p:GP) (w:ByteArray) (N:Nat) (r:ZiW):Prop:=VQ t p w N=0∧Zdw t p w N=r
set_option maxRecDepth 1000000
theorem rx1:Rx (Yh 0 7) (YN 5) ⟨#[48,48,48,49,49,49]⟩ 5 ⟨1,2,1,⟨#[49,48,49]⟩,V0 5⟩:=⟨by decide +kernel,kr⟩
theorem rx2:Rx (Yh 0 7) (YN 5) ⟨#[48,48,48,48,48,49]⟩ 5 ⟨3,2,0,⟨#[]⟩,noV⟩:=⟨by decide +kernel,kr⟩
end Go.Proofs.YtclphfojkggcpaaGreatDoor
