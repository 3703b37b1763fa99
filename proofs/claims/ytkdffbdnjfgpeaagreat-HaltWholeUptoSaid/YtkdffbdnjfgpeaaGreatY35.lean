/- Part 36. -/
import Derived.Lib.Bytealg
import Derived.Lib.Repeat
import Derived.Test.YtkdffbdnjfgpeaaGreatY21
set_option linter.all false
namespace Go.Proofs.YtkdffbdnjfgpeaaGreat
open Go Go.RowKit
def VU:Nat→List UInt8→Nat
 | p,[]=>p
 | p,b::l=>VU (256*p+b.toNat) l
def Ka (u:ByteArray):Nat:=VU 1 u.data.toList
theorem Qp:∀(l r:List UInt8) (p:Nat),VU p (l++r)=VU (VU p l) r
 | [],r,p=>rfl
 | b::l,r,p=>Qp l r _
theorem Vd:∀(l:List UInt8) (p:Nat),p*256 ^ l.length≤VU p l∧VU p l < (p+1)*256 ^ l.length
 | [],p=>by simp [VU]
 | b::l,p=>by
  obtain ⟨h1,h2⟩:=Vd l (256*p+b.toNat)
  have hb:=b.toNat_lt
  rw [VU,List.length_cons,Nat.pow_succ]
  constructor
  ·refine Nat.le_trans ?_ h1
   rw [Nat.mul_comm (256 ^ l.length) 256,←Nat.mul_assoc]
   exact Nat.mul_le_mul_right _ om
  refine Nat.lt_of_lt_of_le h2 ?_
  rw [Nat.mul_comm (256 ^ l.length) 256,←Nat.mul_assoc]
  exact Nat.mul_le_mul_right _ om
theorem Zjl {l r:List UInt8} {p q:Nat} (h:p < q) (hl:l.length=r.length):VU p l < VU q r:=by
 have h1:=(Vd l p).2
 have h2:=(Vd r q).1
 rw [hl] at h1
 exact Nat.lt_of_lt_of_le h1 (Nat.le_trans (Nat.mul_le_mul_right _ h) h2)
theorem UU {l r:List UInt8} (h:l.length < r.length):VU 1 l < VU 1 r:=by
 have h1:=(Vd l 1).2
 have h2:=(Vd r 1).1
 have h3:256 ^ (l.length+1)≤256 ^ r.length:=Nat.pow_le_pow_right om h
 rw [Nat.pow_succ] at h3
 omega
theorem ZdY:∀{l r:List UInt8} {p q:Nat},l.length=r.length→VU p l=VU q r→p=q∧l=r
 | [],[],p,q,_,h=>⟨h,rfl⟩
 | a::l,b::r,p,q,hl,h=>by
  rw [VU,VU] at h
  obtain ⟨h1,h2⟩:=ZdY (by simpa using hl) h
  have ha:=a.toNat_lt
  have hb:=b.toNat_lt
  have h3:a.toNat=b.toNat:=om
  have h4:a=b:=UInt8.toNat_inj.1 h3
  exact ⟨om,by rw [h4,h2]⟩
theorem Zrl:∀(l r:List UInt8) (p:Nat),l.length=r.length→Lib.compareBytes l r=Vq (VU p l) (VU p r)
 | [],[],p,_=>by simp [Lib.compareBytes,Vq,VU]
 | a::l,b::r,p,h=>by
  have hl:l.length=r.length:=by simpa using h
  rw [Lib.compareBytes,VU,VU]
  by_cases h1:a < b
  ·have:=Zjl (p:=256*p+a.toNat) (q:=256*p+b.toNat) (by have:=UInt8.lt_iff_toNat_lt.1 h1;omega) hl
   rw [if_pos h1,Vq,if_pos om]
  rw [if_neg h1]
  by_cases h2:b < a
  ·have:=Zjl (p:=256*p+b.toNat) (q:=256*p+a.toNat) (by have:=UInt8.lt_iff_toNat_lt.1 h2;omega) hl.symm
   rw [if_pos h2,Vq,if_neg om,if_neg om]
  rw [if_neg h2]
  have:a.toNat=b.toNat:=by
   have h3:=mt UInt8.lt_iff_toNat_lt.2 h1
   have h4:=mt UInt8.lt_iff_toNat_lt.2 h2
   omega
  rw [this]
  exact Zrl l r _ hl
def Zry (a b:ByteArray):Int:=if a.size < b.size then -1 else if b.size < a.size then 1 else Lib.compareBytes a.data.toList b.data.toList
theorem ZK (a:ByteArray):a.size=a.data.toList.length:=by rw [Array.length_toList];rfl
theorem Zsi (a b:ByteArray):Zry a b=Vq (Ka a) (Ka b):=by
 unfold Zry Ka
 rw [ZK,ZK]
 split
 ·rename_i h
  have:=UU h
  rw [Vq,if_pos om]
 split
 ·rename_i h
  have:=UU h
  rw [Vq,if_neg om,if_neg om]
 exact Zrl _ _ _ om
theorem Zid {a b:ByteArray} (h:Ka a=Ka b):a=b:=by
 unfold Ka at h
 rcases Nat.lt_trichotomy a.data.toList.length b.data.toList.length with h1|h1|h1
 ·have:=UU h1;omega
 ·exact ByteArray.ext (Array.ext' (ZdY h1 h).2)
 have:=UU h1;omega
theorem Uv (u:ByteArray) (a b:Nat):(u.extract a b).data.toList=(u.data.toList.take b).drop a:=by
 rw [ByteArray.data_extract,Array.toList_extract,List.extract_eq_take_drop,List.drop_take]
def ZjK (l:List UInt8):Prop:=∀b∈l,b=48∨b=49
theorem YL {u:ByteArray}:Zc u=true↔u.size≤1024∧ZjK u.data.toList:=by
 unfold Zc ZaH ZjK
 rw [Bool.and_eq_true,Bool.not_not,List.all_eq_true,decide_eq_true_eq]
 refine and_congr_right fun _=>forall_congr' fun b=>forall_congr' fun _=>?_
 rw [Bool.or_eq_true,beq_iff_eq,beq_iff_eq]
 exact or_congr ⟨fun h=>UInt8.toNat_inj.1 h,fun h=>by rw [h];rfl⟩ ⟨fun h=>UInt8.toNat_inj.1 h,fun h=>by rw [h];rfl⟩
theorem Zdz {t:GT} {u:ByteArray} (h:(Z3 t).2=0) (hb:Zc u=true):ZP t u=0:=by
 unfold ZP
 rw [if_neg (by simp [h]),if_pos hb]
section
def W3 (s:ByteArray) (b:UInt8):ByteArray:=s++⟨#[b]⟩
theorem ZpQ (s:ByteArray) (b:UInt8):(W3 s b).data.toList=s.data.toList++[b]:=by
 unfold W3
 rw [VN]
theorem QP (s:ByteArray) (b:UInt8):(W3 s b).size=s.size+1:=by
 unfold W3
 rw [ByteArray.size_append]
 rfl
theorem Zpz {s:ByteArray} {b:UInt8} (h:Zc s=true) (hs:s.size < 1024) (hb:b=48∨b=49):Zc (W3 s b)=true:=by
 rw [YL] at h ⊢
 refine ⟨by rw [QP];omega,fun c hc=>?_⟩
 rw [ZpQ,List.mem_append] at hc
 rcases hc with hc|hc
 ·exact h.2 c hc
 rw [List.mem_singleton.1 hc];exact hb
def Zqm:Nat→ByteArray→List ByteArray
 | 0,s=>[s]
 | n+1,s=>(Zqm n s).flatMap fun x=>[W3 x 48,W3 x 49]
theorem ZpM:∀(n:Nat) (s:ByteArray),Zqm (n+1) s=Zqm n (W3 s 48)++Zqm n (W3 s 49)
 | 0,s=>by simp [Zqm]
 | n+1,s=>by
  rw [Zqm,ZpM n s,List.flatMap_append]
  rfl
theorem ZwS:∀(n:Nat) (s:ByteArray),(Zqm n s).length=2 ^ n
 | 0,s=>rfl
 | n+1,s=>by rw [ZpM,List.length_append,ZwS n,ZwS n,Nat.pow_succ];omega
theorem ZqZ (a b c:ByteArray):a++b++c=a++(b++c):=ByteArray.ext (Array.ext' (by rw [VN,VN,VN,VN,List.append_assoc]))
theorem Zpy:∀{n:Nat} {s x:ByteArray},x∈Zqm n s↔∃u:ByteArray,x=s++u∧u.size=n∧ZjK u.data.toList
 | 0,s,x=>by
  rw [Zqm,List.mem_singleton]
  constructor
  ·rintro rfl
   exact ⟨⟨#[]⟩,ByteArray.ext (Array.ext' (by rw [VN];simp)),rfl,fun b h=>by simp at h⟩
  rintro ⟨u,rfl,h, -⟩
  refine ByteArray.ext (Array.ext' ?_)
  rw [VN]
  have:u.data.toList=[]:=List.length_eq_zero_iff.1 (by rw [←ZK];exact h)
  rw [this,List.append_nil]
 | n+1,s,x=>by
  rw [ZpM,List.mem_append,Zpy,Zpy]
  constructor
  ·rintro (⟨u,rfl,h,hb⟩|⟨u,rfl,h,hb⟩)
   ·refine ⟨⟨#[48]⟩++u,ZqZ _ _ _,by rw [ByteArray.size_append,h];exact Nat.add_comm 1 n,fun b hm=>?_⟩
    rw [VN,List.mem_append] at hm
    rcases hm with hm|hm
    ·exact .inl (List.mem_singleton.1 hm)
    exact hb b hm
   refine ⟨⟨#[49]⟩++u,ZqZ _ _ _,by rw [ByteArray.size_append,h];exact Nat.add_comm 1 n,fun b hm=>?_⟩
   rw [VN,List.mem_append] at hm
   rcases hm with hm|hm
   ·exact .inr (List.mem_singleton.1 hm)
   exact hb b hm
  rintro ⟨u,rfl,h,hb⟩
  obtain ⟨c,r,hl⟩:∃c r,u.data.toList=c::r:=by
   cases hu:u.data.toList with
   | nil=>rw [ZK,hu] at h;simp at h
   | cons c r=>exact ⟨c,r,rfl⟩
  have hr:r.length=n:=by rw [ZK,hl] at h;simpa using h
  have he:∀b:UInt8,c=b→s++u=W3 s b++⟨r.toArray⟩:=fun b hc=>ByteArray.ext (Array.ext' (by rw [VN,VN,ZpQ,hl,hc];simp))
  have hz:(⟨r.toArray⟩:ByteArray).size=n:=by rw [ZK];simpa using hr
  have hbr:ZjK (⟨r.toArray⟩:ByteArray).data.toList:=fun b hm=>hb b (by rw [hl];exact List.mem_cons_of_mem _ (by simpa using hm))
  rcases hb c (by rw [hl];exact List.mem_cons_self ..) with hc|hc
  ·exact .inl ⟨_,he 48 hc,hz,hbr⟩
  exact .inr ⟨_,he 49 hc,hz,hbr⟩
theorem ZpC {n:Nat} {s x:ByteArray} (h:x∈Zqm n s):x.size=s.size+n:=by
 obtain ⟨u,rfl,h1, -⟩:=Zpy.1 h
 rw [ByteArray.size_append,h1]
theorem Zp8 {n:Nat} {s x:ByteArray} (hb:Zc s=true) (hs:s.size+n≤1024) (h:x∈Zqm n s):Zc x=true:=by
 have hz:=ZpC h
 obtain ⟨u,rfl,h1,h2⟩:=Zpy.1 h
 rw [YL] at hb ⊢
 refine ⟨om,fun b hm=>?_⟩
 rw [VN,List.mem_append] at hm
 rcases hm with hm|hm
 ·exact hb.2 b hm
 exact h2 b hm
section
variable {t:GT} (hT:(Z3 t).2=0) (ox:okT t)
include hT ox
theorem Zp7 {s:ByteArray} (hb:Zc s=true):(Vm s t).In okV 0 s.size:=Vy (Zdz hT hb) ox
theorem ZqL {s u:ByteArray} (hb:Zc (s++u)=true):Vm s t=.no 2∨Vm (s++u) t=Vm s t:=
 ZrC (ZrT s u) (Zdz hT (ZqR hb)) ox
end
theorem ZpA:Zc (⟨#[]⟩:ByteArray)=true:=by
 rw [YL]
 exact ⟨Nat.zero_le _,fun b h=>by simp at h⟩
def ZpO {α:Type}:Res α→Bool
 | .no k=>k==2
 | .ok _ _=>false
def W9 (t:GT) (φ:Res GV→Nat→Nat):Nat→ByteArray→Nat
 | 0,s=>φ (Vm s t) s.size
 | n+1,s=>if ZpO (Vm s t)=true then W9 t φ n (W3 s 48)+W9 t φ n (W3 s 49) else 2 ^ (n+1)*φ (Vm s t) (s.size+(n+1))
theorem ZxM {α:Type} (f:α→Nat) (c:Nat):∀l:List α,(∀x∈l,f x=c)→(l.map f).sum=l.length*c
 | [],_=>sm
 | x::l,h=>by
  rw [List.map_cons,List.sum_cons,h x (List.mem_cons_self ..),ZxM f c l fun y hy=>h y (List.mem_cons_of_mem _ hy),List.length_cons,Nat.succ_mul]
  omega
theorem ZxL {t:GT} (hT:(Z3 t).2=0) (ox:okT t) (φ:Res GV→Nat→Nat):∀(n:Nat) (s:ByteArray),Zc s=true→s.size+n≤1024→W9 t φ n s=((Zqm n s).map fun x=>φ (Vm x t) x.size).sum
 | 0,s,_,_=>by simp [W9,Zqm]
 | n+1,s,hb,hs=>by
  rw [W9]
  by_cases hm:ZpO (Vm s t)=true
  ·rw [if_pos hm,ZpM,List.map_append,List.sum_append,ZxL hT ox φ n _ (Zpz hb om (.inl rfl)) (by rw [QP];omega),ZxL hT ox φ n _ (Zpz hb om (.inr rfl)) (by rw [QP];omega)]
  rw [if_neg hm,ZxM (c:=φ (Vm s t) (s.size+(n+1))),ZwS]
  intro x hx
  have hz:=ZpC hx
  have hbx:=Zp8 hb om hx
  obtain ⟨u,rfl,h1,h2⟩:=Zpy.1 hx
  rw [hz]
  rcases ZqL hT ox hbx with h|h
  ·rw [h] at hm;exact absurd rfl hm
  rw [h]
def hL (t:GT):Nat→ByteArray→List (ByteArray×GV)
 | 0,s=>match Vm s t with
  | .ok v _=>[(s,v)]
  | .no _=>[]
 | n+1,s=>match Vm s t with
  | .ok v _=>[(s,v)]
  | .no k=>if k=2 then hL t n (W3 s 48)++hL t n (W3 s 49) else []
def Zrf (t:GT) (s:ByteArray):Prop:=∀v k,Vm s t=.ok v k→k=s.size
section
variable {t:GT} (hT:(Z3 t).2=0) (ox:okT t)
include hT ox
theorem ZpR:Zrf t ⟨#[]⟩:=fun v k h=>by
 have hin:(Vm ⟨#[]⟩ t).In okV 0 (⟨#[]⟩:ByteArray).size:=Vy (Zdz hT ZpA) ox
 rw [h] at hin
 have h1:k≤(⟨#[]⟩:ByteArray).size:=hin.2.1
 exact Nat.le_antisymm h1 (Nat.zero_le _)
theorem ZpF {s:ByteArray} {b:UInt8} (hb:Zc (W3 s b)=true) (hm:ZpO (Vm s t)=true):Zrf t (W3 s b):=fun v k h=>by
 have hin:=Zp7 hT ox hb
 rw [h] at hin
 have hk:=hin.2.1
 rw [QP] at hk ⊢
 by_cases h1:k=s.size+1
 ·exact h1
 exfalso
 have hw:=ZfW h (by rw [QP];exact hk)
 have hp:Qv (W3 s b) k=Qv s k:=ByteArray.ext (Array.ext' (by rw [VG,VG,ZpQ,List.take_append_of_le_length (by rw [←ZK];omega)]))
 rw [hp] at hw
 have hs:Qv s k++s.extract k s.size=s:=ByteArray.ext (Array.ext' (by rw [VN,VG,Uv,ZK,List.take_length,List.take_append_drop]))
 have:=ZqL hT ox (s:=Qv s k) (u:=s.extract k s.size) (by rw [hs];exact ZqR hb)
 rw [hs,hw] at this
 rcases this with h2|h2
 ·cases h2
 rw [h2] at hm;cases hm
theorem ZqP:∀(n:Nat) (s:ByteArray),Zc s=true→s.size+n≤1024→Zrf t s→∀(x:ByteArray) (v:GV),(x,v)∈hL t n s↔∃k,k≤n∧x∈Zqm k s∧Vm x t=.ok v x.size:=by
 intro n
 induction n with
 | zero=>
  intro s hb hs hm x v
  rw [hL]
  cases hr:Vm s t with
  | ok w k=>
   simp only [List.mem_singleton,Prod.mk.injEq]
   have hk:=hm w k hr
   constructor
   ·rintro ⟨rfl,rfl⟩;exact ⟨0,Nat.le_refl _,List.mem_singleton.2 rfl,by rw [hr,hk]⟩
   rintro ⟨k',hk',hx,hv⟩
   obtain rfl:k'=0:=om
   obtain rfl:=List.mem_singleton.1 hx
   rw [hr] at hv
   cases hv
   exact ⟨rfl,rfl⟩
  | no k=>
   simp only [List.not_mem_nil,false_iff]
   rintro ⟨k',hk',hx,hv⟩
   obtain rfl:k'=0:=om
   obtain rfl:=List.mem_singleton.1 hx
   rw [hr] at hv;cases hv
 | succ n ih=>
  intro s hb hs hm x v
  rw [hL]
  cases hr:Vm s t with
  | ok w k=>
   simp only [List.mem_singleton,Prod.mk.injEq]
   have hk:=hm w k hr
   constructor
   ·rintro ⟨rfl,rfl⟩;exact ⟨0,Nat.zero_le _,List.mem_singleton.2 rfl,by rw [hr,hk]⟩
   rintro ⟨k',hk',hx,hv⟩
   have hz:=ZpC hx
   have hbx:=Zp8 hb om hx
   obtain ⟨u,rfl,h1,h2⟩:=Zpy.1 hx
   rcases ZqL hT ox hbx with h|h
   ·rw [hr] at h;cases h
   rw [h,hr] at hv
   cases hv
   have hu:u.data.toList=[]:=List.length_eq_zero_iff.1 (by rw [←ZK];omega)
   exact ⟨ByteArray.ext (Array.ext' (by rw [VN,hu,List.append_nil])),rfl⟩
  | no k=>
   simp only []
   have hin:=Zp7 hT ox hb
   by_cases h2:k=2
   ·have hmr:ZpO (Vm s t)=true:=by rw [hr,h2];rfl
    have b0:=Zpz hb (b:=48) om (.inl rfl)
    have b1:=Zpz hb (b:=49) om (.inr rfl)
    rw [if_pos h2,List.mem_append,ih _ b0 (by rw [QP];omega) (ZpF hT ox b0 hmr),ih _ b1 (by rw [QP];omega) (ZpF hT ox b1 hmr)]
    constructor
    ·rintro (⟨k',hk',hx,hv⟩|⟨k',hk',hx,hv⟩)
     ·exact ⟨k'+1,om,by rw [ZpM];exact List.mem_append_left _ hx,hv⟩
     exact ⟨k'+1,om,by rw [ZpM];exact List.mem_append_right _ hx,hv⟩
    rintro ⟨k',hk',hx,hv⟩
    cases k' with
    | zero=>
     obtain rfl:=List.mem_singleton.1 hx
     rw [hr] at hv;cases hv
    | succ k'=>
     rw [ZpM,List.mem_append] at hx
     rcases hx with hx|hx
     ·exact .inl ⟨k',om,hx,hv⟩
     exact .inr ⟨k',om,hx,hv⟩
   rw [if_neg h2]
   simp only [List.not_mem_nil,false_iff]
   rintro ⟨k',hk',hx,hv⟩
   have hbx:=Zp8 hb om hx
   obtain ⟨u,rfl, -, -⟩:=Zpy.1 hx
   rcases ZqL hT ox hbx with h|h
   ·rw [hr] at h;cases h;exact h2 rfl
   rw [h,hr] at hv;cases hv
end
end
theorem Zq3 {α:Type} (f:α→Nat):∀l l':List α,l.Pairwise (fun a b=>f a < f b)→l'.Pairwise (fun a b=>f a < f b)→(∀x,x∈l↔x∈l')→l=l'
 | [],[],_,_,_=>rfl
 | [],y::_,_,_,h=>by have:=(h y).2 (List.mem_cons_self ..);cases this
 | x::_,[],_,_,h=>by have:=(h x).1 (List.mem_cons_self ..);cases this
 | x::l,y::l',h1,h2,h=>by
  obtain ⟨a1,a2⟩:=List.pairwise_cons.1 h1
  obtain ⟨b1,b2⟩:=List.pairwise_cons.1 h2
  have hxy:x=y:=by
   rcases List.mem_cons.1 ((h x).1 (List.mem_cons_self ..)) with e|e
   ·exact e
   rcases List.mem_cons.1 ((h y).2 (List.mem_cons_self ..)) with e'|e'
   ·exact e'.symm
   have:=b1 x e;have:=a1 y e';omega
  subst hxy
  refine congrArg (x:: ·) (Zq3 f l l' a2 b2 fun z=>⟨fun hz=>?_,fun hz=>?_⟩)
  ·rcases List.mem_cons.1 ((h z).1 (List.mem_cons_of_mem _ hz)) with e|e
   ·subst e;have:=a1 z hz;omega
   exact e
  rcases List.mem_cons.1 ((h z).2 (List.mem_cons_of_mem _ hz)) with e|e
  ·subst e;have:=b1 z hz;omega
  exact e
theorem Zqs (s u:ByteArray):Ka (s++u)=VU (Ka s) u.data.toList:=by
 unfold Ka
 rw [VN,Qp]
theorem Zss (s:ByteArray):Ka (W3 s 48) < Ka (W3 s 49):=by
 unfold W3
 rw [Zqs,Zqs]
 show VU (Ka s) [48] < VU (Ka s) [49]
 simp only [VU]
 have h0:(48:UInt8).toNat=48:=rfl
 have h1:(49:UInt8).toNat=49:=rfl
 omega
theorem Zqw:∀(n:Nat) (s:ByteArray),(Zqm n s).Pairwise (fun a b=>Ka a < Ka b)
 | 0,s=>List.pairwise_singleton _ _
 | n+1,s=>by
  rw [ZpM,List.pairwise_append]
  refine ⟨Zqw n _,Zqw n _,fun a ha b hb=>?_⟩
  obtain ⟨u,rfl,h1, -⟩:=Zpy.1 ha
  obtain ⟨v,rfl,h2, -⟩:=Zpy.1 hb
  rw [Zqs,Zqs]
  exact Zjl (Zss s) (by rw [←ZK,←ZK,h1,h2])
theorem Zst {a b:ByteArray} (h:a.size < b.size):Ka a < Ka b:=UU (by rw [←ZK,←ZK];exact h)
def Zsj (t:GT) (k:Nat) (l:List ByteArray):List (ByteArray×GV):=l.filterMap fun x=>match Vm x t with
 | .ok v j=>if j=k then some (x,v) else none
 | .no _=>none
def Zpv (t:GT) (n:Nat):List (ByteArray×GV):=(List.range (n+1)).flatMap fun k=>Zsj t k (Zqm k ⟨#[]⟩)
theorem Zql {t:GT} {k:Nat} {l:List ByteArray} {x:ByteArray} {v:GV}:(x,v)∈Zsj t k l↔x∈l∧Vm x t=.ok v k:=by
 unfold Zsj
 rw [List.mem_filterMap]
 constructor
 ·rintro ⟨a,ha,h⟩
  split at h
  ·rename_i w j hr
   split at h
   ·rename_i hj;cases h;subst hj;exact ⟨ha,hr⟩
   cases h
  cases h
 rintro ⟨h1,h2⟩
 exact ⟨x,h1,by rw [h2];simp⟩
theorem Zqv {t:GT} {n:Nat} {x:ByteArray} {v:GV}:(x,v)∈Zpv t n↔∃k,k≤n∧x∈Zqm k ⟨#[]⟩∧Vm x t=.ok v x.size:=by
 unfold Zpv
 rw [List.mem_flatMap]
 constructor
 ·rintro ⟨k,hk,h⟩
  obtain ⟨h1,h2⟩:=Zql.1 h
  have hz:=ZpC h1
  have h0:(⟨#[]⟩:ByteArray).size=0:=rfl
  exact ⟨k,by have:=List.mem_range.1 hk;omega,h1,by rw [h2];congr 1;omega⟩
 rintro ⟨k,hk,h1,h2⟩
 have hz:=ZpC h1
 have h0:(⟨#[]⟩:ByteArray).size=0:=rfl
 exact ⟨k,List.mem_range.2 om,Zql.2 ⟨h1,by rw [h2];congr 1;omega⟩⟩
theorem ZrY {t:GT} {k:Nat} {l:List ByteArray} (h:l.Pairwise (fun a b=>Ka a < Ka b)):(Zsj t k l).Pairwise (fun a b=>Ka a.1 < Ka b.1):=by
 unfold Zsj
 rw [List.pairwise_filterMap]
 refine h.imp fun {a b} hab=>?_
 intro p hp q hq
 have e1:p.1=a:=by
  split at hp
  ·split at hp
   ·cases hp;rfl
   cases hp
  cases hp
 have e2:q.1=b:=by
  split at hq
  ·split at hq
   ·cases hq;rfl
   cases hq
  cases hq
 rw [e1,e2]
 exact hab
theorem Zqf (t:GT) (n:Nat):(Zpv t n).Pairwise (fun a b=>Ka a.1 < Ka b.1):=by
 unfold Zpv
 rw [List.pairwise_flatMap]
 refine ⟨fun k _=>ZrY (Zqw k _),?_⟩
 refine List.pairwise_lt_range.imp fun {i j} hij=>?_
 intro p hp q hq
 obtain ⟨a,v⟩:=p
 obtain ⟨b,w⟩:=q
 have h1:=ZpC (Zql.1 hp).1
 have h2:=ZpC (Zql.1 hq).1
 exact Zst (by show a.size < b.size;omega)
theorem Zsm {t:GT} (hT:(Z3 t).2=0) (ox:okT t):∀(n:Nat) (s:ByteArray),Zc s=true→s.size+n≤1024→Zrf t s→(hL t n s).Pairwise (fun a b=>a.1≠b.1):=by
 intro n
 induction n with
 | zero=>
  intro s _ _ _
  rw [hL]
  cases Vm s t with
  | ok v k=>exact List.pairwise_singleton _ _
  | no k=>exact List.Pairwise.nil
 | succ n ih=>
  intro s hb hs hm
  rw [hL]
  cases hr:Vm s t with
  | ok v k=>exact List.pairwise_singleton _ _
  | no k=>
   simp only []
   by_cases h2:k=2
   ·have hmr:ZpO (Vm s t)=true:=by rw [hr,h2];rfl
    have b0:=Zpz hb (b:=48) om (.inl rfl)
    have b1:=Zpz hb (b:=49) om (.inr rfl)
    rw [if_pos h2,List.pairwise_append]
    refine ⟨ih _ b0 (by rw [QP];omega) (ZpF hT ox b0 hmr),ih _ b1 (by rw [QP];omega) (ZpF hT ox b1 hmr),?_⟩
    rintro ⟨x,v⟩ hx ⟨y,w⟩ hy
    obtain ⟨k1,hk1,e1, -⟩:=(ZqP hT ox n _ b0 (by rw [QP];omega) (ZpF hT ox b0 hmr) x v).1 hx
    obtain ⟨k2,hk2,e2, -⟩:=(ZqP hT ox n _ b1 (by rw [QP];omega) (ZpF hT ox b1 hmr) y w).1 hy
    obtain ⟨u1,rfl, -, -⟩:=Zpy.1 e1
    obtain ⟨u2,rfl, -, -⟩:=Zpy.1 e2
    intro he
    have hl:(W3 s 48++u1).data.toList=(W3 s 49++u2).data.toList:=congrArg (fun z:ByteArray=>z.data.toList) he
    rw [VN,VN,ZpQ,ZpQ,List.append_assoc,List.append_assoc] at hl
    have:=List.append_cancel_left hl
    simp at this
   rw [if_neg h2];exact List.Pairwise.nil
theorem Zr1 {t:GT} (hT:(Z3 t).2=0) (ox:okT t) {n:Nat} (hn:n≤1024) {l:List (ByteArray×GV)} (hp:l.Perm (hL t n ⟨#[]⟩)) (hs:l.Pairwise (fun a b=>Ka a.1≤Ka b.1)):l=Zpv t n:=by
 have h0:(⟨#[]⟩:ByteArray).size=0:=rfl
 have hb:=ZpA
 have ha:=Zsm hT ox n ⟨#[]⟩ hb om (ZpR hT ox)
 have ha':l.Pairwise (fun a b=>a.1≠b.1):=hp.symm.pairwise ha (fun h=>Ne.symm h)
 refine Zq3 (fun a=>Ka a.1) _ _ ?_ (Zqf t n) fun x=>?_
 ·refine (hs.and ha').imp fun {a b} h=>?_
  exact Nat.lt_of_le_of_ne h.1 fun e=>h.2 (Zid e)
 obtain ⟨x,v⟩:=x
 rw [hp.mem_iff,ZqP hT ox n _ hb om (ZpR hT ox),Zqv]
def ZpX:Res GV→Nat→Nat:=fun r _=>if ZpO r=true then 1 else 0
def Zp3:Res GV→Nat→Nat:=fun r _=>match r with
 | .ok _ _=>0
 | .no k=>if k=2 then 0 else 1
def Zp2:Res GV→Nat→Nat:=fun r n=>match r with
 | .ok _ k=>k
 | .no k=>if k=2 then n else 0
def Zqz (q:GV→Bool):Res GV→Nat→Nat:=fun r _=>match r with
 | .ok v _=>if q v=true then 1 else 0
 | .no _=>0
theorem ZxK (t:GT) (φ ψ:Res GV→Nat→Nat):∀(n:Nat) (s:ByteArray),W9 t (fun r m=>φ r m+ψ r m) n s=W9 t φ n s+W9 t ψ n s
 | 0,s=>rfl
 | n+1,s=>by
  rw [W9,W9,W9]
  split
  ·rw [ZxK t φ ψ n,ZxK t φ ψ n];omega
  rw [Nat.mul_add]
theorem Zp5 (t:GT):∀(n:Nat) (s:ByteArray),W9 t (fun _ _=>1) n s=2 ^ n
 | 0,s=>rfl
 | n+1,s=>by
  rw [W9]
  split
  ·rw [Zp5 t n,Zp5 t n,Nat.pow_succ];omega
  rw [Nat.mul_one]
theorem ZxP (r:Res GV) (m:Nat):Zqz (fun _=>true) r m+ZpX r m+Zp3 r m=1:=by
 cases r with
 | ok v k=>rfl
 | no k=>by_cases h:k=2<;>simp [Zqz,ZpX,Zp3,ZpO,h]
theorem ZxX (t:GT) (n:Nat) (s:ByteArray):W9 t (Zqz fun _=>true) n s+W9 t ZpX n s+W9 t Zp3 n s=2 ^ n:=by
 rw [←ZxK,←ZxK,←Zp5 t n s]
 congr 1
 funext r m
 exact ZxP r m
theorem Zqp (t:GT) (φ ψ:Res GV→Nat→Nat) (h:∀r m,φ r m≤ψ r m):∀(n:Nat) (s:ByteArray),W9 t φ n s≤W9 t ψ n s
 | 0,s=>h _ _
 | n+1,s=>by
  rw [W9,W9]
  split
  ·exact Nat.add_le_add (Zqp t φ ψ h n _) (Zqp t φ ψ h n _)
  exact Nat.mul_le_mul_left _ (h _ _)
def wQ (q:GV→Bool) (m:Nat) (l:List (ByteArray×GV)):Nat:=(l.map fun p=>if q p.2=true then 2 ^ (m - p.1.size) else 0).sum
theorem ZrE (q:GV→Bool) (m:Nat) (l l':List (ByteArray×GV)):wQ q m (l++l')=wQ q m l+wQ q m l':=by
 unfold wQ
 rw [List.map_append,List.sum_append]
theorem Ztc (t:GT) (q:GV→Bool):∀(n:Nat) (s:ByteArray),wQ q (s.size+n) (hL t n s)=W9 t (Zqz q) n s
 | 0,s=>by
  rw [hL,W9]
  cases Vm s t with
  | ok v k=>simp [wQ,Zqz]
  | no k=>rfl
 | n+1,s=>by
  rw [hL,W9]
  cases hr:Vm s t with
  | ok v k=>
   rw [if_neg (by simp [ZpO])]
   show wQ q (s.size+(n+1)) [(s,v)]=2 ^ (n+1)*(if q v=true then 1 else 0)
   unfold wQ
   simp only [List.map_cons,List.map_nil,List.sum_cons,List.sum_nil,Nat.add_zero,Nat.add_sub_cancel_left]
   split<;>simp
  | no k=>
   simp only []
   by_cases h2:k=2
   ·subst h2
    first|rw [if_pos rfl]|skip
    rw [if_pos (show ZpO (Res.no 2:Res GV)=true from rfl),ZrE,←Ztc t q n (W3 s 48),←Ztc t q n (W3 s 49),QP,QP,Nat.add_assoc,Nat.add_comm 1 n]
   rw [if_neg h2,if_neg (by simp [ZpO,h2])]
   simp [wQ,Zqz]
theorem ZtL {t:GT} (hT:(Z3 t).2=0) (ox:okT t) {n:Nat} (hn:n≤1024):(Zpv t n).Perm (hL t n ⟨#[]⟩):=by
 have h0:(⟨#[]⟩:ByteArray).size=0:=rfl
 have ha:=Zsm hT ox n ⟨#[]⟩ ZpA om (ZpR hT ox)
 refine (List.perm_ext_iff_of_nodup ((Zqf t n).imp fun {a b} h e=>?_) (ha.imp fun {a b} h e=>h (congrArg Prod.fst e))).2 fun x=>?_
 ·rw [e] at h;exact Nat.lt_irrefl _ h
 obtain ⟨x,v⟩:=x
 rw [ZqP hT ox n _ ZpA om (ZpR hT ox),Zqv]
theorem ZxQ (q:GV→Bool) (m:Nat) {l l':List (ByteArray×GV)} (h:l.Perm l'):wQ q m l=wQ q m l':=(h.map _).sum_nat
theorem Zx4 {t:GT} (hT:(Z3 t).2=0) (ox:okT t) (q:GV→Bool) {n:Nat} (hn:n≤1024):wQ q n (Zpv t n)=W9 t (Zqz q) n ⟨#[]⟩:=by
 rw [ZxQ q n (ZtL hT ox hn)]
 have:=Ztc t q n ⟨#[]⟩
 have h0:(⟨#[]⟩:ByteArray).size=0:=rfl
 rwa [h0,Nat.zero_add] at this
theorem ZxY {t:GT} (hT:(Z3 t).2=0) (ox:okT t) (φ ψ:Res GV→Nat→Nat) {n:Nat} (hn:n < 1024)
  (h:∀x,Zc x=true→x.size=n→φ (Vm x t) n=ψ (Vm (W3 x 48) t) (n+1)+ψ (Vm (W3 x 49) t) (n+1)):W9 t φ n ⟨#[]⟩=W9 t ψ (n+1) ⟨#[]⟩:=by
 have h0:(⟨#[]⟩:ByteArray).size=0:=rfl
 rw [ZxL hT ox φ n _ ZpA om,ZxL hT ox ψ (n+1) _ ZpA om,Zqm]
 have key:∀l:List ByteArray,(∀x∈l,Zc x=true∧x.size=n)→(l.map fun x=>φ (Vm x t) x.size).sum=((l.flatMap fun x=>[W3 x 48,W3 x 49]).map fun x=>ψ (Vm x t) x.size).sum:=by
  intro l
  induction l with
  | nil=>intro _;rfl
  | cons x l ih=>
   intro hl
   obtain ⟨h1,h2⟩:=hl x (List.mem_cons_self ..)
   rw [List.map_cons,List.sum_cons,ih fun y hy=>hl y (List.mem_cons_of_mem _ hy),List.flatMap_cons,List.map_append,List.sum_append,h2,h x h1 h2]
   simp only [List.map_cons,List.map_nil,List.sum_cons,List.sum_nil,QP,h2,Nat.add_zero]
 exact key _ fun x hx=>⟨Zp8 ZpA om hx,by have:=ZpC hx;omega⟩
section
theorem Zrd (q:GV→Bool) (m:Nat) (l:List (ByteArray×GV)) (j:Nat) (h:j < l.length):wQ q m (l.take (j+1))=wQ q m (l.take j)+(if q l[j].2=true then 2 ^ (m - l[j].1.size) else 0):=by
 rw [List.take_succ_eq_append_getElem h,ZrE]
 simp [wQ]
theorem ZrF (q:GV→Bool) (m:Nat) (l:List (ByteArray×GV)) (j:Nat):wQ q m (l.take j)≤wQ q m l:=by
 have:=ZrE q m (l.take j) (l.drop j)
 rw [List.take_append_drop] at this
 omega
section
variable {t:GT}
theorem Zsn (k:Nat) (s:ByteArray):W9 t ZpX k s≤2 ^ k:=by
 rw [←Zp5 t k s]
 exact Zqp t _ _ (fun r m=>by unfold ZpX;split<;>omega) k s
theorem Zso (k:Nat) (s:ByteArray):W9 t Zp3 k s≤2 ^ k:=by
 rw [←Zp5 t k s]
 exact Zqp t _ _ (fun r m=>by cases r with
  | ok=>exact Nat.zero_le _
  | no k=>show (if k=2 then 0 else 1)≤1;split<;>omega) k s
theorem ZqO:∀(k:Nat) (s:ByteArray),(hL t k s).length≤2 ^ k
 | 0,s=>by
  rw [hL]
  split<;>simp
 | k+1,s=>by
  have hp:2 ^ (k+1)=2*2 ^ k:=by rw [Nat.pow_succ];omega
  have h0:0 < 2 ^ k:=Nat.pos_of_ne_zero sm
  rw [hL]
  split
  ·simp;omega
  split
  ·have h1:=ZqO k (W3 s 48)
   have h2:=ZqO k (W3 s 49)
   rw [List.length_append]
   omega
  simp
end
section
variable {t:GT} (ht:(Z3 t).2=0) (ox:okT t)
include ht ox
theorem ZrO {s:ByteArray} (hb:Zc s=true) (m:Nat) (hm:m≤12) (hs:s.size≤12):Zp2 (Vm s t) m≤12:=by
 have h:=Zp7 ht ox hb
 rcases hW:Vm s t with ⟨x,u⟩|⟨k⟩
 ·rw [hW] at h
  exact Nat.le_trans h.2.1 hs
 show (if k=2 then m else 0)≤12
 split<;>omega
theorem Zq7:∀(k:Nat) (s:ByteArray),Zc s=true→s.size+k≤12→W9 t Zp2 k s≤12*2 ^ k
 | 0,s,hb,hs=>by
  rw [W9]
  have:=ZrO ht ox hb s.size om om
  simpa using this
 | k+1,s,hb,hs=>by
  rw [W9]
  have hp:2 ^ (k+1)=2*2 ^ k:=by rw [Nat.pow_succ];omega
  split
  ·have h1:=Zq7 k _ (Zpz hb om (.inl rfl)) (by rw [QP];omega)
   have h2:=Zq7 k _ (Zpz hb om (.inr rfl)) (by rw [QP];omega)
   omega
  have:=ZrO ht ox hb (s.size+(k+1)) om om
  rw [Nat.mul_comm 12]
  exact Nat.mul_le_mul_left _ this
end
end
def h3:List (ByteArray×GV):=[(⟨#[48,48]⟩,⟨1,0,[]⟩),(⟨#[48,49]⟩,⟨1,1,[]⟩),(⟨#[49,48]⟩,⟨1,2,[]⟩)]
def h6:List (ByteArray×GV):=h3++[(⟨#[49,49,48,48]⟩,⟨1,0,[]⟩),(⟨#[49,49,48,49]⟩,⟨1,1,[]⟩),(⟨#[49,49,49,48]⟩,⟨1,2,[]⟩)]
def h7:List (ByteArray×GV):=[(⟨#[]⟩,⟨1,7,[]⟩)]
theorem eh3:Zpv (Yh 0 2) 3=h3:=kr
theorem eh6:Zpv (Yh 0 2) 4=h6:=kr
theorem eh7:Zpv (ZpB 7) 0=h7:=kr
theorem ehs:(Z3 (Yh 0 2)).2=0:=by decide +kernel
theorem ehn:(Z3 (ZpB 7)).2=0:=by decide +kernel
theorem er1:Zpw (W9 (Yh 0 2) (Zqz fun y=>XX y ⟨1,0,[]⟩) 2 ⟨#[]⟩) (2 ^ 2)=(1,4):=kr
theorem er2:Zpw (W9 (Yh 0 2) ZpX 2 ⟨#[]⟩) (2 ^ 2)=(1,4):=kr
theorem er3:Zpw (W9 (Yh 0 2) Zp3 2 ⟨#[]⟩) (2 ^ 2)=(0,1):=kr
theorem er4:Zpw (W9 (Yh 0 2) Zp2 2 ⟨#[]⟩) (2 ^ 2)=(2,1):=kr
theorem es1:Zpw (W9 (Yh 0 2) (Zqz fun y=>XX y ⟨1,0,[]⟩) 4 ⟨#[]⟩) (2 ^ 4)=(5,16):=kr
theorem es2:Zpw (W9 (Yh 0 2) ZpX 4 ⟨#[]⟩) (2 ^ 4)=(1,16):=kr
theorem es3:Zpw (W9 (Yh 0 2) Zp3 4 ⟨#[]⟩) (2 ^ 4)=(0,1):=kr
theorem es4:Zpw (W9 (Yh 0 2) Zp2 4 ⟨#[]⟩) (2 ^ 4)=(5,2):=kr
theorem en1:Zpw (W9 (ZpB 7) (Zqz fun y=>XX y ⟨1,7,[]⟩) 0 ⟨#[]⟩) (2 ^ 0)=(1,1):=kr
theorem en2:Zpw (W9 (ZpB 7) ZpX 0 ⟨#[]⟩) (2 ^ 0)=(0,1):=kr
theorem en3:Zpw (W9 (ZpB 7) Zp3 0 ⟨#[]⟩) (2 ^ 0)=(0,1):=kr
theorem en4:Zpw (W9 (ZpB 7) Zp2 0 ⟨#[]⟩) (2 ^ 0)=(0,1):=kr
section
section
variable {t:GT} (hT:(Z3 t).2=0) (ox:okT t)
include hT ox
theorem Zqk {n:Nat} (hn:n≤1024):∀p∈Zpv t n,Zc p.1=true∧p.1.size≤n∧Vm p.1 t=.ok p.2 p.1.size∧okV p.2:=by
 rintro ⟨x,v⟩ hp
 obtain ⟨k,hk,h1,h2⟩:=Zqv.1 hp
 have hz:=ZpC h1
 have h0:(⟨#[]⟩:ByteArray).size=0:=rfl
 have hb:=Zp8 ZpA om h1
 have hin:=Zp7 hT ox hb
 rw [h2] at hin
 exact ⟨hb,by show x.size≤n;omega,h2,hin.2.2⟩
end
section
variable {t:GT} (hT:(Z3 t).2=0) (ox:okT t)
include hT ox
end
end
end Go.Proofs.YtkdffbdnjfgpeaaGreat
