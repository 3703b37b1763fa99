/- Part 79. -/
import Derived.Test.YtkdffbdnjfgpeaaGreatY10
import Derived.Test.YtkdffbdnjfgpeaaGreatY73
set_option linter.all false
namespace Go.Proofs.YtkdffbdnjfgpeaaGreat
open Go.Lib (hid)
open Go Go.RowKit Go.Proofs.Tryz
set_option maxRecDepth 100000
set_option maxHeartbeats 1000000
theorem U1 (n:Nat) (w:World) (hn0:0 < n) (hn:n < 18446744073709551616):
  Calls prog 277 #[.int .u64 n] w fun e w'=>e=.returned (.int .i64 (Z7 n))∧Below w.heap.size w w':=by
 have hW:Z7 n=Qq (n - 1):=by rw [Z7,if_neg om]
 have hle:=J8 n hn
 have h1:max (n:Int) 1=(n:Int):=om
 have h2:IntKind.u64.wrap ((n:Int) - 1)=((n - 1:Nat):Int):=by rw [IntKind.wrap_u64];omega
 generalize Z7 n=q at *
 go_enter func277,ntmps277
 go_wp2_with fail
 go_loopg [3,4] (Qq (n - 1)+1) (fun gk a x wr=>∃(j m:Nat),gk=Qq m+1∧a=.int .i64 j∧x=.int .u64 m∧q=j+Qq m∧m < 18446744073709551616∧wr=w)
 case atStart=>exact ⟨0,n - 1,rfl,rfl,rfl,om,om,rfl⟩
 case round=>
  obtain ⟨j,m,rfl,rfl,rfl,h3,h4,rfl⟩:=hrel
  by_cases hm:m=0
  ·subst hm
   have h5:q=j:=by rw [h3,Zbv 0 om];rfl
   subst h5
   go_wp2_with fail
   go_ret
   exact ⟨rfl,ZtZ⟩
  have h5:=Zcx m hm
  have h6:IntKind.u64.wrap ((m:Int).tdiv 2)=((m / 2:Nat):Int):=by rw [IntWalk.u64_quo _ _ ⟨om,om,om⟩];omega
  have h7:decide ((0:Int) < (m:Int))=true:=by simp;omega
  go_wp2_with fail
  go_roundg (Qq (m / 2)+1)
  case measure=>omega
  case rel=>exact ⟨j+1,m / 2,rfl,by go_num,by go_num,om,om,rfl⟩
theorem Zeh (c:Nat) (s:ByteArray) (i n:Nat) (w:World) (hb:Zc s=true) (hi:i≤s.size) (hn:0 < n∧n < 18446744073709551616) (hl:Cur w c s i false):
  Calls prog 242 #[.pointer (some ⟨c,0,none⟩),.int .u64 n] w (ZdR c s (ZN s n i) w):=by
 have HL:=hid hl
 have HB:=hid hb
 have hcs:c < w.heap.size:=World.block_lt_of_cell? _ _ hl.1.1
 have hw:=J8 n hn.2
 obtain ⟨hn0,hn1⟩:=hn
 have hn2:((n:Int)==0)=false:=beq_eq_false_iff_ne.2 om
 clear hl hb
 generalize hR:ZN s n i=R
 have HR:=hid (show YX s n (Z7 n) (s.size+1 - i) i=R from hR)
 clear hR
 go_enter func242,ntmps242
 go_wp2_with fail
 go_loopg [4,5] (s.size+1 - i) (fun gk t4 t5 wr=>∃j f:Nat,gk=s.size+1 - j∧s.size+1 - j≤f∧i≤j∧j≤s.size∧t4=.int .u64 0∧t5=.bool false∧Hid (YX s n (Z7 n) f j=R)∧But c w.heap.size w wr∧Cur wr c s j false)
 case atStart=>exact ⟨i,_,rfl,Nat.le_refl _,Nat.le_refl _,hi,rfl,rfl,HR.out,ZxG,HL.out⟩
 case round=>
  obtain ⟨j,f,rfl,hjf,hj0,hj1,rfl,rfl,HF,hbt,hcur⟩:=hrel
  have HC:=hid hcur
  have hz:=hbt.size
  clear hcur
  obtain ⟨f,rfl⟩:∃g,f=g+1:=⟨f - 1,om⟩
  have hd:=HF.out
  rw [YX] at hd
  by_cases hsh:s.size < j+Z7 n
  ·rw [if_pos hsh] at hd
   have HD:=hid hd
   have HS:=hid hsh
   clear hd hsh
   go_wp2_with (first
    | (go_at_call 277;refine (U1 n _ hn0 hn1).mono ?_;rintro e w1 ⟨rfl,hb1⟩;have hz1:=hb1.size)
    | (go_at_call 276;refine (Qx c s j false (Z7 n) _ HB.out hw hj1 (by exact Zt3 (B:=wr.heap.size) ZtZ om HC.out)).mono ?_;rintro e w2 ⟨hb2,h7⟩;rw [if_neg (by have h9:=HS.out;simp;omega)] at h7;obtain ⟨rfl,hc2⟩:=h7;have HC2:=hid hc2;clear hc2))
   go_ret2
   rw [←HD.out]
   exact ⟨ZxG,rfl,HC2.out⟩
  rw [if_neg hsh] at hd
  have HS:=hid hsh
  by_cases hlt:YJ s j (Z7 n) < n
  ·rw [if_pos hlt] at hd
   have HD:=hid hd
   clear hd hsh
   go_wp2_with (first
    | (go_at_call 277;refine (U1 n _ hn0 hn1).mono ?_;rintro e w1 ⟨rfl,hb1⟩;have hz1:=hb1.size)
    | (go_at_call 276;refine (Qx c s j false (Z7 n) _ HB.out hw hj1 (by exact Zt3 (B:=wr.heap.size) ZtZ om HC.out)).mono ?_;rintro e w2 ⟨hb2,h7⟩;rw [if_pos (by have h9:=HS.out;simp;omega)] at h7;obtain ⟨rfl,hc2⟩:=h7;have HC2:=hid hc2;clear hc2))
   go_ret2
   rw [←HD.out]
   exact ⟨ZxG,rfl,HC2.out⟩
  rw [if_neg hlt] at hd
  have hq:1≤Z7 n:=by
   rcases Nat.eq_zero_or_pos (Z7 n) with h|h
   ·rw [h] at hlt;simp [YJ] at hlt;omega
   exact h
  have HD:=hid hd
  clear hd
  go_wp2_with (first
   | (go_at_call 277;refine (U1 n _ hn0 hn1).mono ?_;rintro e w1 ⟨rfl,hb1⟩;have hz1:=hb1.size)
   | (go_at_call 276;refine (Qx c s j false (Z7 n) _ HB.out hw hj1 (by exact Zt3 (B:=wr.heap.size) ZtZ om HC.out)).mono ?_;rintro e w2 ⟨hb2,h7⟩;rw [if_pos (by have h9:=HS.out;simp;omega)] at h7;obtain ⟨rfl,hc2⟩:=h7;have HC2:=hid hc2;clear hc2))
  go_roundg (s.size+1 - (j+Z7 n))
  case measure=>omega
  case rel=>exact ⟨j+Z7 n,f,rfl,om,om,om,rfl,rfl,HD.out,ZxG,HC2.out⟩
set_option maxRecDepth 512
theorem Yw (c:Nat) (s:ByteArray) (i m:Nat) (M:Int) (w:World) (hb:Zc s=true) (hi:i≤s.size) (hm:0 < m∧m < 18446744073709551616) (hM:M=m) (hl:Cur w c s i false):
  Calls prog 242 #[.pointer (some ⟨c,0,none⟩),.int .u64 M] w (ZdR c s (ZN s m i) w):=by
 subst hM;exact Zeh c s i m w hb hi hm hl
set_option maxRecDepth 100000
theorem ZbJ (l:List Int) (cp:Nat) (a:Option Addr) (A:Nat→Prop) (w:World) (he:Yc l=0) (hr:RIs w A l a):
  Calls prog 243 #[.slice a l.length cp] w fun e w'=>e=.returned (.int .i64 (Zj l))∧Below w.heap.size w w':=by
 obtain ⟨f1,f64,fw,f2,f3⟩:=Y0 he
 have HL:=hid hr
 have HW:=hid fw
 clear hr fw he
 generalize hS:Zj l=S at *
 have HS:=hid hS
 clear hS
 go_enter func243,ntmps243
 go_wp2_with fail
 go_loopg [3,4] (l.length) (fun gk v i wr=>∃j:Nat,gk+j=l.length∧i=.int .i64 j∧v=.int .i64 (Zj (l.take j))∧wr=w)
 case atStart=>exact ⟨0,om,rfl,by simp [Zj],rfl⟩
 case round=>
  obtain ⟨j,hj,rfl,rfl,rfl⟩:=hrel
  by_cases hlt:j < l.length
  ·obtain ⟨bb,o,rfl,hA,hbs,g0⟩:=HL.out.get j hlt
   obtain ⟨x1,x2⟩:=HW.out l[j] (List.getElem_mem hlt)
   have hst:=WR l j hlt
   obtain ⟨p1,p2⟩:=WX (l.take j) (fun y hy=>HW.out y (List.mem_of_mem_take hy))
   have hjl:(l.take j).length=j:=by simp;omega
   rw [hjl] at p2
   have HST:=hid hst
   clear hst hjl
   generalize hSj:Zj (l.take j)=Sj at *
   clear hSj
   have hwr:IntKind.i64.wrap (Sj+l[j])=Sj+l[j]:=IntWalk.i64_in _ om
   go_wp2_with fail
   go_roundg (gk - 1)
   case measure=>omega
   case rel=>exact ⟨j+1,om,by go_num,by rw [HST.out],rfl⟩
  have hjl:j=l.length:=om
  subst hjl
  go_wp2_with fail
  go_ret
  exact ⟨Zf (by rw [List.take_length];exact HS.out),ZtZ⟩
theorem Zei (l:List Int) (r:Int) (cp:Nat) (a:Option Addr) (A:Nat→Prop) (w:World) (he:Yc l=0) (hr0:0≤r) (hr1:r < Zj l) (hr:RIs w A l a):
  Calls prog 244 #[.slice a l.length cp,.int .i64 r] w fun e w'=>e=.returned (.tuple #[.int .i64 (Qu (Yy 0 l) r),.int .i64 0])∧Below w.heap.size w w':=by
 obtain ⟨f1,f64,fw,f2,f3⟩:=Y0 he
 have hp:=Vw 0 l
 have HL:=hid hr
 have HW:=hid fw
 have HE:=hid he
 have HR1:=hid hr1
 have h1:decide (r < 0)=false:=by simp;omega
 have h2:decide (Zj l≤r)=false:=by simp;omega
 have HSL:=hid (show Zj (l.take l.length)=Zj l by rw [List.take_length])
 generalize hP:Qu (Yy 0 l) r=P at *
 have HP:=hid hP
 clear hr fw he hP
 generalize hS:Zj l=S at *
 have HS:=hid hS
 clear hS
 go_enter func244,ntmps244
 go_wp2_with (go_at_call 243;refine (ZbJ l cp a A _ HE.out (by exact Zuc ar _ _ HL.out)).mono ?_;rw [HS.out];rintro e w1 ⟨rfl,hb1⟩;obtain ⟨hc1,hf1⟩:=Za hb1)
 go_loopg [6,7] (l.length) (fun gk v i wr=>∃j:Nat,gk+j=l.length∧i=.int .i64 j∧v=.int .i64 (Zj (l.take j))∧Hid (Zj (l.take j)≤r)∧Hid (∀k,k≤j→Zj (l.take k)≤r)∧w1=wr)
 case atStart=>exact ⟨0,om,rfl,by simp [Zj],hid (by simpa [Zj] using hr0),hid (fun k hk=>(by obtain rfl:k=0:=om;simpa [Zj] using hr0)),rfl⟩
 case round=>
  obtain ⟨j,hj,rfl,rfl,HLE,HALL,rfl⟩:=hrel
  by_cases hlt:j < l.length
  ·obtain ⟨bb,o,rfl,hA,hbs,g0⟩:=HL.out.get j hlt
   have hbs1:bb < w1.heap.size:=by have:=hb1.size;omega
   obtain ⟨x1,x2⟩:=HW.out l[j] (List.getElem_mem hlt)
   have hst:=WR l j hlt
   obtain ⟨p1,p2⟩:=WX (l.take j) (fun y hy=>HW.out y (List.mem_of_mem_take hy))
   have hjl:(l.take j).length=j:=by simp;omega
   rw [hjl] at p2
   have HST:=hid hst
   clear hst hjl
   generalize hSj:Zj (l.take j)=Sj at *
   clear hSj
   have hwr:IntKind.i64.wrap (Sj+l[j])=Sj+l[j]:=IntWalk.i64_in _ om
   by_cases hgt:r < Sj+l[j]
   ·have hpk:Qu (Yy 0 l) r=j:=Zbd _ _ _ om (fun k h hk=>by rw [VH _ _ _ h];have:=HALL.out (k+1) om;omega) (fun h=>by rw [VH _ _ _ h,HST.out];omega)
    have hd:decide (r < Sj+l[j])=true:=by simpa using hgt
    have HPK:=hid hpk
    clear hpk hgt
    go_wp2_with fail
    go_ret2
    exact ⟨YS (by rw [←HP.out,HPK.out]) rfl,ZtZ⟩
   have hd:decide (r < Sj+l[j])=false:=by simpa using hgt
   have HGT:=hid hgt
   clear hgt
   go_wp2_with fail
   go_roundg (gk - 1)
   case measure=>omega
   case rel=>exact ⟨j+1,om,by go_num,by rw [HST.out],hid (by rw [HST.out];have:=HGT.out;omega),hid (fun k hk=>by
    by_cases hkj:k=j+1
    ·rw [hkj,HST.out];have:=HGT.out;omega
    exact HALL.out k om),rfl⟩
  have hjl:j=l.length:=om
  subst hjl
  have:=HLE.out
  rw [HSL.out] at this
  have:=HR1.out
  omega
theorem Qy (l:List Int) (s:ByteArray) (i c cp:Nat) (a:Option Addr) (w:World) (hb:Zc s=true) (hi:i≤s.size) (he:Yc l=0) (hr:RIs w (fun k=>k≠c) l a) (hc:Cur w c s i false):
  Calls prog 187 #[.slice a l.length cp,.pointer (some ⟨c,0,none⟩)] w (Zdi c s (VS s l i) w):=by
 obtain ⟨h1,h64,hw,h2,h3⟩:=Y0 he
 have hcs:c < w.heap.size:=World.block_lt_of_cell? _ _ hc.1.1
 have hsu:((Zj l).toNat:Int)=Zj l:=om
 have HR:=hid hr
 have HC:=hid hc
 have HE:=hid he
 have HB:=hid hb
 have hdr:=Yk s (Zj l).toNat i hi
 generalize hS:(Zj l).toNat=S at *
 have hS0:0 < S∧S < 18446744073709551616:=om
 have HS:=hid hS
 have hcv:IntKind.u64.wrap (S:Int)=(S:Int):=by rw [IntKind.wrap_u64];omega
 clear hr hc he hb hw hS
 have HSU:=hid hsu.symm
 clear hsu
 have HSUM:=hid (fun W (h:RIs W (fun k=>k≠c) l a)=>(show Calls prog 243 #[.slice a l.length cp] W fun e w'=>e=.returned (.int .i64 S)∧Below W.heap.size W w' from by
  have:=ZbJ l cp a _ W HE.out h
  rw [HSU.out] at this
  exact this))
 unfold VS
 rw [HS.out]
 rcases hD:ZN s S i with ⟨_|v,j⟩
 ·have HD:=hid hD
  clear hD hdr
  go_enter func187,ntmps187
  go_wp2_with (first
   | (go_at_call 243;refine (HSUM.out _ (by exact Zuc ar _ _ HR.out)).mono ?_;rintro e w2 ⟨rfl,hb⟩;have hB2:Below w.heap.size w w2:=ZtX;clear hb;obtain ⟨hc2,hf2⟩:=Za hB2;have hz2:=hB2.size)
   | (go_at_call 242;refine (Yw c s i S _ _ HB.out hi hS0 om (by exact Zt3 hB2 hcs HC.out)).mono ?_;rw [HD.out];rintro e w3 ⟨hb3,rfl,hc3⟩;have HC3:=hid hc3;clear hc3))
  go_ret2
  exact ⟨ZxG,rfl,HC3.out⟩
 have HD:=hid hD
 rw [hD] at hdr
 have hv:=hdr.2.2 v rfl
 clear hD hdr
 have hv2:(v:Int) < Zj l:=by have:=HSU.out;omega
 have HV2:=hid hv2
 have hv3:v < 67108865:=om
 have hcv2:IntKind.i64.wrap (v:Int)=(v:Int):=IntWalk.i64_in _ om
 clear hv2
 go_enter func187,ntmps187
 go_wp2_with (first
  | (go_at_call 243;refine (HSUM.out _ (by exact Zuc ar _ _ HR.out)).mono ?_;rintro e w2 ⟨rfl,hb⟩;have hB2:Below w.heap.size w w2:=ZtX;clear hb;obtain ⟨hc2,hf2⟩:=Za hB2;have hz2:=hB2.size)
  | (go_at_call 242;refine (Yw c s i S _ _ HB.out hi hS0 om (by exact Zt3 hB2 hcs HC.out)).mono ?_;rw [HD.out];rintro e w3 ⟨hb3,rfl,hc3⟩;have HC3:=hid hc3;clear hc3;have hbb:But c w.heap.size w w3:=ZxG)
  | (go_at_call 244;refine (Zei l v cp a (fun k=>k≠c) _ HE.out om HV2.out (by exact Zuc (Zt0 hbb) _ _ HR.out)).mono ?_;rintro e w4 ⟨rfl,hb4⟩))
 go_ret2
 have hz3:=hbb.size
 exact ⟨ZxG,rfl,Zt3 hb4 om HC3.out⟩
set_option maxRecDepth 512
def ZkK (c:Nat) (s:ByteArray) (r:Res Int) (w:World):Ending→World→Prop:=fun e w'=>But c w.heap.size w w' ∧
 match r with
 | .ok n j=>e=.returned (.tuple #[.int .i64 n,.int .u8 1])∧Cur w' c s j false
 | .no k=>e=.returned (.tuple #[.int .i64 0,.int .u8 k])
set_option maxRecDepth 100000
theorem V2 (c:Nat) (s:ByteArray) (i:Nat) (lo hi:Int) (w:World) (hb:Zc s=true) (hi0:i≤s.size) (h1: -1099511627776≤lo) (h2:lo≤hi) (h3:hi≤1099511627776) (hl:Cur w c s i false):
  Calls prog 186 #[.pointer (some ⟨c,0,none⟩),.int .i64 lo,.int .i64 hi] w (ZkK c s (WK s lo hi i) w):=by
 have HC:=hid hl
 have HB:=hid hb
 have hcs:c < w.heap.size:=World.block_lt_of_cell? _ _ hl.1.1
 obtain ⟨m,hm⟩:∃m:Nat,hi - lo+1=(m:Int):=⟨(hi - lo+1).toNat,om⟩
 have hm0:0 < m∧m < 18446744073709551616:=om
 have hmt:(hi - lo+1).toNat=m:=om
 have hdr:=Yk s m i hi0
 have hP1:∀j,ZN s m i=(none,j)→WK s lo hi i=.no 2:=fun j h=>by unfold WK K8;rw [hmt,h];rfl
 have hP2:∀v j,ZN s m i=(some v,j)→WK s lo hi i=.ok (lo+(v:Int)) j:=fun v j h=>by unfold WK K8;rw [hmt,h];rfl
 generalize WK s lo hi i=R at *
 have HP1:=hid hP1
 have HP2:=hid hP2
 have HM:=hid hm
 have hcv:IntKind.u64.wrap (hi - lo+1)=hi - lo+1:=by rw [IntKind.wrap_u64];omega
 clear hl hb hP1 hP2 hmt hm
 rcases hD:ZN s m i with ⟨_|v,j⟩
 ·have HD:=hid hD
  clear hD hdr
  rw [HP1.out _ HD.out]
  go_enter func186,ntmps186
  go_wp2_with (go_at_call 242;refine (Yw c s i m _ _ HB.out hi0 hm0 (by have:=HM.out;omega) (by exact Zt3 (B:=w.heap.size) ZtZ hcs HC.out)).mono ?_;rw [HD.out];rintro e w3 ⟨hb3,rfl,hc3⟩)
  go_ret2
  exact ⟨ZxG,rfl⟩
 have HD:=hid hD
 rw [hD] at hdr
 have hv:=hdr.2.2 v rfl
 have hv2:lo+(v:Int)≤hi:=by have:=HM.out;omega
 have hv3:v < 9223372036854775807:=om
 have hcv2:IntKind.i64.wrap (v:Int)=(v:Int):=IntWalk.i64_in _ om
 clear hD hdr
 rw [HP2.out _ _ HD.out]
 go_enter func186,ntmps186
 go_wp2_with (go_at_call 242;refine (Yw c s i m _ _ HB.out hi0 hm0 (by have:=HM.out;omega) (by exact Zt3 (B:=w.heap.size) ZtZ hcs HC.out)).mono ?_;rw [HD.out];rintro e w3 ⟨hb3,rfl,hc3⟩;have HC3:=hid hc3;clear hc3)
 go_ret2
 exact ⟨ZxG,rfl,HC3.out⟩
theorem U2 (k:Int) (a:Option Addr) (n cp:Nat) (w:World):
  Calls prog 191 #[.int .u8 k,.slice a n cp,.int .u8 1] w fun e w'=>e=.returned (.tuple #[.agg #[.int .u8 k,.int .i64 0,.slice a n cp],.int .u8 1])∧Below w.heap.size w w':=by
 go_enter func191,ntmps191
 go_wp2_with fail
 refine bodyPost_ret (v:=(.tuple #[.agg #[.int .u8 k,.int .i64 0,.slice a n cp],.int .u8 1])) (by first|(simp [results,Tryz.f191,go_sem];done)|(simp [results,Tryz.f191,go_sem, *];done)) rfl ?_
 exact ⟨rfl,ZtZ⟩
theorem KE (k h:Int) (a:Option Addr) (n cp:Nat) (w:World) (hh:(h != 1)=true):
  Calls prog 191 #[.int .u8 k,.slice a n cp,.int .u8 h] w fun e w'=>e=.returned (.tuple #[.agg #[.int .u8 0,.int .i64 0,.slice none 0 0],.int .u8 h])∧Below w.heap.size w w':=by
 go_enter func191,ntmps191
 go_wp2_with fail
 refine bodyPost_ret (v:=(.tuple #[.agg #[.int .u8 0,.int .i64 0,.slice none 0 0],.int .u8 h])) (by first|(simp [results,Tryz.f191,go_sem];done)|(simp [results,Tryz.f191,go_sem, *];done)) rfl ?_
 exact ⟨rfl,ZtZ⟩
end Go.Proofs.YtkdffbdnjfgpeaaGreat
