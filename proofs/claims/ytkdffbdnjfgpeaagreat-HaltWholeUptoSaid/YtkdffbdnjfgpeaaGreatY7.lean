/- Part 8. -/
import Derived.IntWalk
import Derived.Laws.Bits64b
import Derived.Laws.Strings
import Derived.Laws.Strings2
import Derived.Laws.Strings3
import Derived.Scope
import Derived.ScopeJumps
import Derived.WalkMore
import Derived.Test.YtkdffbdnjfgpeaaGreatY2
import Derived.Test.YtkdffbdnjfgpeaaGreatY6
set_option linter.all false
namespace Go.Proofs.YtkdffbdnjfgpeaaGreat
open Go.Lib (hid)
open Go Go.RowKit Go.Proofs.Tryz
def ZaH (s:ByteArray):Bool:= !(s.data.toList.all fun b=>b.toNat==48||b.toNat==49)
def Zc (s:ByteArray):Bool:=decide (s.size≤1024)&& !ZaH s
theorem K5 (s:ByteArray) (i:Nat) (h:i < s.size):s[i]=s.data.toList[i]'(by simpa using h):=by
 simp [ByteArray.getElem_eq_getElem_data]
theorem Kz (s:ByteArray) (h:∀i (hi:i < s.size),s[i].toNat=48∨s[i].toNat=49):ZaH s=false:=by
 simp only [ZaH,Bool.not_eq_false',List.all_eq_true,Bool.or_eq_true,beq_iff_eq]
 intro b hb
 obtain ⟨i,hi,rfl⟩:=List.getElem_of_mem hb
 have:=h i (by simpa using hi)
 rwa [K5] at this
theorem JW (s:ByteArray) (i:Nat) (hi:i < s.size) (h:¬s[i].toNat=48) (h2:¬s[i].toNat=49):ZaH s=true:=by
 simp only [ZaH,Bool.not_eq_true',List.all_eq_false]
 refine ⟨s[i],by rw [K5 s i hi];exact List.getElem_mem _,?_⟩
 simp [h,h2]
set_option maxRecDepth 100000
theorem Zjq (s:ByteArray) (w:World) (hs:s.size≤9223372036854775807):
  Calls prog 141 #[.string s] w fun e w'=>e=.returned (.bool (ZaH s))∧Below w.heap.size w w':=by
 generalize hF:ZaH s=F
 have HF:=hid hF
 clear hF
 go_enter func141,ntmps141
 go_wp2_with fail
 go_loopg [6] (s.size) (fun gk i wr=>∃j:Nat,gk+j=s.size∧i=.int .i64 j∧Hid (∀q (hq:q < s.size),q < j→s[q].toNat=48∨s[q].toNat=49)∧wr=w)
 case atStart=>exact ⟨0,om,rfl,fun q _ hq=>absurd hq om,rfl⟩
 case round=>
  obtain ⟨j,hj,rfl,HZ,rfl⟩:=hrel
  by_cases hlt:j < s.size
  ·go_wp2_with fail
   ·go_roundg (gk - 1)
    case measure=>omega
    case rel=>exact ⟨j+1,om,by go_num,fun q hq hj'=>(by
     by_cases hqj:q=j
     ·subst hqj;exact .inl om
     exact HZ.out q hq om),rfl⟩
   ·have h1:¬s[j].toNat=48:=om
    have h2:¬s[j].toNat=49:=by
     have h3:=‹(_ != _)=true∧(_ != _)=true›.2
     simp at h3;omega
    go_ret
    exact ⟨XA (by rw [←HF.out,JW s j hlt h1 h2]),ZtX⟩
   have h2:s[j].toNat=49:=by
    have h3:=‹(_ != _)=false∨(_ != _)=false›
    simp at h3;omega
   go_roundg (gk - 1)
   case measure=>omega
   case rel=>exact ⟨j+1,om,by go_num,fun q hq hj'=>(by
    by_cases hqj:q=j
    ·subst hqj;exact .inr h2
    exact HZ.out q hq om),rfl⟩
  go_wp2_with fail
  go_ret
  exact ⟨XA (by rw [←HF.out,Kz s fun q hq=>HZ.out q hq om]),ZtX⟩
theorem UT (s:ByteArray) (w:World) (hs:s.size≤9223372036854775807):
  Calls prog 91 #[.string s] w fun e w'=>e=.returned (.bool (Zc s))∧Below w.heap.size w w':=by
 generalize hF:Zc s=F
 have HF:=hid hF
 clear hF
 go_enter func91,ntmps91
 go_wp2_with (go_at_call 141;refine (Zjq s _ hs).mono ?_;rintro e w1 ⟨rfl,hb⟩;have hB1:=hb;clear hb;obtain ⟨hc1,hf1⟩:=Za hB1)
 all_goals go_ret
 all_goals refine ⟨XA ?_,ZtX⟩
 all_goals rw [←HF.out]
 all_goals unfold Zc
 all_goals (first|(simp [show s.size≤1024 by omega];done)|(simp [show ¬s.size≤1024 by omega];done))
set_option maxRecDepth 512
def Cur (w:World) (c:Nat) (s:ByteArray) (i:Nat) (o:Bool):Prop:=
 (w.cell? ⟨c,0,none⟩=some (.string s)∧w.cell? ⟨c,1,none⟩=some (.int .i64 i)∧w.cell? ⟨c,2,none⟩=some (.bool o)) ∧
 (w.frozen? ⟨c,0,none⟩=false∧w.frozen? ⟨c,1,none⟩=false∧w.frozen? ⟨c,2,none⟩=false)
def Zgb (s:ByteArray) (w:World):Ending→World→Prop:=fun e w'=>Below w.heap.size w w' ∧
 ((Zc s=true∧∃c,w.heap.size≤c∧c < w'.heap.size∧e=.returned (.tuple #[.pointer (some ⟨c,0,none⟩),.int .i64 0])∧Cur w' c s 0 false) ∨
  (Zc s=false∧e=.returned (.tuple #[.pointer none,.int .i64 3])))
theorem Ks (s:ByteArray) (w:World) (hs:s.size≤9223372036854775807):
  Calls prog 61 #[.string s] w (Zgb s w):=by
 cases hF:Zc s
 ·have HF:=hid hF
  clear hF
  go_enter func61,ntmps61
  go_wp2_with (go_at_call 91;refine (UT s _ hs).mono ?_;rw [HF.out];rintro e w1 ⟨rfl,hb1⟩;obtain ⟨hc1,hf1⟩:=Za hb1)
  go_ret2
  exact ⟨ZtX,.inr ⟨HF.out,rfl⟩⟩
 have HF:=hid hF
 clear hF
 go_enter func61,ntmps61
 go_wp2_with (go_at_call 91;refine (UT s _ hs).mono ?_;rw [HF.out];rintro e w1 ⟨rfl,hb1⟩;obtain ⟨hc1,hf1⟩:=Za hb1;have hz1:=hb1.size)
 go_ret2
 exact ⟨ZtX,.inl ⟨HF.out,_,hz1,sm,rfl,⟨gs,gs,gs⟩,gs,gs,gs⟩⟩
theorem X1 (c:Nat) (s:ByteArray) (i:Nat) (o:Bool) (w:World) (hl:Cur w c s i o):
  Calls prog 92 #[.pointer (some ⟨c,0,none⟩)] w fun e w'=>e=.returned (.int .i64 i)∧Below w.heap.size w w':=by
 obtain ⟨⟨c0,c1,c2⟩,f0,f1,f2⟩:=hl
 go_enter func92,ntmps92
 go_wp2_with fail
 go_ret
 exact ⟨rfl,ZtX⟩
set_option maxRecDepth 100000
theorem ZdN (c:Nat) (s:ByteArray) (i:Nat) (o:Bool) (w:World) (hi:i≤s.size) (hs:s.size≤9223372036854775807) (hl:Cur w c s i o):
  Calls prog 292 #[.pointer (some ⟨c,0,none⟩)] w fun e w'=>e=.returned (.string (s.extract i s.size))∧Below w.heap.size w w':=by
 obtain ⟨⟨c0,c1,c2⟩,f0,f1,f2⟩:=hl
 go_enter func292,ntmps292
 go_wp2_with fail
 refine Z0 8 kr kr ?_
 simp only [List.take_succ_cons,List.take_zero,List.drop_succ_cons,List.drop_zero]
 repeat still_step
 refine wpStill_nil ?_
 go_wp2_with fail
 go_ret
 exact ⟨rfl,ZtX⟩
theorem Zaa (c:Nat) (s:ByteArray) (i:Nat) (o:Bool) (w:World) (hi:i≤s.size) (hs:s.size≤9223372036854775807) (hl:Cur w c s i o):
  Calls prog 284 #[.pointer (some ⟨c,0,none⟩)] w fun e w'=>e=.returned (.int .i64 ((s.size - i:Nat):Int))∧Below w.heap.size w w':=by
 have HL:=hid hl
 have hsz:(s.extract i s.size).size=s.size - i:=sm
 have HSZ:=hid hsz
 clear hl hsz
 generalize hX:s.extract i s.size=X at *
 go_enter func284,ntmps284
 go_wp2_with (go_at_call 292;refine (ZdN c s i o _ hi hs (by exact HL.out)).mono ?_;rw [hX];rintro e w1 ⟨rfl,hb1⟩)
 go_ret
 exact ⟨Zf (by rw [HSZ.out]),ZtX⟩
set_option maxRecDepth 512
def YJ (s:ByteArray) (i:Nat):Nat→Nat
 | 0=>0
 | j+1=>2*YJ s i j+((s.data.toList.getD (i+j) 48).toNat - 48)
theorem ZbT (s:ByteArray) (i:Nat) (hb:Zc s=true):∀j,YJ s i j < 2 ^ j
 | 0=>by simp [YJ]
 | j+1=>by
  have h:=ZbT s i hb j
  have hd:(s.data.toList.getD (i+j) 48).toNat - 48≤1:=by
   simp only [Zc,Bool.and_eq_true,Bool.not_eq_true',ZaH,Bool.not_eq_false',List.all_eq_true,Bool.or_eq_true,beq_iff_eq] at hb
   rcases Nat.lt_or_ge (i+j) s.data.toList.length with hl|hl
   ·simp only [List.getD_eq_getElem?_getD,List.getElem?_eq_getElem hl,Option.getD_some]
    have:=hb.2 _ (List.getElem_mem hl)
    omega
   simp only [List.getD_eq_getElem?_getD,List.getElem?_eq_none hl,Option.getD_none];decide
  rw [YJ,Nat.pow_succ]
  omega
theorem Zcw (s:ByteArray) (hb:Zc s=true) (i:Nat) (h:i < s.size):s[i].toNat=48∨s[i].toNat=49:=by
 simp only [Zc,Bool.and_eq_true,Bool.not_eq_true',ZaH,Bool.not_eq_false',List.all_eq_true,Bool.or_eq_true,beq_iff_eq] at hb
 rw [K5 s i h]
 exact hb.2 _ (List.getElem_mem _)
theorem Zht (s:ByteArray) (hb:Zc s=true) (i j:Nat) (hj:j < 64) (h:i+j < s.size):
  bits BinOp.or IntKind.u64 (IntKind.u64.wrap ((YJ s i j:Int)*2)) (IntKind.u64.wrap (((s[i+j].toNat:Int) - 48) % 256))=(YJ s i (j+1):Int):=by
 have h1:=ZbT s i hb j
 have h2:2 ^ j≤2 ^ 63:=Nat.pow_le_pow_right om om
 have h3:=Zcw s hb (i+j) h
 have h4:(s.data.toList.getD (i+j) 48)=s[i+j]:=by
  rw [K5 s (i+j) h]
  simp only [List.getD_eq_getElem?_getD,List.getElem?_eq_getElem (show i+j < s.data.toList.length by simpa using h),Option.getD_some]
 rw [YJ,h4]
 have h5:IntKind.u64.wrap ((YJ s i j:Int)*2)=((2*YJ s i j:Nat):Int):=by rw [IntKind.wrap_u64];omega
 have h6:IntKind.u64.wrap (((s[i+j].toNat:Int) - 48) % 256)=((s[i+j].toNat - 48:Nat):Int):=by rw [IntKind.wrap_u64];omega
 rw [h5,h6,bits_or_u64_nat _ _ om om]
 have h7:=Nat.two_pow_add_eq_or_of_lt (i:=1) (b:=s[i+j].toNat - 48) om (YJ s i j)
 simp only [Nat.pow_one] at h7
 rw [h7]
def Zge (c:Nat) (s:ByteArray) (i k:Nat) (o:Bool) (w:World):Ending→World→Prop:=fun e w'=>But c w.heap.size w w' ∧
 if o=false∧i+k≤s.size then e=.returned (.tuple #[.int .u64 (YJ s i k),.bool true])∧Cur w' c s (i+k) false
 else e=.returned (.tuple #[.int .u64 0,.bool false])∧Cur w' c s i true
set_option maxRecDepth 100000
set_option maxHeartbeats 1000000
theorem Qn (c:Nat) (s:ByteArray) (i:Nat) (o:Bool) (k:Nat) (w:World) (hb:Zc s=true) (hk:k≤64) (hi:i≤s.size) (hl:Cur w c s i o):
  Calls prog 262 #[.pointer (some ⟨c,0,none⟩),.int .i64 k] w (Zge c s i k o w):=by
 have HL:=hid hl
 have HB:=hid hb
 have hs:s.size≤1024:=by simp [Zc] at hb;exact hb.1
 clear hb
 obtain ⟨⟨c0,c1,c2⟩,f0,f1,f2⟩:=hl
 have hcs:c < w.heap.size:=World.block_lt_of_cell? _ _ c0
 unfold Zge
 cases o
 case true=>
  simp only [show ¬(true=false∧i+k≤s.size) by simp,if_false]
  go_enter func262,ntmps262
  go_wp2_with fail
  go_ret2
  exact ⟨Zt1,rfl,HL.out⟩
 by_cases hik:i+k≤s.size
 case neg=>
  simp only [show ¬(false=false∧i+k≤s.size) by simp;omega,if_false]
  go_enter func262,ntmps262
  go_wp2_with (go_at_call 284;refine (Zaa c s i false _ hi om (by exact HL.out)).mono ?_;rintro e w1 ⟨rfl,hb1⟩;obtain ⟨hc1,hf1⟩:=Za hb1)
  go_ret2
  exact ⟨Zt1,rfl,⟨gs,gs,gs⟩,gs,gs,gs⟩
 simp only [show (false=false∧i+k≤s.size) from ⟨rfl,hik⟩,if_true,and_self]
 have hnl:¬s.size - i < k:=om
 go_enter func262,ntmps262
 go_wp2_with (go_at_call 284;refine (Zaa c s i false _ hi om (by exact HL.out)).mono ?_;rintro e w1 ⟨rfl,hb1⟩;obtain ⟨hc1,hf1⟩:=Za hb1)
 go_loopg [4,27] k (fun gk v i' wr=>∃j:Nat,gk+j=k∧i'=.int .i64 j∧v=.int .u64 (YJ s i j)∧Below w.heap.size w wr)
 case atStart=>exact ⟨0,om,rfl,rfl,ZtX⟩
 case round=>
  obtain ⟨j,hj,rfl,rfl,hb⟩:=hrel
  obtain ⟨hc2,hf2⟩:=Za hb
  by_cases hlt:j < k
  ·have hij:i+j < s.size:=om
   have hw1:IntKind.i64.wrap ((i:Int)+(j:Int))=(i:Int)+(j:Int):=IntWalk.i64_in _ om
   have hw2:(0:Int)≤(i:Int)+(j:Int):=om
   have hw3:(i:Int)+(j:Int) < (s.size:Int):=om
   have hw4:((i:Int)+(j:Int)).toNat=i+j:=om
   go_wp2_with fail
   refine Z0 15 kr kr ?_
   simp only [List.take_succ_cons,List.take_zero,List.drop_succ_cons,List.drop_zero]
   repeat still_step
   refine wpStill_nil ?_
   go_wp2_with fail
   go_roundg (gk - 1)
   case measure=>omega
   case rel=>exact ⟨j+1,om,by go_num,by rw [Zht s HB.out i j om hij],ZtX⟩
  have hjk:j=k:=om
  subst hjk
  go_wp2_with fail
  go_ret2
  exact ⟨Zt1,rfl,⟨gs,gs,gs⟩,gs,gs,gs⟩
set_option maxRecDepth 512
def ZkU (n m acc s:Nat):Prop:=Qq n=acc+Qq m∧acc+2*s≤64∧(s=32∨s=16∨s=8∨s=4∨s=2∨s=1∨s=0)∧m < 2 ^ (2*s)+(1 - s)∧m < 18446744073709551616
set_option maxRecDepth 100000
theorem ZeM (n:Nat) (w:World) (hn:n < 18446744073709551616):
  Calls prog 161 #[.int .u64 n] w fun e w'=>e=.returned (.int .i64 (Qq n))∧Below w.heap.size w w':=by
 go_enter func161,ntmps161
 go_wp2_with fail
 refine wp_scope_straight ?_
 go_wp2_with fail
 go_step3
 go_wp2_with fail
 go_loopg [0,3,4] 33 (fun gk t0 t3 t4 wr=>∃m acc s:Nat,gk=s+1∧t0=.int .u64 m∧t3=.int .i64 acc∧t4=.int .i64 s∧ZkU n m acc s∧wr=w)
 case atStart=>exact ⟨n,0,32,om,rfl,rfl,rfl,⟨om,om,om,om,hn⟩,rfl⟩
 case round=>
  obtain ⟨m,acc,s,rfl,rfl,rfl,rfl,⟨h1,h2,h3,h4,h5⟩,rfl⟩:=hrel
  rcases h3 with rfl|rfl|rfl|rfl|rfl|rfl|rfl
  ·go_wp2_with fail
   ·have hd:m / 4294967296≠0:=by
     have h6:=‹((m:Int) / 4294967296 != 0)=true›
     simp at h6
     omega
    have he:=Wq m 32 hd
    simp only [Nat.reducePow] at he h4
    go_roundg (16+1)
    case measure=>omega
    case rel=>exact ⟨m / 4294967296,acc+32,16,om,by go_num,by go_num,by go_num,⟨om,om,om,by simp only [Nat.reduceMul,Nat.reducePow,Nat.reduceSub] at h4 ⊢;omega,om⟩,rfl⟩
   have hd:m / 4294967296=0:=by
    have h6:=‹((m:Int) / 4294967296 != 0)=false›
    simp at h6
    omega
   go_roundg (16+1)
   case measure=>omega
   case rel=>exact ⟨m,acc,16,om,by go_num,by go_num,by go_num,⟨om,om,om,by simp only [Nat.reduceMul,Nat.reducePow,Nat.reduceSub] at h4 ⊢;omega,om⟩,rfl⟩
  ·go_wp2_with fail
   ·have hd:m / 65536≠0:=by
     have h6:=‹((m:Int) / 65536 != 0)=true›
     simp at h6
     omega
    have he:=Wq m 16 hd
    simp only [Nat.reducePow] at he h4
    go_roundg (8+1)
    case measure=>omega
    case rel=>exact ⟨m / 65536,acc+16,8,om,by go_num,by go_num,by go_num,⟨om,om,om,by simp only [Nat.reduceMul,Nat.reducePow,Nat.reduceSub] at h4 ⊢;omega,om⟩,rfl⟩
   have hd:m / 65536=0:=by
    have h6:=‹((m:Int) / 65536 != 0)=false›
    simp at h6
    omega
   go_roundg (8+1)
   case measure=>omega
   case rel=>exact ⟨m,acc,8,om,by go_num,by go_num,by go_num,⟨om,om,om,by simp only [Nat.reduceMul,Nat.reducePow,Nat.reduceSub] at h4 ⊢;omega,om⟩,rfl⟩
  ·go_wp2_with fail
   ·have hd:m / 256≠0:=by
     have h6:=‹((m:Int) / 256 != 0)=true›
     simp at h6
     omega
    have he:=Wq m 8 hd
    simp only [Nat.reducePow] at he h4
    go_roundg (4+1)
    case measure=>omega
    case rel=>exact ⟨m / 256,acc+8,4,om,by go_num,by go_num,by go_num,⟨om,om,om,by simp only [Nat.reduceMul,Nat.reducePow,Nat.reduceSub] at h4 ⊢;omega,om⟩,rfl⟩
   have hd:m / 256=0:=by
    have h6:=‹((m:Int) / 256 != 0)=false›
    simp at h6
    omega
   go_roundg (4+1)
   case measure=>omega
   case rel=>exact ⟨m,acc,4,om,by go_num,by go_num,by go_num,⟨om,om,om,by simp only [Nat.reduceMul,Nat.reducePow,Nat.reduceSub] at h4 ⊢;omega,om⟩,rfl⟩
  ·go_wp2_with fail
   ·have hd:m / 16≠0:=by
     have h6:=‹((m:Int) / 16 != 0)=true›
     simp at h6
     omega
    have he:=Wq m 4 hd
    simp only [Nat.reducePow] at he h4
    go_roundg (2+1)
    case measure=>omega
    case rel=>exact ⟨m / 16,acc+4,2,om,by go_num,by go_num,by go_num,⟨om,om,om,by simp only [Nat.reduceMul,Nat.reducePow,Nat.reduceSub] at h4 ⊢;omega,om⟩,rfl⟩
   have hd:m / 16=0:=by
    have h6:=‹((m:Int) / 16 != 0)=false›
    simp at h6
    omega
   go_roundg (2+1)
   case measure=>omega
   case rel=>exact ⟨m,acc,2,om,by go_num,by go_num,by go_num,⟨om,om,om,by simp only [Nat.reduceMul,Nat.reducePow,Nat.reduceSub] at h4 ⊢;omega,om⟩,rfl⟩
  ·go_wp2_with fail
   ·have hd:m / 4≠0:=by
     have h6:=‹((m:Int) / 4 != 0)=true›
     simp at h6
     omega
    have he:=Wq m 2 hd
    simp only [Nat.reducePow] at he h4
    go_roundg (1+1)
    case measure=>omega
    case rel=>exact ⟨m / 4,acc+2,1,om,by go_num,by go_num,by go_num,⟨om,om,om,by simp only [Nat.reduceMul,Nat.reducePow,Nat.reduceSub] at h4 ⊢;omega,om⟩,rfl⟩
   have hd:m / 4=0:=by
    have h6:=‹((m:Int) / 4 != 0)=false›
    simp at h6
    omega
   go_roundg (1+1)
   case measure=>omega
   case rel=>exact ⟨m,acc,1,om,by go_num,by go_num,by go_num,⟨om,om,om,by simp only [Nat.reduceMul,Nat.reducePow,Nat.reduceSub] at h4 ⊢;omega,om⟩,rfl⟩
  ·go_wp2_with fail
   ·have hd:m / 2≠0:=by
     have h6:=‹((m:Int) / 2 != 0)=true›
     simp at h6
     omega
    have he:=Wq m 1 hd
    simp only [Nat.reducePow] at he h4
    go_roundg (0+1)
    case measure=>omega
    case rel=>exact ⟨m / 2,acc+1,0,om,by go_num,by go_num,by go_num,⟨om,om,om,by simp only [Nat.reduceMul,Nat.reducePow,Nat.reduceSub] at h4 ⊢;omega,om⟩,rfl⟩
   have hd:m / 2=0:=by
    have h6:=‹((m:Int) / 2 != 0)=false›
    simp at h6
    omega
   go_roundg (0+1)
   case measure=>omega
   case rel=>exact ⟨m,acc,0,om,by go_num,by go_num,by go_num,⟨om,om,om,by simp only [Nat.reduceMul,Nat.reducePow,Nat.reduceSub] at h4 ⊢;omega,om⟩,rfl⟩
  simp only [Nat.mul_zero,Nat.pow_zero] at h4
  have he:=Zbv m om
  go_wp2_with fail
  rw [Exit.noGoto_ret]
  go_ret
  exact ⟨Zf om,ZtX⟩
set_option maxRecDepth 512
def Z7 (n:Nat):Nat:=if n=0 then 0 else Qq (n - 1)
theorem Zhz (n:Nat) (w:World) (hn:n < 18446744073709551616):
  Calls prog 285 #[.int .u64 n] w fun e w'=>e=.returned (.int .i64 (Z7 n))∧Below w.heap.size w w':=by
 unfold Z7
 by_cases h:n=0
 ·subst h
  rw [if_pos rfl]
  go_enter func285,ntmps285
  go_wp2_with fail
  go_ret
  exact ⟨rfl,ZtX⟩
 rw [if_neg h]
 have h1:((n:Int)==0)=false:=by simp;omega
 have h2:IntKind.u64.wrap ((n:Int) - 1)=((n - 1:Nat):Int):=by rw [IntKind.wrap_u64];omega
 have hn1:n - 1 < 18446744073709551616:=om
 generalize n - 1=m at *
 clear h
 go_enter func285,ntmps285
 go_wp2_with (go_at_call 161;refine (ZeM m _ hn1).mono ?_;rintro e w1 ⟨rfl,hb⟩;have hB1:=hb;clear hb;obtain ⟨hc1,hf1⟩:=Za hB1)
 go_ret
 exact ⟨rfl,ZtX⟩
def YX (s:ByteArray) (n q:Nat):Nat→Nat→Option Nat×Nat
 | 0,i=>(none,i)
 | f+1,i=>if s.size < i+q then (none,i) else if YJ s i q < n then (some (YJ s i q),i+q) else YX s n q f (i+q)
theorem Kd (s:ByteArray) (n q:Nat):∀f i,i≤s.size→i≤(YX s n q f i).2∧(YX s n q f i).2≤s.size∧∀v,(YX s n q f i).1=some v→v < n
 | 0,i,h=>by simp [YX,h]
 | f+1,i,h=>by
  unfold YX
  split
  ·simp [h]
  split
  ·rename_i h1 h2;refine ⟨sm,by simp;omega,?_⟩;intro v hv;simp at hv;omega
  rename_i h1 h2
  obtain ⟨a,b,c⟩:=Kd s n q f (i+q) om
  exact ⟨om,b,c⟩
def ZdR (c:Nat) (s:ByteArray) (r:Option Nat×Nat) (w:World):Ending→World→Prop:=fun e w'=>But c w.heap.size w w' ∧
 match r with
 | (some v,j)=>e=.returned (.tuple #[.int .u64 v,.bool true])∧Cur w' c s j false
 | (none,j)=>e=.returned (.tuple #[.int .u64 0,.bool false])∧Cur w' c s j true
theorem J8 (n:Nat) (h:n < 18446744073709551616):Z7 n≤64:=by
 unfold Z7 Qq
 split
 ·omega
 split
 ·omega
 have:=(Nat.log2_lt (n:=n - 1) (k:=64) om).2 om
 omega
set_option maxRecDepth 100000
theorem ZgO (c:Nat) (s:ByteArray) (i n:Nat) (w:World) (hb:Zc s=true) (hi:i≤s.size) (hn:0 < n∧n < 18446744073709551616) (hl:Cur w c s i false):
  Calls prog 263 #[.func (.func 262) #[.pointer (some ⟨c,0,none⟩)] #[],.int .u64 n] w (ZdR c s (YX s n (Z7 n) (s.size+1 - i) i) w):=by
 have HL:=hid hl
 have HB:=hid hb
 have hcs:c < w.heap.size:=World.block_lt_of_cell? _ _ hl.1.1
 have hw:=J8 n hn.2
 obtain ⟨hn0,hn1⟩:=hn
 clear hl hb
 generalize hR:YX s n (Z7 n) (s.size+1 - i) i=R
 have HR:=hid hR
 clear hR
 go_enter func263,ntmps263
 go_wp2_with (first|(go_at_call 285;refine (Zhz n _ hn1).mono ?_;rintro e w1 ⟨rfl,hb⟩;have hB1:=hb;clear hb;obtain ⟨hc1,hf1⟩:=Za hB1))
 go_loopg [4,5] (s.size+1 - i) (fun gk t4 t5 wr=>∃j f:Nat,gk=s.size+1 - j∧s.size+1 - j≤f∧i≤j∧j≤s.size∧t4=.int .u64 0∧t5=.bool false∧Hid (YX s n (Z7 n) f j=R)∧But c w.heap.size w wr∧Cur wr c s j false)
 case atStart=>exact ⟨i,_,rfl,Nat.le_refl _,Nat.le_refl _,hi,rfl,rfl,HR.out,Zt1,⟨⟨by have h:=HL.out.1.1;go_simp,by have h:=HL.out.1.2.1;go_simp,by have h:=HL.out.1.2.2;go_simp⟩,by have h:=HL.out.2.1;go_simp,by have h:=HL.out.2.2.1;go_simp,by have h:=HL.out.2.2.2;go_simp⟩⟩
 case round=>
  obtain ⟨j,f,rfl,hjf,hj0,hj1,rfl,rfl,HF,hbt,hcur⟩:=hrel
  have HC:=hid hcur
  have hz:=hbt.size
  clear hcur
  obtain ⟨f,rfl⟩:∃g,f=g+1:=⟨f - 1,om⟩
  have hd:=HF.out
  rw [YX] at hd
  by_cases hsh:s.size < j+Z7 n
  ·rw [if_pos hsh] at hd
   have HD:=hid hd
   have HS:=hid hsh
   clear hd hsh
   go_wp2_with (go_at_call 262;refine (Qn c s j false (Z7 n) _ HB.out hw hj1 (by exact HC.out)).mono ?_;rintro e w2 ⟨hb2,h7⟩;rw [if_neg (by have h9:=HS.out;simp;omega)] at h7;obtain ⟨rfl,hc2⟩:=h7;have HC2:=hid hc2;clear hc2)
   go_ret2
   rw [←HD.out]
   exact ⟨Zt1,rfl,HC2.out⟩
  rw [if_neg hsh] at hd
  have HS:=hid hsh
  by_cases hlt:YJ s j (Z7 n) < n
  ·rw [if_pos hlt] at hd
   have HD:=hid hd
   clear hd hsh
   go_wp2_with (go_at_call 262;refine (Qn c s j false (Z7 n) _ HB.out hw hj1 (by exact HC.out)).mono ?_;rintro e w2 ⟨hb2,h7⟩;rw [if_pos (by have h9:=HS.out;simp;omega)] at h7;obtain ⟨rfl,hc2⟩:=h7;have HC2:=hid hc2;clear hc2)
   go_ret2
   rw [←HD.out]
   exact ⟨Zt1,rfl,HC2.out⟩
  rw [if_neg hlt] at hd
  have hq:1≤Z7 n:=by
   rcases Nat.eq_zero_or_pos (Z7 n) with h|h
   ·rw [h] at hlt;simp [YJ] at hlt;omega
   exact h
  have HD:=hid hd
  clear hd
  go_wp2_with (go_at_call 262;refine (Qn c s j false (Z7 n) _ HB.out hw hj1 (by exact HC.out)).mono ?_;rintro e w2 ⟨hb2,h7⟩;rw [if_pos (by have h9:=HS.out;simp;omega)] at h7;obtain ⟨rfl,hc2⟩:=h7;have HC2:=hid hc2;clear hc2)
  go_roundg (s.size+1 - (j+Z7 n))
  case measure=>omega
  case rel=>exact ⟨j+Z7 n,f,rfl,om,om,om,rfl,rfl,HD.out,Zt1,HC2.out⟩
end Go.Proofs.YtkdffbdnjfgpeaaGreat
