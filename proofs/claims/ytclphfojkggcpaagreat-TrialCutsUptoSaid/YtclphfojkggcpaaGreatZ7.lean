/- What the proofs of the Trial statements need: part 8. -/
import Derived.IntWalk
import Derived.Laws.Bits64b
import Derived.Laws.Strings
import Derived.Laws.Strings2
import Derived.Laws.Strings3
import Derived.Scope
import Derived.ScopeJumps
import Derived.WalkMore
import Derived.Test.YtclphfojkggcpaaGreatZ2
import Derived.Test.YtclphfojkggcpaaGreatZ6
set_option linter.unusedVariables false
set_option linter.unusedSimpArgs false
namespace Go.Proofs.YtclphfojkggcpaaGreat
open Go.Lib (hid)
open Go Go.RowKit
def oddB (s:ByteArray):Bool:= !(s.data.toList.all fun b=>b.toNat==48||b.toNat==49)
def isBits (s:ByteArray):Bool:=decide (s.size≤1024)&& !oddB s
theorem byte_at (s:ByteArray) (i:Nat) (h:i < s.size):s[i]=s.data.toList[i]'(by simpa using h):=by
 simp [ByteArray.getElem_eq_getElem_data]
theorem oddB_false (s:ByteArray) (h:∀i (hi:i < s.size),s[i].toNat=48∨s[i].toNat=49):oddB s=false:=by
 simp only [oddB,Bool.not_eq_false',List.all_eq_true,Bool.or_eq_true,beq_iff_eq]
 intro b hb
 obtain ⟨i,hi,rfl⟩:=List.getElem_of_mem hb
 have:=h i (by simpa using hi)
 rwa [byte_at] at this
theorem oddB_true (s:ByteArray) (i:Nat) (hi:i < s.size) (h:¬s[i].toNat=48) (h2:¬s[i].toNat=49):oddB s=true:=by
 simp only [oddB,Bool.not_eq_true',List.all_eq_false]
 refine ⟨s[i],by rw [byte_at s i hi];exact List.getElem_mem _,?_⟩
 simp [h,h2]
set_option maxRecDepth 100000 in
theorem odd_any (s:ByteArray) (w:World) (hs:s.size≤9223372036854775807):
  Calls Tryz.prog 88 #[.string s] w fun e w'=>e=.returned (.bool (oddB s))∧Below w.heap.size w w':=by
 generalize hF:oddB s=F
 have HF:=hid hF
 clear hF
 go_enter Tryz.func88,Tryz.ntmps88
 go_wp2_with fail
 go_loopg [6] (s.size) (fun gk i wr=>∃j:Nat,gk+j=s.size∧i=.int .i64 j∧Hid (∀q (hq:q < s.size),q < j→s[q].toNat=48∨s[q].toNat=49)∧wr=w)
 case atStart=>exact ⟨0,by omega,rfl,fun q _ hq=>absurd hq (by omega),rfl⟩
 case round=>
  obtain ⟨j,hj,rfl,HZ,rfl⟩:=hrel
  by_cases hlt:j < s.size
  ·go_wp2_with fail
   ·go_roundg (gk - 1)
    case measure=>omega
    case rel=>exact ⟨j+1,by omega,by go_num,fun q hq hj'=>(by
     by_cases hqj:q=j
     ·subst hqj;exact .inl (by omega)
     ·exact HZ.out q hq (by omega)),rfl⟩
   ·have h1:¬s[j].toNat=48:=by omega
    have h2:¬s[j].toNat=49:=by
     have h3:=‹(_ != _)=true∧(_ != _)=true›.2
     simp at h3;omega
    go_ret
    exact ⟨ret_b1 (by rw [←HF.out,oddB_true s j hlt h1 h2]),Below.z⟩
   ·have h2:s[j].toNat=49:=by
     have h3:=‹(_ != _)=false∨(_ != _)=false›
     simp at h3;omega
    go_roundg (gk - 1)
    case measure=>omega
    case rel=>exact ⟨j+1,by omega,by go_num,fun q hq hj'=>(by
     by_cases hqj:q=j
     ·subst hqj;exact .inr h2
     ·exact HZ.out q hq (by omega)),rfl⟩
  ·go_wp2_with fail
   go_ret
   exact ⟨ret_b1 (by rw [←HF.out,oddB_false s fun q hq=>HZ.out q hq (by omega)]),Below.z⟩
set_option maxRecDepth 100000 in
theorem isBits_any (s:ByteArray) (w:World) (hs:s.size≤9223372036854775807):
  Calls Tryz.prog 61 #[.string s] w fun e w'=>e=.returned (.bool (isBits s))∧Below w.heap.size w w':=by
 generalize hF:isBits s=F
 have HF:=hid hF
 clear hF
 go_enter Tryz.func61,Tryz.ntmps61
 go_wp2_with (go_at_call 88;refine (odd_any s _ hs).mono ?_;rintro e w1 ⟨rfl,hb⟩;have hB1:=hb;clear hb;obtain ⟨hc1,hf1⟩:=bcells hB1)
 all_goals go_ret
 all_goals refine ⟨ret_b1 ?_,Below.z⟩
 all_goals rw [←HF.out]
 all_goals unfold isBits
 all_goals (first|(simp [show s.size≤1024 by omega];done)|(simp [show ¬s.size≤1024 by omega];done))
def Cur (w:World) (c:Nat) (s:ByteArray) (i:Nat) (o:Bool):Prop:=
 (w.cell? ⟨c,0,none⟩=some (.string s)∧w.cell? ⟨c,1,none⟩=some (.int .i64 i)∧w.cell? ⟨c,2,none⟩=some (.bool o)) ∧
 (w.frozen? ⟨c,0,none⟩=false∧w.frozen? ⟨c,1,none⟩=false∧w.frozen? ⟨c,2,none⟩=false)
def CurNewR (s:ByteArray) (w:World):Ending→World→Prop:=fun e w'=>Below w.heap.size w w' ∧
 ((isBits s=true∧∃c,w.heap.size≤c∧c < w'.heap.size∧e=.returned (.tuple #[.pointer (some ⟨c,0,none⟩),.int .i64 0])∧Cur w' c s 0 false) ∨
  (isBits s=false∧e=.returned (.tuple #[.pointer none,.int .i64 3])))
theorem curNew_any (s:ByteArray) (w:World) (hs:s.size≤9223372036854775807):
  Calls Tryz.prog 38 #[.string s] w (CurNewR s w):=by
 cases hF:isBits s
 ·have HF:=hid hF
  clear hF
  go_enter Tryz.func38,Tryz.ntmps38
  go_wp2_with (go_at_call 61;refine (isBits_any s _ hs).mono ?_;rw [HF.out];rintro e w1 ⟨rfl,hb1⟩;obtain ⟨hc1,hf1⟩:=bcells hb1)
  go_ret2
  exact ⟨Below.z,.inr ⟨HF.out,rfl⟩⟩
 ·have HF:=hid hF
  clear hF
  go_enter Tryz.func38,Tryz.ntmps38
  go_wp2_with (go_at_call 61;refine (isBits_any s _ hs).mono ?_;rw [HF.out];rintro e w1 ⟨rfl,hb1⟩;obtain ⟨hc1,hf1⟩:=bcells hb1;have hz1:=hb1.size)
  go_ret2
  exact ⟨Below.z,.inl ⟨HF.out,_,hz1,by simp,rfl,⟨by go_simp,by go_simp,by go_simp⟩,by go_simp,by go_simp,by go_simp⟩⟩
theorem curAt_any (c:Nat) (s:ByteArray) (i:Nat) (o:Bool) (w:World) (hl:Cur w c s i o):
  Calls Tryz.prog 62 #[.pointer (some ⟨c,0,none⟩)] w fun e w'=>e=.returned (.int .i64 i)∧Below w.heap.size w w':=by
 obtain ⟨⟨c0,c1,c2⟩,f0,f1,f2⟩:=hl
 go_enter Tryz.func62,Tryz.ntmps62
 go_wp2_with fail
 go_ret
 exact ⟨rfl,Below.z⟩
set_option maxRecDepth 100000 in
theorem curRest_any (c:Nat) (s:ByteArray) (i:Nat) (o:Bool) (w:World) (hi:i≤s.size) (hs:s.size≤9223372036854775807) (hl:Cur w c s i o):
  Calls Tryz.prog 169 #[.pointer (some ⟨c,0,none⟩)] w fun e w'=>e=.returned (.string (s.extract i s.size))∧Below w.heap.size w w':=by
 obtain ⟨⟨c0,c1,c2⟩,f0,f1,f2⟩:=hl
 go_enter Tryz.func169,Tryz.ntmps169
 go_wp2_with fail
 refine wp_tail 8 (by kernel_rfl) (by kernel_rfl) ?_
 simp only [List.take_succ_cons,List.take_zero,List.drop_succ_cons,List.drop_zero]
 repeat still_step
 refine wpStill_nil ?_
 go_wp2_with fail
 go_ret
 exact ⟨rfl,Below.z⟩
set_option maxRecDepth 100000 in
theorem curLeft_any (c:Nat) (s:ByteArray) (i:Nat) (o:Bool) (w:World) (hi:i≤s.size) (hs:s.size≤9223372036854775807) (hl:Cur w c s i o):
  Calls Tryz.prog 165 #[.pointer (some ⟨c,0,none⟩)] w fun e w'=>e=.returned (.int .i64 ((s.size - i:Nat):Int))∧Below w.heap.size w w':=by
 have HL:=hid hl
 have hsz:(s.extract i s.size).size=s.size - i:=by simp
 have HSZ:=hid hsz
 clear hl hsz
 generalize hX:s.extract i s.size=X at *
 go_enter Tryz.func165,Tryz.ntmps165
 go_wp2_with (go_at_call 169;refine (curRest_any c s i o _ hi hs (by exact HL.out)).mono ?_;rw [hX];rintro e w1 ⟨rfl,hb1⟩)
 go_ret
 exact ⟨ret_int (by rw [HSZ.out]),Below.z⟩
def takeV (s:ByteArray) (i:Nat):Nat→Nat
 | 0=>0
 | j+1=>2*takeV s i j+((s.data.toList.getD (i+j) 48).toNat - 48)
theorem takeV_lt (s:ByteArray) (i:Nat) (hb:isBits s=true):∀j,takeV s i j < 2 ^ j
 | 0=>by simp [takeV]
 | j+1=>by
  have h:=takeV_lt s i hb j
  have hd:(s.data.toList.getD (i+j) 48).toNat - 48≤1:=by
   simp only [isBits,Bool.and_eq_true,Bool.not_eq_true',oddB,Bool.not_eq_false',List.all_eq_true,Bool.or_eq_true,beq_iff_eq] at hb
   rcases Nat.lt_or_ge (i+j) s.data.toList.length with hl|hl
   ·simp only [List.getD_eq_getElem?_getD,List.getElem?_eq_getElem hl,Option.getD_some]
    have:=hb.2 _ (List.getElem_mem hl)
    omega
   ·simp only [List.getD_eq_getElem?_getD,List.getElem?_eq_none hl,Option.getD_none];decide
  rw [takeV,Nat.pow_succ]
  omega
theorem isBits_at (s:ByteArray) (hb:isBits s=true) (i:Nat) (h:i < s.size):s[i].toNat=48∨s[i].toNat=49:=by
 simp only [isBits,Bool.and_eq_true,Bool.not_eq_true',oddB,Bool.not_eq_false',List.all_eq_true,Bool.or_eq_true,beq_iff_eq] at hb
 rw [byte_at s i h]
 exact hb.2 _ (List.getElem_mem _)
theorem take_step (s:ByteArray) (hb:isBits s=true) (i j:Nat) (hj:j < 64) (h:i+j < s.size):
  bits BinOp.or IntKind.u64 (IntKind.u64.wrap ((takeV s i j:Int)*2)) (IntKind.u64.wrap (((s[i+j].toNat:Int) - 48) % 256))=(takeV s i (j+1):Int):=by
 have h1:=takeV_lt s i hb j
 have h2:2 ^ j≤2 ^ 63:=Nat.pow_le_pow_right (by omega) (by omega)
 have h3:=isBits_at s hb (i+j) h
 have h4:(s.data.toList.getD (i+j) 48)=s[i+j]:=by
  rw [byte_at s (i+j) h]
  simp only [List.getD_eq_getElem?_getD,List.getElem?_eq_getElem (show i+j < s.data.toList.length by simpa using h),Option.getD_some]
 rw [takeV,h4]
 have h5:IntKind.u64.wrap ((takeV s i j:Int)*2)=((2*takeV s i j:Nat):Int):=by rw [IntKind.wrap_u64];omega
 have h6:IntKind.u64.wrap (((s[i+j].toNat:Int) - 48) % 256)=((s[i+j].toNat - 48:Nat):Int):=by rw [IntKind.wrap_u64];omega
 rw [h5,h6,bits_or_u64_nat _ _ (by omega) (by omega)]
 have h7:=Nat.two_pow_add_eq_or_of_lt (i:=1) (b:=s[i+j].toNat - 48) (by omega) (takeV s i j)
 simp only [Nat.pow_one] at h7
 rw [h7]
def TakeR (c:Nat) (s:ByteArray) (i k:Nat) (o:Bool) (w:World):Ending→World→Prop:=fun e w'=>But c w.heap.size w w' ∧
 if o=false∧i+k≤s.size then e=.returned (.tuple #[.int .u64 (takeV s i k),.bool true])∧Cur w' c s (i+k) false
 else e=.returned (.tuple #[.int .u64 0,.bool false])∧Cur w' c s i true
set_option maxRecDepth 100000 in
set_option maxHeartbeats 1000000 in
theorem curTake_any (c:Nat) (s:ByteArray) (i:Nat) (o:Bool) (k:Nat) (w:World) (hb:isBits s=true) (hk:k≤64) (hi:i≤s.size) (hl:Cur w c s i o):
  Calls Tryz.prog 156 #[.pointer (some ⟨c,0,none⟩),.int .i64 k] w (TakeR c s i k o w):=by
 have HL:=hid hl
 have HB:=hid hb
 have hs:s.size≤1024:=by simp [isBits] at hb;exact hb.1
 clear hb
 obtain ⟨⟨c0,c1,c2⟩,f0,f1,f2⟩:=hl
 have hcs:c < w.heap.size:=World.block_lt_of_cell? _ _ c0
 unfold TakeR
 cases o
 case true=>
  simp only [show ¬(true=false∧i+k≤s.size) by simp,if_false]
  go_enter Tryz.func156,Tryz.ntmps156
  go_wp2_with fail
  go_ret2
  exact ⟨But.z,rfl,HL.out⟩
 by_cases hik:i+k≤s.size
 case neg=>
  simp only [show ¬(false=false∧i+k≤s.size) by simp;omega,if_false]
  go_enter Tryz.func156,Tryz.ntmps156
  go_wp2_with (go_at_call 165;refine (curLeft_any c s i false _ hi (by omega) (by exact HL.out)).mono ?_;rintro e w1 ⟨rfl,hb1⟩;obtain ⟨hc1,hf1⟩:=bcells hb1)
  go_ret2
  exact ⟨But.z,rfl,⟨by go_simp,by go_simp,by go_simp⟩,by go_simp,by go_simp,by go_simp⟩
 simp only [show (false=false∧i+k≤s.size) from ⟨rfl,hik⟩,if_true,and_self]
 have hnl:¬s.size - i < k:=by omega
 go_enter Tryz.func156,Tryz.ntmps156
 go_wp2_with (go_at_call 165;refine (curLeft_any c s i false _ hi (by omega) (by exact HL.out)).mono ?_;rintro e w1 ⟨rfl,hb1⟩;obtain ⟨hc1,hf1⟩:=bcells hb1)
 go_loopg [4,27] k (fun gk v i' wr=>∃j:Nat,gk+j=k∧i'=.int .i64 j∧v=.int .u64 (takeV s i j)∧Below w.heap.size w wr)
 case atStart=>exact ⟨0,by omega,rfl,rfl,Below.z⟩
 case round=>
  obtain ⟨j,hj,rfl,rfl,hb⟩:=hrel
  obtain ⟨hc2,hf2⟩:=bcells hb
  by_cases hlt:j < k
  ·have hij:i+j < s.size:=by omega
   have hw1:IntKind.i64.wrap ((i:Int)+(j:Int))=(i:Int)+(j:Int):=IntWalk.i64_in _ (by omega)
   have hw2:(0:Int)≤(i:Int)+(j:Int):=by omega
   have hw3:(i:Int)+(j:Int) < (s.size:Int):=by omega
   have hw4:((i:Int)+(j:Int)).toNat=i+j:=by omega
   go_wp2_with fail
   refine wp_tail 15 (by kernel_rfl) (by kernel_rfl) ?_
   simp only [List.take_succ_cons,List.take_zero,List.drop_succ_cons,List.drop_zero]
   repeat still_step
   refine wpStill_nil ?_
   go_wp2_with fail
   go_roundg (gk - 1)
   case measure=>omega
   case rel=>exact ⟨j+1,by omega,by go_num,by rw [take_step s HB.out i j (by omega) hij],Below.z⟩
  ·have hjk:j=k:=by omega
   subst hjk
   go_wp2_with fail
   go_ret2
   exact ⟨But.z,rfl,⟨by go_simp,by go_simp,by go_simp⟩,by go_simp,by go_simp,by go_simp⟩
def lenOk (n m acc s:Nat):Prop:=lenN n=acc+lenN m∧acc+2*s≤64∧(s=32∨s=16∨s=8∨s=4∨s=2∨s=1∨s=0)∧m < 2 ^ (2*s)+(1 - s)∧m < 18446744073709551616
set_option maxRecDepth 100000 in
theorem wordLen_any (n:Nat) (w:World) (hn:n < 18446744073709551616):
  Calls Tryz.prog 170 #[.int .u64 n] w fun e w'=>e=.returned (.int .i64 (lenN n))∧Below w.heap.size w w':=by
 go_enter Tryz.func170,Tryz.ntmps170
 go_wp2_with fail
 refine wp_scope_straight ?_
 go_wp2_with fail
 go_step3
 go_wp2_with fail
 go_loopg [0,3,4] 33 (fun gk t0 t3 t4 wr=>∃m acc s:Nat,gk=s+1∧t0=.int .u64 m∧t3=.int .i64 acc∧t4=.int .i64 s∧lenOk n m acc s∧wr=w)
 case atStart=>exact ⟨n,0,32,by omega,rfl,rfl,rfl,⟨by omega,by omega,by omega,by omega,hn⟩,rfl⟩
 case round=>
  obtain ⟨m,acc,s,rfl,rfl,rfl,rfl,⟨h1,h2,h3,h4,h5⟩,rfl⟩:=hrel
  rcases h3 with rfl|rfl|rfl|rfl|rfl|rfl|rfl
  ·go_wp2_with fail
   ·have hd:m / 4294967296≠0:=by
     have h6:=‹((m:Int) / 4294967296 != 0)=true›
     simp at h6
     omega
    have he:=lenN_shift m 32 hd
    simp only [Nat.reducePow] at he h4
    go_roundg (16+1)
    case measure=>omega
    case rel=>exact ⟨m / 4294967296,acc+32,16,by omega,by go_num,by go_num,by go_num,⟨by omega,by omega,by omega,by simp only [Nat.reduceMul,Nat.reducePow,Nat.reduceSub] at h4 ⊢;omega,by omega⟩,rfl⟩
   ·have hd:m / 4294967296=0:=by
     have h6:=‹((m:Int) / 4294967296 != 0)=false›
     simp at h6
     omega
    go_roundg (16+1)
    case measure=>omega
    case rel=>exact ⟨m,acc,16,by omega,by go_num,by go_num,by go_num,⟨by omega,by omega,by omega,by simp only [Nat.reduceMul,Nat.reducePow,Nat.reduceSub] at h4 ⊢;omega,by omega⟩,rfl⟩
  ·go_wp2_with fail
   ·have hd:m / 65536≠0:=by
     have h6:=‹((m:Int) / 65536 != 0)=true›
     simp at h6
     omega
    have he:=lenN_shift m 16 hd
    simp only [Nat.reducePow] at he h4
    go_roundg (8+1)
    case measure=>omega
    case rel=>exact ⟨m / 65536,acc+16,8,by omega,by go_num,by go_num,by go_num,⟨by omega,by omega,by omega,by simp only [Nat.reduceMul,Nat.reducePow,Nat.reduceSub] at h4 ⊢;omega,by omega⟩,rfl⟩
   ·have hd:m / 65536=0:=by
     have h6:=‹((m:Int) / 65536 != 0)=false›
     simp at h6
     omega
    go_roundg (8+1)
    case measure=>omega
    case rel=>exact ⟨m,acc,8,by omega,by go_num,by go_num,by go_num,⟨by omega,by omega,by omega,by simp only [Nat.reduceMul,Nat.reducePow,Nat.reduceSub] at h4 ⊢;omega,by omega⟩,rfl⟩
  ·go_wp2_with fail
   ·have hd:m / 256≠0:=by
     have h6:=‹((m:Int) / 256 != 0)=true›
     simp at h6
     omega
    have he:=lenN_shift m 8 hd
    simp only [Nat.reducePow] at he h4
    go_roundg (4+1)
    case measure=>omega
    case rel=>exact ⟨m / 256,acc+8,4,by omega,by go_num,by go_num,by go_num,⟨by omega,by omega,by omega,by simp only [Nat.reduceMul,Nat.reducePow,Nat.reduceSub] at h4 ⊢;omega,by omega⟩,rfl⟩
   ·have hd:m / 256=0:=by
     have h6:=‹((m:Int) / 256 != 0)=false›
     simp at h6
     omega
    go_roundg (4+1)
    case measure=>omega
    case rel=>exact ⟨m,acc,4,by omega,by go_num,by go_num,by go_num,⟨by omega,by omega,by omega,by simp only [Nat.reduceMul,Nat.reducePow,Nat.reduceSub] at h4 ⊢;omega,by omega⟩,rfl⟩
  ·go_wp2_with fail
   ·have hd:m / 16≠0:=by
     have h6:=‹((m:Int) / 16 != 0)=true›
     simp at h6
     omega
    have he:=lenN_shift m 4 hd
    simp only [Nat.reducePow] at he h4
    go_roundg (2+1)
    case measure=>omega
    case rel=>exact ⟨m / 16,acc+4,2,by omega,by go_num,by go_num,by go_num,⟨by omega,by omega,by omega,by simp only [Nat.reduceMul,Nat.reducePow,Nat.reduceSub] at h4 ⊢;omega,by omega⟩,rfl⟩
   ·have hd:m / 16=0:=by
     have h6:=‹((m:Int) / 16 != 0)=false›
     simp at h6
     omega
    go_roundg (2+1)
    case measure=>omega
    case rel=>exact ⟨m,acc,2,by omega,by go_num,by go_num,by go_num,⟨by omega,by omega,by omega,by simp only [Nat.reduceMul,Nat.reducePow,Nat.reduceSub] at h4 ⊢;omega,by omega⟩,rfl⟩
  ·go_wp2_with fail
   ·have hd:m / 4≠0:=by
     have h6:=‹((m:Int) / 4 != 0)=true›
     simp at h6
     omega
    have he:=lenN_shift m 2 hd
    simp only [Nat.reducePow] at he h4
    go_roundg (1+1)
    case measure=>omega
    case rel=>exact ⟨m / 4,acc+2,1,by omega,by go_num,by go_num,by go_num,⟨by omega,by omega,by omega,by simp only [Nat.reduceMul,Nat.reducePow,Nat.reduceSub] at h4 ⊢;omega,by omega⟩,rfl⟩
   ·have hd:m / 4=0:=by
     have h6:=‹((m:Int) / 4 != 0)=false›
     simp at h6
     omega
    go_roundg (1+1)
    case measure=>omega
    case rel=>exact ⟨m,acc,1,by omega,by go_num,by go_num,by go_num,⟨by omega,by omega,by omega,by simp only [Nat.reduceMul,Nat.reducePow,Nat.reduceSub] at h4 ⊢;omega,by omega⟩,rfl⟩
  ·go_wp2_with fail
   ·have hd:m / 2≠0:=by
     have h6:=‹((m:Int) / 2 != 0)=true›
     simp at h6
     omega
    have he:=lenN_shift m 1 hd
    simp only [Nat.reducePow] at he h4
    go_roundg (0+1)
    case measure=>omega
    case rel=>exact ⟨m / 2,acc+1,0,by omega,by go_num,by go_num,by go_num,⟨by omega,by omega,by omega,by simp only [Nat.reduceMul,Nat.reducePow,Nat.reduceSub] at h4 ⊢;omega,by omega⟩,rfl⟩
   ·have hd:m / 2=0:=by
     have h6:=‹((m:Int) / 2 != 0)=false›
     simp at h6
     omega
    go_roundg (0+1)
    case measure=>omega
    case rel=>exact ⟨m,acc,0,by omega,by go_num,by go_num,by go_num,⟨by omega,by omega,by omega,by simp only [Nat.reduceMul,Nat.reducePow,Nat.reduceSub] at h4 ⊢;omega,by omega⟩,rfl⟩
  ·simp only [Nat.mul_zero,Nat.pow_zero] at h4
   have he:=lenN_small m (by omega)
   go_wp2_with fail
   rw [Exit.noGoto_ret]
   go_ret
   exact ⟨ret_int (by omega),Below.z⟩
def widthN (n:Nat):Nat:=if n=0 then 0 else lenN (n - 1)
theorem width_any (n:Nat) (w:World) (hn:n < 18446744073709551616):
  Calls Tryz.prog 166 #[.int .u64 n] w fun e w'=>e=.returned (.int .i64 (widthN n))∧Below w.heap.size w w':=by
 unfold widthN
 by_cases h:n=0
 ·subst h
  rw [if_pos rfl]
  go_enter Tryz.func166,Tryz.ntmps166
  go_wp2_with fail
  go_ret
  exact ⟨rfl,Below.z⟩
 ·rw [if_neg h]
  have h1:((n:Int)==0)=false:=by simp;omega
  have h2:IntKind.u64.wrap ((n:Int) - 1)=((n - 1:Nat):Int):=by rw [IntKind.wrap_u64];omega
  have hn1:n - 1 < 18446744073709551616:=by omega
  generalize n - 1=m at *
  clear h
  go_enter Tryz.func166,Tryz.ntmps166
  go_wp2_with (go_at_call 170;refine (wordLen_any m _ hn1).mono ?_;rintro e w1 ⟨rfl,hb⟩;have hB1:=hb;clear hb;obtain ⟨hc1,hf1⟩:=bcells hB1)
  go_ret
  exact ⟨rfl,Below.z⟩
def firstN (s:ByteArray) (n q:Nat):Nat→Nat→Option Nat×Nat
 | 0,i=>(none,i)
 | f+1,i=>if s.size < i+q then (none,i) else if takeV s i q < n then (some (takeV s i q),i+q) else firstN s n q f (i+q)
theorem firstN_bounds (s:ByteArray) (n q:Nat):∀f i,i≤s.size→i≤(firstN s n q f i).2∧(firstN s n q f i).2≤s.size∧∀v,(firstN s n q f i).1=some v→v < n
 | 0,i,h=>by simp [firstN,h]
 | f+1,i,h=>by
  unfold firstN
  split
  ·simp [h]
  ·split
   ·rename_i h1 h2;refine ⟨by simp,by simp;omega,?_⟩;intro v hv;simp at hv;omega
   ·rename_i h1 h2
    obtain ⟨a,b,c⟩:=firstN_bounds s n q f (i+q) (by omega)
    exact ⟨by omega,b,c⟩
def drawR (c:Nat) (s:ByteArray) (r:Option Nat×Nat) (w:World):Ending→World→Prop:=fun e w'=>But c w.heap.size w w' ∧
 match r with
 | (some v,j)=>e=.returned (.tuple #[.int .u64 v,.bool true])∧Cur w' c s j false
 | (none,j)=>e=.returned (.tuple #[.int .u64 0,.bool false])∧Cur w' c s j true
theorem widthN_le (n:Nat) (h:n < 18446744073709551616):widthN n≤64:=by
 unfold widthN lenN
 split
 ·omega
 ·split
  ·omega
  ·have:=(Nat.log2_lt (n:=n - 1) (k:=64) (by omega)).2 (by omega)
   omega
set_option maxRecDepth 100000 in
set_option maxHeartbeats 1000000 in
theorem first_any (c:Nat) (s:ByteArray) (i n:Nat) (w:World) (hb:isBits s=true) (hi:i≤s.size) (hn:0 < n∧n < 18446744073709551616) (hl:Cur w c s i false):
  Calls Tryz.prog 157 #[.func (.func 156) #[.pointer (some ⟨c,0,none⟩)] #[],.int .u64 n] w (drawR c s (firstN s n (widthN n) (s.size+1 - i) i) w):=by
 have HL:=hid hl
 have HB:=hid hb
 have hcs:c < w.heap.size:=World.block_lt_of_cell? _ _ hl.1.1
 have hw:=widthN_le n hn.2
 obtain ⟨hn0,hn1⟩:=hn
 clear hl hb
 generalize hR:firstN s n (widthN n) (s.size+1 - i) i=R
 have HR:=hid hR
 clear hR
 go_enter Tryz.func157,Tryz.ntmps157
 go_wp2_with (first|(go_at_call 166;refine (width_any n _ hn1).mono ?_;rintro e w1 ⟨rfl,hb⟩;have hB1:=hb;clear hb;obtain ⟨hc1,hf1⟩:=bcells hB1))
 go_loopg [4,5] (s.size+1 - i) (fun gk t4 t5 wr=>∃j f:Nat,gk=s.size+1 - j∧s.size+1 - j≤f∧i≤j∧j≤s.size∧t4=.int .u64 0∧t5=.bool false∧Hid (firstN s n (widthN n) f j=R)∧But c w.heap.size w wr∧Cur wr c s j false)
 case atStart=>exact ⟨i,_,rfl,Nat.le_refl _,Nat.le_refl _,hi,rfl,rfl,HR.out,But.z,⟨⟨by have h:=HL.out.1.1;go_simp,by have h:=HL.out.1.2.1;go_simp,by have h:=HL.out.1.2.2;go_simp⟩,by have h:=HL.out.2.1;go_simp,by have h:=HL.out.2.2.1;go_simp,by have h:=HL.out.2.2.2;go_simp⟩⟩
 case round=>
  obtain ⟨j,f,rfl,hjf,hj0,hj1,rfl,rfl,HF,hbt,hcur⟩:=hrel
  have HC:=hid hcur
  have hz:=hbt.size
  clear hcur
  obtain ⟨f,rfl⟩:∃g,f=g+1:=⟨f - 1,by omega⟩
  have hd:=HF.out
  rw [firstN] at hd
  by_cases hsh:s.size < j+widthN n
  ·rw [if_pos hsh] at hd
   have HD:=hid hd
   have HS:=hid hsh
   clear hd hsh
   go_wp2_with (go_at_call 156;refine (curTake_any c s j false (widthN n) _ HB.out hw hj1 (by exact HC.out)).mono ?_;rintro e w2 ⟨hb2,h7⟩;rw [if_neg (by have h9:=HS.out;simp;omega)] at h7;obtain ⟨rfl,hc2⟩:=h7;have HC2:=hid hc2;clear hc2)
   go_ret2
   rw [←HD.out]
   exact ⟨But.z,rfl,HC2.out⟩
  ·rw [if_neg hsh] at hd
   have HS:=hid hsh
   by_cases hlt:takeV s j (widthN n) < n
   ·rw [if_pos hlt] at hd
    have HD:=hid hd
    clear hd hsh
    go_wp2_with (go_at_call 156;refine (curTake_any c s j false (widthN n) _ HB.out hw hj1 (by exact HC.out)).mono ?_;rintro e w2 ⟨hb2,h7⟩;rw [if_pos (by have h9:=HS.out;simp;omega)] at h7;obtain ⟨rfl,hc2⟩:=h7;have HC2:=hid hc2;clear hc2)
    go_ret2
    rw [←HD.out]
    exact ⟨But.z,rfl,HC2.out⟩
   ·rw [if_neg hlt] at hd
    have hq:1≤widthN n:=by
     rcases Nat.eq_zero_or_pos (widthN n) with h|h
     ·rw [h] at hlt;simp [takeV] at hlt;omega
     ·exact h
    have HD:=hid hd
    clear hd
    go_wp2_with (go_at_call 156;refine (curTake_any c s j false (widthN n) _ HB.out hw hj1 (by exact HC.out)).mono ?_;rintro e w2 ⟨hb2,h7⟩;rw [if_pos (by have h9:=HS.out;simp;omega)] at h7;obtain ⟨rfl,hc2⟩:=h7;have HC2:=hid hc2;clear hc2)
    go_roundg (s.size+1 - (j+widthN n))
    case measure=>omega
    case rel=>exact ⟨j+widthN n,f,rfl,by omega,by omega,by omega,rfl,rfl,HD.out,But.z,HC2.out⟩
end Go.Proofs.YtclphfojkggcpaaGreat
