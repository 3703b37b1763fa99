/- What the proofs of the Trial statements need: part 18. -/
import Derived.Test.YtclphfojkggcpaaGreatZ7
set_option linter.unusedVariables false
set_option linter.unusedSimpArgs false
namespace Go.Proofs.YtclphfojkggcpaaGreat
open Go.Lib (hid)
open Go Go.RowKit
set_option maxRecDepth 100000 in
theorem r08Bits_any (s:ByteArray) (w:World) (hs:s.size≤9223372036854775807):
  Calls Tryz.prog 51 #[.string s] w fun e w'=>e=.returned (.bool (isBits s))∧Below w.heap.size w w':=by
 generalize hF:isBits s=F
 have HF:=hid hF
 clear hF
 go_enter Tryz.func51,Tryz.ntmps51
 go_wp2_with fail
 go_loopg [3] (s.size) (fun gk i wr=>∃j:Nat,gk+j=s.size∧i=.int .i64 j∧Hid (∀q (hq:q < s.size),q < j→s[q].toNat=48∨s[q].toNat=49)∧wr=w)
 case atStart=>exact ⟨0,by omega,rfl,fun q _ hq=>absurd hq (by omega),rfl⟩
 case round=>
  obtain ⟨j,hj,rfl,HZ,rfl⟩:=hrel
  by_cases hlt:j < s.size
  ·go_wp2_with fail
   ·go_roundg (gk - 1)
    case measure=>omega
    case rel=>exact ⟨j+1,by omega,by go_num,fun q hq hj'=>(by
     by_cases hqj:q=j
     ·subst hqj;exact .inl (by omega)
     ·exact HZ.out q hq (by omega)),rfl⟩
   ·have h1:¬s[j].toNat=48:=by omega
    have h2:¬s[j].toNat=49:=by
     have h3:=‹(_ != _)=true∧(_ != _)=true›.2
     simp at h3;omega
    go_ret
    exact ⟨ret_b1 (by rw [←HF.out,isBits,oddB_true s j hlt h1 h2,Bool.not_true,Bool.and_false]),Below.r⟩
   ·have h2:s[j].toNat=49:=by
     have h3:=‹(_ != _)=false∨(_ != _)=false›
     simp at h3;omega
    go_roundg (gk - 1)
    case measure=>omega
    case rel=>exact ⟨j+1,by omega,by go_num,fun q hq hj'=>(by
     by_cases hqj:q=j
     ·subst hqj;exact .inr h2
     ·exact HZ.out q hq (by omega)),rfl⟩
  ·go_wp2_with fail
   go_ret
   exact ⟨ret_b1 (by rw [←HF.out,isBits,oddB_false s fun q hq=>HZ.out q hq (by omega)];simp;omega),Below.r⟩
theorem r08New_any (s:ByteArray) (w:World) (hs:s.size≤9223372036854775807):
  Calls Tryz.prog 32 #[.string s] w (CurNewR s w):=by
 cases hF:isBits s
 all_goals have HF:=hid hF
 all_goals clear hF
 all_goals go_enter Tryz.func32,Tryz.ntmps32
 all_goals go_wp2_with (go_at_call 51;refine (r08Bits_any s _ hs).mono ?_;rw [HF.out];rintro e w1 ⟨rfl,hb1⟩;obtain ⟨hc1,hf1⟩:=bcells hb1;have hz1:=hb1.size)
 all_goals go_ret2
 ·exact ⟨Below.r,.inr ⟨HF.out,rfl⟩⟩
 ·exact ⟨Below.r,.inl ⟨HF.out,_,hz1,by simp,rfl,⟨by go_simp,by go_simp,by go_simp⟩,by go_simp,by go_simp,by go_simp⟩⟩
theorem take_even (s:ByteArray) (hb:isBits s=true) (i j:Nat) (hj:j < 64) (h:i+j < s.size):IntKind.u64.wrap (2*(takeV s i j:Int))=2*(takeV s i j:Int) ∧
  (s[i+j].toNat=48→takeV s i (j+1)=2*takeV s i j)∧(s[i+j].toNat=49→takeV s i (j+1)=2*takeV s i j+1∧IntKind.u64.wrap (2*(takeV s i j:Int)+1)=2*(takeV s i j:Int)+1):=by
 have h1:=takeV_lt s i hb j
 have h2:2 ^ j≤2 ^ 63:=Nat.pow_le_pow_right (by omega) (by omega)
 have h4:(s.data.toList.getD (i+j) 48)=s[i+j]:=by
  rw [byte_at s (i+j) h]
  simp only [List.getD_eq_getElem?_getD,List.getElem?_eq_getElem (show i+j < s.data.toList.length by simpa using h),Option.getD_some]
 refine ⟨by rw [IntKind.wrap_u64];omega,fun e=>?_,fun e=>⟨?_,by rw [IntKind.wrap_u64];omega⟩⟩
 all_goals rw [takeV,h4]
 all_goals omega
set_option maxRecDepth 100000 in
set_option maxHeartbeats 1000000 in
theorem r08Take_any (c:Nat) (s:ByteArray) (i:Nat) (o:Bool) (k:Nat) (w:World) (hb:isBits s=true) (hk:k≤64) (hi:i≤s.size) (hl:Cur w c s i o):
  Calls Tryz.prog 145 #[.pointer (some ⟨c,0,none⟩),.int .i64 k] w (TakeR c s i k o w):=by
 have HL:=hid hl
 have HB:=hid hb
 have hs:s.size≤1024:=by simp [isBits] at hb;exact hb.1
 clear hb
 obtain ⟨⟨c0,c1,c2⟩,f0,f1,f2⟩:=hl
 have hcs:c < w.heap.size:=World.block_lt_of_cell? _ _ c0
 have hk1:decide ((k:Int) < 0)=false:=by simp
 have hk2:decide ((64:Int) < (k:Int))=false:=by simp;omega
 have hw0:IntKind.i64.wrap ((s.size:Int) - (i:Int))=(s.size:Int) - (i:Int):=IntWalk.i64_in _ (by omega)
 unfold TakeR
 cases o
 case true=>
  simp only [show ¬(true=false∧i+k≤s.size) by simp,if_false]
  go_enter Tryz.func145,Tryz.ntmps145
  go_wp2_with fail
  go_ret2
  exact ⟨But.r,rfl,HL.out⟩
 by_cases hik:i+k≤s.size
 case neg=>
  simp only [show ¬(false=false∧i+k≤s.size) by simp;omega,if_false]
  have hk3:decide ((s.size:Int) - (i:Int) < (k:Int))=true:=by simp;omega
  go_enter Tryz.func145,Tryz.ntmps145
  go_wp2_with fail
  go_region
  go_wp2_with fail
  go_ret2
  exact ⟨But.r,rfl,⟨by go_simp,by go_simp,by go_simp⟩,by go_simp,by go_simp,by go_simp⟩
 simp only [show (false=false∧i+k≤s.size) from ⟨rfl,hik⟩,if_true,and_self]
 have hk3:decide ((s.size:Int) - (i:Int) < (k:Int))=false:=by simp;omega
 go_enter Tryz.func145,Tryz.ntmps145
 go_wp2_with fail
 go_region
 go_wp2_with fail
 go_loopg [6,7] k (fun gk v i' wr=>∃j:Nat,gk+j=k∧i'=.int .i64 j∧v=.int .u64 (takeV s i j)∧Below w.heap.size w wr)
 case atStart=>exact ⟨0,by omega,rfl,rfl,Below.r⟩
 case round=>
  obtain ⟨j,hj,rfl,rfl,hb⟩:=hrel
  obtain ⟨hc2,hf2⟩:=bcells hb
  by_cases hlt:j < k
  ·have hij:i+j < s.size:=by omega
   have hw1:IntKind.i64.wrap ((i:Int)+(j:Int))=(i:Int)+(j:Int):=IntWalk.i64_in _ (by omega)
   have hw2:(0:Int)≤(i:Int)+(j:Int):=by omega
   have hw3:(i:Int)+(j:Int) < (s.size:Int):=by omega
   have hw4:((i:Int)+(j:Int)).toNat=i+j:=by omega
   obtain ⟨t1,t2,t3⟩:=take_even s HB.out i j (by omega) hij
   rcases isBits_at s HB.out (i+j) hij with h48|h49
   ·have HT:=hid (t2 h48)
    clear t2 t3
    go_wp2_with fail
    go_region
    go_wp2_with fail
    go_roundg (gk - 1)
    case measure=>omega
    case rel=>exact ⟨j+1,by omega,by go_num,by rw [HT.out];exact congrArg (Value.int .u64) (by omega),Below.r⟩
   ·obtain ⟨t4,t5⟩:=t3 h49
    have HT:=hid t4
    clear t2 t3 t4
    go_wp2_with fail
    go_region
    go_wp2_with fail
    go_roundg (gk - 1)
    case measure=>omega
    case rel=>exact ⟨j+1,by omega,by go_num,by rw [HT.out];exact congrArg (Value.int .u64) (by omega),Below.r⟩
  ·have hjk:j=k:=by omega
   subst hjk
   have hbt:But c w.heap.size w wr:=But.of hb
   go_wp2_with fail
   go_ret2
   exact ⟨But.r,rfl,⟨by go_simp,by go_simp,by go_simp⟩,by go_simp,by go_simp,by go_simp⟩
end Go.Proofs.YtclphfojkggcpaaGreat
