/- What the proofs of the Trial statements need: part 14. -/
import Derived.Deep.RegionHeld3
import Derived.IntWalk
import Derived.Test.YtojjdneicmbfjaaGreatDoorQ2
import Derived.Test.YtojjdneicmbfjaaGreatDoorQ5
import Derived.Test.YtojjdneicmbfjaaGreatDoorQ11
import Derived.Test.YtojjdneicmbfjaaGreatDoorQ12
set_option linter.unusedVariables false
set_option linter.unusedSimpArgs false
namespace Go.Proofs.YtojjdneicmbfjaaGreatDoor
open Go.Lib (hid)
open Go Go.RowKit
theorem rep_any (b:UInt8) (n:Nat) (w:World) (hn:n≤1024):Calls Tryz.prog 88 #[.string ⟨#[b]⟩,.int .i64 n] w fun e w'=>e=.returned (.string (repS b n))∧Below w.heap.size w w':=
 Any.strings_Repeat Tryz.lays105 Tryz.extra105 ⟨#[b]⟩ n w (by omega) (by simp [ByteArray.size];omega)
theorem cmp_lib (a b:ByteArray) (w:World):Calls Tryz.prog 54 #[.string a,.string b] w fun e w'=>e=.returned (.int .i64 (Lib.compareBytes a.data.toList b.data.toList))∧w'=w:=
 Any.strings_Compare Tryz.lays106 a b w
theorem bits_le {s:ByteArray} (h:isBits s=true):s.size≤1024:=(isBits_iff.1 h).1
set_option maxRecDepth 100000 in
set_option maxHeartbeats 1000000 in
theorem part_ok (s:ByteArray) (a n:Nat) (w:World) (hb:isBits s=true) (h1:1≤n) (h2:a+n≤s.size):
  Calls Tryz.prog 87 #[.string s,.int .i64 a,.int .i64 n] w fun e w'=>e=.returned (.int .i64 0)∧Below w.heap.size w w':=by
 have hs:=bits_le hb
 have q1:decide ((n:Int) < 1)=false:=decide_eq_false (by omega)
 have q2:decide ((s.size:Int) < (n:Int))=false:=decide_eq_false (by omega)
 have q3:decide ((a:Int) < 0)=false:=decide_eq_false (by omega)
 have q4:decide ((s.size:Int) - (n:Int) < (a:Int))=false:=decide_eq_false (by omega)
 have HB:=hid hb
 clear hb
 go_enter Tryz.func87,Tryz.ntmps87
 go_wp2_with (go_at_call 56;(with_reducible refine (isBits_any s _ (by omega)).mono ?_);rw [HB.out];rintro e w1 ⟨rfl,hb1⟩)
 all_goals first|(exfalso;omega)|skip
 all_goals go_ret
 all_goals exact ⟨rfl,Below.r⟩
set_option maxRecDepth 100000 in
set_option maxHeartbeats 1000000 in
theorem cutB_any (s:ByteArray) (a n:Nat) (w:World) (hb:isBits s=true) (h1:1≤n) (h2:a+n≤s.size):
  Calls Tryz.prog 85 #[.string s,.int .i64 a,.int .i64 n] w fun e w'=>e=.returned (.tuple #[.string (cutS s a n),.int .i64 0])∧Below w.heap.size w w':=by
 have hs:=bits_le hb
 have x1:(a:Int)≤(s.size:Int):=by omega
 have x2:(0:Int)≤(a:Int)+(n:Int):=by omega
 have x3:(a:Int)+(n:Int)≤(s.size:Int):=by omega
 have x4:¬9223372036854775807 < min a s.size+(s.size - (a+n)):=by omega
 have ht:((a:Int)+(n:Int)).toNat=a+n:=by omega
 have wm:IntKind.i64.wrap ((a:Int)+(n:Int))=(a:Int)+(n:Int):=IntWalk.i64_in _ (by omega)
 have HB:=hid hb
 clear hb
 go_enter Tryz.func85,Tryz.ntmps85
 go_wp2_with (go_at_call 87;(with_reducible refine (part_ok s a n _ HB.out h1 h2).mono ?_);rintro e w1 ⟨rfl,hb1⟩)
 go_region_held3 (fun W=>Below w1.heap.size w1 W) (((exact Below.r))) ((fail))
 all_goals go_wp2_with fail
 all_goals go_ret2
 all_goals exact ⟨rfl,Below.r⟩
set_option maxRecDepth 100000 in
set_option maxHeartbeats 1000000 in
theorem clrB_any (s:ByteArray) (a n:Nat) (w:World) (hb:isBits s=true) (h1:1≤n) (h2:a+n≤s.size):
  Calls Tryz.prog 86 #[.string s,.int .i64 a,.int .i64 n] w fun e w'=>e=.returned (.tuple #[.string (clrS s a n),.int .i64 0])∧Below w.heap.size w w':=by
 have hs:=bits_le hb
 have x1:(a:Int)≤(s.size:Int):=by omega
 have x2:(0:Int)≤(a:Int)+(n:Int):=by omega
 have x3:(a:Int)+(n:Int)≤(s.size:Int):=by omega
 have x5:(repS 48 n).size=n:=by rw [size_list,repS_list];simp
 have x4:¬9223372036854775807 < min a s.size+(repS 48 n).size:=by omega
 have x6:¬9223372036854775807 < min a s.size+(repS 48 n).size+(s.size - (a+n)):=by omega
 have ht:((a:Int)+(n:Int)).toNat=a+n:=by omega
 have wm:IntKind.i64.wrap ((a:Int)+(n:Int))=(a:Int)+(n:Int):=IntWalk.i64_in _ (by omega)
 have HB:=hid hb
 clear hb x5
 go_enter Tryz.func86,Tryz.ntmps86
 go_wp2_with (go_at_call 87;(with_reducible refine (part_ok s a n _ HB.out h1 h2).mono ?_);rintro e w1 ⟨rfl,hb1⟩)
 go_region_held3 (fun W=>Below w1.heap.size w1 W) (((exact Below.r))) ((go_at_call 88;(with_reducible refine (rep_any 48 n _ (by omega)).mono ?_);rintro e w2 ⟨rfl,hb2⟩))
 all_goals go_wp2_with fail
 all_goals go_ret2
 all_goals exact ⟨rfl,Below.trans hb1 (Below.mono (B:=w1.heap.size) (by assumption) hb1.size)⟩
set_option maxRecDepth 100000 in
set_option maxHeartbeats 1000000 in
theorem dwnB_any (s:ByteArray) (a:Nat) (w:World) (hb:isBits s=true) (h2:a < s.size) (h49:s.data.toList.getD a 48=49):
  Calls Tryz.prog 59 #[.string s,.int .i64 a] w fun e w'=>e=.returned (.tuple #[.string (dwnS s a),.int .i64 0])∧Below w.heap.size w w':=by
 have hs:=bits_le hb
 have x1:(a:Int)≤(s.size:Int):=by omega
 have x5:(repS 49 (s.size - a - 1)).size=s.size - a - 1:=by rw [size_list,repS_list];simp
 have x4:¬9223372036854775807 < min a s.size+1:=by omega
 have x6:¬9223372036854775807 < min a s.size+1+(repS 49 (s.size - a - 1)).size:=by omega
 have wm:IntKind.i64.wrap ((s.size:Int) - (a:Int))=(s.size:Int) - (a:Int):=IntWalk.i64_in _ (by omega)
 have wm1:IntKind.i64.wrap ((s.size:Int) - (a:Int) - 1)=(s.size:Int) - (a:Int) - 1:=IntWalk.i64_in _ (by omega)
 have hc:(s.size:Int) - (a:Int) - 1=((s.size - a - 1:Nat):Int):=by omega
 have HC:=hid hc
 have hv:s[a].toNat=49:=by
  rw [List.getD_eq_getElem?_getD,List.getElem?_eq_getElem (by rw [←size_list];exact h2)] at h49
  have h50:s.data.toList[a]'(by rw [←size_list];exact h2)=49:=h49
  have:s[a]=49:=by rw [←h50];simp [ByteArray.getElem_eq_getElem_data]
  rw [this];rfl
 have HV:=hid hv
 have HB:=hid hb
 clear hb x5 hc hv h49
 go_enter Tryz.func59,Tryz.ntmps59
 go_wp2_with (go_at_call 87;(refine (part_ok s a 1 _ HB.out (by omega) (by omega)).mono ?_);rintro e w1 ⟨rfl,hb1⟩)
 ·exfalso
  have:=HV.out
  have h5:=‹(_ != _)=true›
  simp at h5
  omega
 go_region_held3 (fun W=>Below w1.heap.size w1 W) (((exact Below.r))) ((go_at_call 88;rw [HC.out];(with_reducible refine (rep_any 49 (s.size - a - 1) _ (by omega)).mono ?_);rintro e w2 ⟨rfl,hb2⟩))
 all_goals go_wp2_with fail
 all_goals go_ret2
 all_goals exact ⟨rfl,Below.trans hb1 (Below.mono (B:=w1.heap.size) (by assumption) hb1.size)⟩
set_option maxRecDepth 100000 in
set_option maxHeartbeats 1000000 in
theorem dwnB_no (s:ByteArray) (a:Nat) (w:World) (hb:isBits s=true) (h2:a < s.size) (h49:s.data.toList.getD a 48≠49):
  Calls Tryz.prog 59 #[.string s,.int .i64 a] w fun e w'=>e=.returned (.tuple #[.string ⟨#[]⟩,.int .i64 1])∧Below w.heap.size w w':=by
 have hs:=bits_le hb
 have hv:s[a].toNat≠49:=by
  rw [List.getD_eq_getElem?_getD,List.getElem?_eq_getElem (by rw [←size_list];exact h2)] at h49
  intro h5
  refine h49 ?_
  have:s[a]=49:=UInt8.toNat_inj.1 h5
  show s.data.toList[a]'(by rw [←size_list];exact h2)=49
  rw [←this];simp [ByteArray.getElem_eq_getElem_data]
 have HV:=hid hv
 have HB:=hid hb
 clear hb hv h49
 go_enter Tryz.func59,Tryz.ntmps59
 go_wp2_with (go_at_call 87;(refine (part_ok s a 1 _ HB.out (by omega) (by omega)).mono ?_);rintro e w1 ⟨rfl,hb1⟩)
 ·go_ret2
  exact ⟨rfl,Below.r⟩
 ·exfalso
  have:=HV.out
  have h5:=‹(_ != _)=false›
  simp at h5
  omega
set_option maxRecDepth 100000 in
set_option maxHeartbeats 1000000 in
theorem cmpB_any (a b:ByteArray) (w:World) (ha:a.size≤9223372036854775807) (hb:b.size≤9223372036854775807):
  Calls Tryz.prog 32 #[.string a,.string b] w fun e w'=>e=.returned (.int .i64 (cmpS a b))∧Below w.heap.size w w':=by
 generalize hF:cmpS a b=F
 have HF:=hid hF
 clear hF
 go_enter Tryz.func32,Tryz.ntmps32
 go_wp2_with (go_at_call 54;(with_reducible refine (cmp_lib a b _).mono ?_);rintro e w1 ⟨rfl,rfl⟩)
 all_goals go_ret
 all_goals refine ⟨ret_int ?_,Below.r⟩
 all_goals rw [←HF.out]
 all_goals unfold cmpS
 all_goals (first|rfl|omega|((try simp only [beq_iff_eq,beq_eq_false_iff_ne,bne_iff_ne,bne_eq_false_iff_eq,decide_eq_true_eq,decide_eq_false_iff_not,ne_eq,Bool.and_eq_true,Bool.or_eq_true,Bool.and_eq_false_iff,Bool.or_eq_false_iff,Bool.not_eq_true',Bool.not_eq_false'] at *);(repeat' split)<;>first|rfl|omega|contradiction|(simp_all;done)|(simp_all;omega)))
section
open Go Go.RowKit Go.Shelf
attribute [local go_sem] Oper.semAt_some
theorem strNe {a b:ByteArray} (h:¬a=b):(a.toList==b.toList)=false:=by
 refine beq_eq_false_iff_ne.2 fun e=>h ?_
 rw [ByteArray.toList_eq,ByteArray.toList_eq] at e
 exact ByteArray.ext (Array.ext' e)
theorem idxW0 (w:World):(Instr.index 151 (.agg #[.int .i64 8,.int .i64 4,.int .i64 2,.int .i64 1]) (.int .i64 0)).run Tryz.prog w=.ok (.int .i64 8) w:=by
 simp [Instr.index,run_underlying Tryz.underlying151,asIntOf,go_sem]
theorem idxW1 (w:World):(Instr.index 151 (.agg #[.int .i64 8,.int .i64 4,.int .i64 2,.int .i64 1]) (.int .i64 1)).run Tryz.prog w=.ok (.int .i64 4) w:=by
 simp [Instr.index,run_underlying Tryz.underlying151,asIntOf,go_sem]
theorem idxW2 (w:World):(Instr.index 151 (.agg #[.int .i64 8,.int .i64 4,.int .i64 2,.int .i64 1]) (.int .i64 2)).run Tryz.prog w=.ok (.int .i64 2) w:=by
 simp [Instr.index,run_underlying Tryz.underlying151,asIntOf,go_sem]
theorem idxW3 (w:World):(Instr.index 151 (.agg #[.int .i64 8,.int .i64 4,.int .i64 2,.int .i64 1]) (.int .i64 3)).run Tryz.prog w=.ok (.int .i64 1) w:=by
 simp [Instr.index,run_underlying Tryz.underlying151,asIntOf,go_sem]
theorem idxY0 (w:World) (a b:Value):(Instr.index 110 (.agg #[a,b]) (.int .i64 0)).run Tryz.prog w=.ok (.agg #[a]) w:=by
 simp [Instr.index,run_underlying Tryz.underlying110,asIntOf,go_sem]
theorem idxY1 (w:World) (a b:Value):(Instr.index 110 (.agg #[a,b]) (.int .i64 1)).run Tryz.prog w=.ok (.agg #[b]) w:=by
 simp [Instr.index,run_underlying Tryz.underlying110,asIntOf,go_sem]
theorem grown_below {W W':World} (h:Below W.heap.size W W'):W.grownBy W' none:=⟨h.os,h.tape,h.output,h.size,fun k hk _=>h.block k hk⟩
def GW (w:World):Prop:=At w 0 0 [.int .i64 8,.int .i64 4,.int .i64 2,.int .i64 1]
theorem GW.ext {w w':World} {S:Nat→Prop} (h:GW w) (hk:KC S w w') (h0:¬S 0):GW w':=At.ext (A:=fun b=>¬S b) (fun _ _ ha hc=>hk.cell ha hc) h0 _ _ h
theorem GW.below {w w':World} (h:GW w) (hb:Below w.heap.size w w'):GW w':=At.ext (A:=fun _=>True) (Agree.below hb) trivial _ _ h
def RowR (S:Nat→Prop) (J Jx:List Bit→World→Prop) (pre:List Bit) (l:List ByteArray) (W:World):Ending→World→Prop:=fun e W'=>
 (e=.returned (.bool true)∧(∃vs:List Bit,vs.map Subtype.val=l∧J (pre++vs) W')∧KC S W W')∨(e=.returned (.bool false)∧∃vs:List Bit,vs.map Subtype.val <+: l∧Jx (pre++vs) W')
set_option maxRecDepth 100000 in
set_option maxHeartbeats 4000000 in
theorem parts_cut (n l:Nat) (S:Nat→Prop) (N B0:Nat) (J Jx:List Bit→World→Prop) (hJ:AbidesFrom B0 J)
         (hY:∀m pre (x:Bit) W,J pre W→pre.length < N→YieldAt Fence.wide m Tryz.prog l #[.string x.1] W fun e W'=>
         (e=.returned (.bool true)∧J (pre++[x]) W'∧KC S W W')∨(e=.returned (.bool false)∧Jx (pre++[x]) W'))
         (u:ByteArray) (hu:isBits u=true) (h00:¬S 0) (pre:List Bit) (W:World) (hS:∀b,W.heap.size≤b→¬S b) (hG:GW W) (hj:J pre W) (hN:pre.length+4*(u.size+1)≤N):
  CallsIn Fence.wide n Tryz.prog 58 #[.agg #[.func (.func 85) #[] #[]],.string u,.func (.yield l) #[] #[]] W (RowR S J Jx pre (waysL cutS u) W):=by
 have hdd:∀k:Nat,(Fence.wide.depth.isSome=true→1≤k):=fun k h=>by cases h
 have hus:=bits_le hu
 have HS:=hid hS
 have HU:=hid hu
 obtain ⟨W1,hW1⟩:∃W1,W1=W.alloc (.cells #[.func (.func 85) #[] #[]] 109):=⟨_,rfl⟩
 have hj1:J pre W1:=by rw [hW1];exact hJ pre W _ none hj (World.grownBy_alloc W _ none) (fun r e=>by cases e)
 have HJP:=hid hj1
 have HCW:Hid (W1.cell? ⟨W.heap.size,0,none⟩=some (.func (.func 85) #[] #[])):=hid (by rw [hW1];go_simp)
 have hks:KC S W W1:=by rw [hW1];exact (KC.refl S W).alloc _
 have HKS:=hid hks
 obtain ⟨g0,g1,g2,g3, -⟩:=hG
 have lg:=World.block_lt_of_cell? _ _ g0
 clear hS hj hu hj1 hks
 refine callsIn_of_wp Tryz.func58 rfl trivial ?_ rfl
 simp only [Tryz.ntmps58,List.size_toArray,List.length_cons,List.length_nil,Nat.reduceAdd,Nat.reduceSub,Array.replicate_succ,Array.replicate_zero,List.push_toArray,List.append_toArray,List.nil_append,List.cons_append]
 gi_wp2_with fail
 rw [←hW1]
 have hsz1:W.heap.size < W1.heap.size:=by rw [hW1];simp
 clear hW1 g0 g1 g2 g3 lg
 gi_loopg [13] 4 (fun gk i wr=>∃j:Nat,gk+j=4∧i=.int .i64 j∧KC S W1 wr∧Hid (∃vs:List Bit,vs.map Subtype.val=preW cutS u j∧J (pre++vs) wr)∧W.heap.size < wr.heap.size)
 case atStart=>exact ⟨0,by omega,rfl,KC.refl _ _,hid ⟨[],rfl,by rw [List.append_nil];exact HJP.out⟩,hsz1⟩
 case round=>
  obtain ⟨i0,hi0,rfl,hk0,HJ0,hs0⟩:=hrel
  obtain ⟨gk0,hg0,hg1⟩:∃g,g+i0=4∧g=gk:=⟨gk,hi0,rfl⟩
  have HG1:=hid hg1
  clear hg1
  by_cases hlt0:i0 < 4
  ·obtain ⟨d,hwl,hd1,hd2,iw⟩:∃d:Nat,widthL[i0]? =some d∧1≤d∧d≤8∧∀w,(Instr.index 151 (.agg #[.int .i64 8,.int .i64 4,.int .i64 2,.int .i64 1]) (.int .i64 i0)).run Tryz.prog w=.ok (.int .i64 d) w:=by
    rcases (show i0=0∨i0=1∨i0=2∨i0=3 by omega) with rfl|rfl|rfl|rfl
    ·exact ⟨8,rfl,by omega,by omega,idxW0⟩
    ·exact ⟨4,rfl,by omega,by omega,idxW1⟩
    ·exact ⟨2,rfl,by omega,by omega,idxW2⟩
    ·exact ⟨1,rfl,by omega,by omega,idxW3⟩
   have HWL:=hid hwl
   have hb4:decide ((i0:Int) < 4)=true:=decide_eq_true (by omega)
   clear hwl
   gi_wp2_with fail
   gi_loopg [9] (u.size+1 - d) (fun gk i wr=>∃j:Nat,gk+j=u.size+1 - d∧i=.int .i64 j∧KC S W1 wr∧Hid (∃vs:List Bit,vs.map Subtype.val=preW cutS u i0++uptoW cutS u d j∧J (pre++vs) wr)∧W.heap.size < wr.heap.size)
   case atStart=>exact ⟨0,by omega,rfl,hk0,hid (by obtain ⟨vs,hvs,hjv⟩:=HJ0.out;exact ⟨vs,by rw [hvs];simp [uptoW],hjv⟩),hs0⟩
   case round=>
    obtain ⟨j,hj,rfl,hk,HJ1,hsr⟩:=hrel
    have cw:=hk.cell (p:=⟨W.heap.size,0,none⟩) (HS.out _ (Nat.le_refl _)) HCW.out
    by_cases hlt:j+d≤u.size
    ·have q1:decide ((j:Int)≤(u.size:Int) - (d:Int))=true:=decide_eq_true (by omega)
     obtain ⟨vs,hvs,hjv⟩:=HJ1.out
     have hvl:vs.length≤4*u.size:=by
      have h1:=congrArg List.length hvs
      rw [List.length_map,List.length_append] at h1
      have h2:=preW_len cutS u i0 (by omega)
      have h3:=uptoW_len cutS u d j
      omega
     have hxb:isBits (cutS u j d)=true:=cutS_bits HU.out (by omega)
     have HX:=hid hxb
     have HVS:=hid hvs
     have HJV:=hid hjv
     have C:∀m W3,KC S wr W3→J (pre++vs) W3→YieldAt Fence.wide m Tryz.prog l #[.string (cutS u j d)] W3 fun e W'=>(e=.returned (.bool true)∧Hid (J (pre++(vs++[⟨cutS u j d,HX.out⟩])) W')∧KC S wr W')∨(e=.returned (.bool false)∧Hid (Jx (pre++(vs++[⟨cutS u j d,HX.out⟩])) W')):=fun m W3 hk3 hj3=>
      YieldAt.mono (hY m (pre++vs) ⟨cutS u j d,HX.out⟩ W3 hj3 (by simp only [List.length_append];omega)) fun e W' h=>h.elim (fun ⟨he,h1,h2⟩=>.inl ⟨he,hid (by rw [←List.append_assoc];exact h1),hk3.trans h2⟩) (fun ⟨he,h1⟩=>.inr ⟨he,hid (by rw [←List.append_assoc];exact h1)⟩)
     have HC:=hid C
     clear C hvs hjv hxb HJ1 hvl
     by_cases hxu:cutS u j d=u
     ·have q2:((cutS u j d).toList==u.toList)=true:=by rw [hxu];exact beq_self_eq_true _
      have HXU:=hid hxu
      clear hxu
      gi_wp2_with (refine ⟨trivial,hdd _,?_⟩;gi_at_call 85;refine (callsIn_wide.2 (cutB_any u j d _ HU.out (by omega) (by omega))).mono ?_;rintro e w2 ⟨rfl,hb2⟩)
      go_roundg (gk - 1)
      case measure=>omega
      case rel=>exact ⟨j+1,by omega,by go_num,hk.below hb2,⟨vs,by rw [HVS.out,uptoW_same _ _ _ _ HXU.out],hJ _ _ _ none HJV.out (grown_below hb2) (fun r e=>by cases e)⟩,by have:=hb2.size;omega⟩
     ·have q2:((cutS u j d).toList==u.toList)=false:=strNe hxu
      have HXU:=hid hxu
      clear hxu
      gi_wp2_with (first
       | (refine ⟨trivial,hdd _,?_⟩;gi_at_call 85;refine (callsIn_wide.2 (cutB_any u j d _ HU.out (by omega) (by omega))).mono ?_;rintro e w2 ⟨rfl,hb2⟩;obtain ⟨fn,tmps,assign,body,hyy,hR⟩:=HC.out (n - 1) w2 ((KC.refl S wr).below hb2) (hJ _ _ _ none HJV.out (grown_below hb2) (fun r e=>by cases e)))
       | ((try refine ⟨hdd _,?_⟩);refine hR.mono ?_;clear hR;rintro e W2 (⟨rfl,hJ2,hk2⟩|⟨rfl,hx2⟩)))
      ·go_roundg (gk - 1)
       case measure=>omega
       case rel=>exact ⟨j+1,by omega,by go_num,hk.trans hk2,⟨vs++[⟨cutS u j d,HX.out⟩],by rw [List.map_append,HVS.out,uptoW_next _ _ _ _ HXU.out];simp,hJ2.out⟩,by have:=hk2.size;omega⟩
      ·go_ret
       refine .inr ⟨rfl,vs++[⟨cutS u j d,HX.out⟩],?_,hx2.out⟩
       rw [List.map_append,HVS.out,List.map_cons,List.map_nil,List.append_assoc,←uptoW_next _ _ _ _ HXU.out]
       exact pre_waysL cutS u i0 d (j+1) HWL.out (by omega)
    ·have q1:decide ((j:Int)≤(u.size:Int) - (d:Int))=false:=decide_eq_false (by omega)
     gi_wp2_with fail
     go_roundg (gk0 - 1)
     case measure=>have:=HG1.out;omega
     case rel=>exact ⟨i0+1,by omega,by go_num,hk,by
      obtain ⟨vs,hvs,hjv⟩:=HJ1.out
      exact ⟨vs,by rw [hvs,show j=u.size+1 - d by omega];exact preW_next cutS u i0 d HWL.out,hjv⟩,by omega⟩
  ·obtain rfl:i0=4:=by omega
   gi_wp2_with fail
   go_ret
   obtain ⟨vs,hvs,hjv⟩:=HJ0.out
   exact .inl ⟨rfl,⟨vs,by rw [hvs,preW_all],hjv⟩,HKS.out.trans hk0⟩
set_option maxRecDepth 100000 in
set_option maxHeartbeats 4000000 in
theorem parts_clr (n l:Nat) (S:Nat→Prop) (N B0:Nat) (J Jx:List Bit→World→Prop) (hJ:AbidesFrom B0 J)
         (hY:∀m pre (x:Bit) W,J pre W→pre.length < N→YieldAt Fence.wide m Tryz.prog l #[.string x.1] W fun e W'=>
         (e=.returned (.bool true)∧J (pre++[x]) W'∧KC S W W')∨(e=.returned (.bool false)∧Jx (pre++[x]) W'))
         (u:ByteArray) (hu:isBits u=true) (h00:¬S 0) (pre:List Bit) (W:World) (hS:∀b,W.heap.size≤b→¬S b) (hG:GW W) (hj:J pre W) (hN:pre.length+4*(u.size+1)≤N):
  CallsIn Fence.wide n Tryz.prog 58 #[.agg #[.func (.func 86) #[] #[]],.string u,.func (.yield l) #[] #[]] W (RowR S J Jx pre (waysL clrS u) W):=by
 have hdd:∀k:Nat,(Fence.wide.depth.isSome=true→1≤k):=fun k h=>by cases h
 have hus:=bits_le hu
 have HS:=hid hS
 have HU:=hid hu
 obtain ⟨W1,hW1⟩:∃W1,W1=W.alloc (.cells #[.func (.func 86) #[] #[]] 109):=⟨_,rfl⟩
 have hj1:J pre W1:=by rw [hW1];exact hJ pre W _ none hj (World.grownBy_alloc W _ none) (fun r e=>by cases e)
 have HJP:=hid hj1
 have HCW:Hid (W1.cell? ⟨W.heap.size,0,none⟩=some (.func (.func 86) #[] #[])):=hid (by rw [hW1];go_simp)
 have hks:KC S W W1:=by rw [hW1];exact (KC.refl S W).alloc _
 have HKS:=hid hks
 obtain ⟨g0,g1,g2,g3, -⟩:=hG
 have lg:=World.block_lt_of_cell? _ _ g0
 clear hS hj hu hj1 hks
 refine callsIn_of_wp Tryz.func58 rfl trivial ?_ rfl
 simp only [Tryz.ntmps58,List.size_toArray,List.length_cons,List.length_nil,Nat.reduceAdd,Nat.reduceSub,Array.replicate_succ,Array.replicate_zero,List.push_toArray,List.append_toArray,List.nil_append,List.cons_append]
 gi_wp2_with fail
 rw [←hW1]
 have hsz1:W.heap.size < W1.heap.size:=by rw [hW1];simp
 clear hW1 g0 g1 g2 g3 lg
 gi_loopg [13] 4 (fun gk i wr=>∃j:Nat,gk+j=4∧i=.int .i64 j∧KC S W1 wr∧Hid (∃vs:List Bit,vs.map Subtype.val=preW clrS u j∧J (pre++vs) wr)∧W.heap.size < wr.heap.size)
 case atStart=>exact ⟨0,by omega,rfl,KC.refl _ _,hid ⟨[],rfl,by rw [List.append_nil];exact HJP.out⟩,hsz1⟩
 case round=>
  obtain ⟨i0,hi0,rfl,hk0,HJ0,hs0⟩:=hrel
  obtain ⟨gk0,hg0,hg1⟩:∃g,g+i0=4∧g=gk:=⟨gk,hi0,rfl⟩
  have HG1:=hid hg1
  clear hg1
  by_cases hlt0:i0 < 4
  ·obtain ⟨d,hwl,hd1,hd2,iw⟩:∃d:Nat,widthL[i0]? =some d∧1≤d∧d≤8∧∀w,(Instr.index 151 (.agg #[.int .i64 8,.int .i64 4,.int .i64 2,.int .i64 1]) (.int .i64 i0)).run Tryz.prog w=.ok (.int .i64 d) w:=by
    rcases (show i0=0∨i0=1∨i0=2∨i0=3 by omega) with rfl|rfl|rfl|rfl
    ·exact ⟨8,rfl,by omega,by omega,idxW0⟩
    ·exact ⟨4,rfl,by omega,by omega,idxW1⟩
    ·exact ⟨2,rfl,by omega,by omega,idxW2⟩
    ·exact ⟨1,rfl,by omega,by omega,idxW3⟩
   have HWL:=hid hwl
   have hb4:decide ((i0:Int) < 4)=true:=decide_eq_true (by omega)
   clear hwl
   gi_wp2_with fail
   gi_loopg [9] (u.size+1 - d) (fun gk i wr=>∃j:Nat,gk+j=u.size+1 - d∧i=.int .i64 j∧KC S W1 wr∧Hid (∃vs:List Bit,vs.map Subtype.val=preW clrS u i0++uptoW clrS u d j∧J (pre++vs) wr)∧W.heap.size < wr.heap.size)
   case atStart=>exact ⟨0,by omega,rfl,hk0,hid (by obtain ⟨vs,hvs,hjv⟩:=HJ0.out;exact ⟨vs,by rw [hvs];simp [uptoW],hjv⟩),hs0⟩
   case round=>
    obtain ⟨j,hj,rfl,hk,HJ1,hsr⟩:=hrel
    have cw:=hk.cell (p:=⟨W.heap.size,0,none⟩) (HS.out _ (Nat.le_refl _)) HCW.out
    by_cases hlt:j+d≤u.size
    ·have q1:decide ((j:Int)≤(u.size:Int) - (d:Int))=true:=decide_eq_true (by omega)
     obtain ⟨vs,hvs,hjv⟩:=HJ1.out
     have hvl:vs.length≤4*u.size:=by
      have h1:=congrArg List.length hvs
      rw [List.length_map,List.length_append] at h1
      have h2:=preW_len clrS u i0 (by omega)
      have h3:=uptoW_len clrS u d j
      omega
     have hxb:isBits (clrS u j d)=true:=clrS_bits HU.out (by omega)
     have HX:=hid hxb
     have HVS:=hid hvs
     have HJV:=hid hjv
     have C:∀m W3,KC S wr W3→J (pre++vs) W3→YieldAt Fence.wide m Tryz.prog l #[.string (clrS u j d)] W3 fun e W'=>(e=.returned (.bool true)∧Hid (J (pre++(vs++[⟨clrS u j d,HX.out⟩])) W')∧KC S wr W')∨(e=.returned (.bool false)∧Hid (Jx (pre++(vs++[⟨clrS u j d,HX.out⟩])) W')):=fun m W3 hk3 hj3=>
      YieldAt.mono (hY m (pre++vs) ⟨clrS u j d,HX.out⟩ W3 hj3 (by simp only [List.length_append];omega)) fun e W' h=>h.elim (fun ⟨he,h1,h2⟩=>.inl ⟨he,hid (by rw [←List.append_assoc];exact h1),hk3.trans h2⟩) (fun ⟨he,h1⟩=>.inr ⟨he,hid (by rw [←List.append_assoc];exact h1)⟩)
     have HC:=hid C
     clear C hvs hjv hxb HJ1 hvl
     by_cases hxu:clrS u j d=u
     ·have q2:((clrS u j d).toList==u.toList)=true:=by rw [hxu];exact beq_self_eq_true _
      have HXU:=hid hxu
      clear hxu
      gi_wp2_with (refine ⟨trivial,hdd _,?_⟩;gi_at_call 86;refine (callsIn_wide.2 (clrB_any u j d _ HU.out (by omega) (by omega))).mono ?_;rintro e w2 ⟨rfl,hb2⟩)
      go_roundg (gk - 1)
      case measure=>omega
      case rel=>exact ⟨j+1,by omega,by go_num,hk.below hb2,⟨vs,by rw [HVS.out,uptoW_same _ _ _ _ HXU.out],hJ _ _ _ none HJV.out (grown_below hb2) (fun r e=>by cases e)⟩,by have:=hb2.size;omega⟩
     ·have q2:((clrS u j d).toList==u.toList)=false:=strNe hxu
      have HXU:=hid hxu
      clear hxu
      gi_wp2_with (first
       | (refine ⟨trivial,hdd _,?_⟩;gi_at_call 86;refine (callsIn_wide.2 (clrB_any u j d _ HU.out (by omega) (by omega))).mono ?_;rintro e w2 ⟨rfl,hb2⟩;obtain ⟨fn,tmps,assign,body,hyy,hR⟩:=HC.out (n - 1) w2 ((KC.refl S wr).below hb2) (hJ _ _ _ none HJV.out (grown_below hb2) (fun r e=>by cases e)))
       | ((try refine ⟨hdd _,?_⟩);refine hR.mono ?_;clear hR;rintro e W2 (⟨rfl,hJ2,hk2⟩|⟨rfl,hx2⟩)))
      ·go_roundg (gk - 1)
       case measure=>omega
       case rel=>exact ⟨j+1,by omega,by go_num,hk.trans hk2,⟨vs++[⟨clrS u j d,HX.out⟩],by rw [List.map_append,HVS.out,uptoW_next _ _ _ _ HXU.out];simp,hJ2.out⟩,by have:=hk2.size;omega⟩
      ·go_ret
       refine .inr ⟨rfl,vs++[⟨clrS u j d,HX.out⟩],?_,hx2.out⟩
       rw [List.map_append,HVS.out,List.map_cons,List.map_nil,List.append_assoc,←uptoW_next _ _ _ _ HXU.out]
       exact pre_waysL clrS u i0 d (j+1) HWL.out (by omega)
    ·have q1:decide ((j:Int)≤(u.size:Int) - (d:Int))=false:=decide_eq_false (by omega)
     gi_wp2_with fail
     go_roundg (gk0 - 1)
     case measure=>have:=HG1.out;omega
     case rel=>exact ⟨i0+1,by omega,by go_num,hk,by
      obtain ⟨vs,hvs,hjv⟩:=HJ1.out
      exact ⟨vs,by rw [hvs,show j=u.size+1 - d by omega];exact preW_next clrS u i0 d HWL.out,hjv⟩,by omega⟩
  ·obtain rfl:i0=4:=by omega
   gi_wp2_with fail
   go_ret
   obtain ⟨vs,hvs,hjv⟩:=HJ0.out
   exact .inl ⟨rfl,⟨vs,by rw [hvs,preW_all],hjv⟩,HKS.out.trans hk0⟩
end
section
open Go Go.RowKit Go.Shelf
attribute [local go_sem] Oper.semAt_some
attribute [local go_sem] run_store_fn
theorem each_any (u:ByteArray) (w:World):Calls Tryz.prog 33 #[.string u] w fun e w'=>e=.returned (.func (.func 55) #[] #[.pointer (some ⟨w.heap.size,0,none⟩)])∧w'=w.alloc (.cells #[.string u] 9):=by
 go_enter Tryz.func33,Tryz.ntmps33
 go_wp2_with fail
 go_ret
 exact ⟨rfl,rfl⟩
theorem ways_any (w:World):Calls Tryz.prog 57 #[] w fun e w'=>e=.returned (.agg #[.func (.func 85) #[] #[],.func (.func 86) #[] #[]])∧Below w.heap.size w w':=by
 go_enter Tryz.func57,Tryz.ntmps57
 go_wp2_with fail
 refine bodyPost_ret (v:=.agg #[.func (.func 85) #[] #[],.func (.func 86) #[] #[]]) (by first|(simp [results,Tryz.f57,go_sem];done)|(simp [results,Tryz.f57,go_sem, *];done)) rfl ?_
 exact ⟨rfl,Below.r⟩
def preE (u:ByteArray):Nat→List ByteArray
 | 0=>[]
 | 1=>waysL cutS u
 | _=>waysL cutS u++waysL clrS u
theorem preE_pre (u:ByteArray) (i:Nat) {r:List ByteArray} (h:r <+: (if i=0 then waysL cutS u else waysL clrS u)):preE u (if i=0 then 0 else 1)++r <+: candL u:=by
 by_cases h0:i=0
 ·rw [if_pos h0] at h ⊢
  exact h.trans (List.prefix_append _ _)
 ·rw [if_neg h0] at h ⊢
  refine (List.prefix_append_right_inj _).2 (h.trans (List.prefix_append _ _))
def EachR (J Jx:List Bit→World→Prop) (u:ByteArray):Ending→World→Prop:=fun e W'=>
 (∃v,e=.returned v)∧((∃vs:List Bit,vs.map Subtype.val=candL u∧J vs W')∨(∃vs:List Bit,vs.map Subtype.val <+: candL u∧Jx vs W'))
set_option maxRecDepth 100000 in
set_option maxHeartbeats 4000000 in
theorem each1_in (n l:Nat) (S:Nat→Prop) (N:Nat) (J Jx:List Bit→World→Prop) (u:ByteArray) (W:World) (hJ:AbidesFrom W.heap.size J)
  (hY:∀m pre (x:Bit) W,J pre W→pre.length < N→YieldAt Fence.wide m Tryz.prog l #[.string x.1] W fun e W'=>
   (e=.returned (.bool true)∧J (pre++[x]) W'∧KC S W W')∨(e=.returned (.bool false)∧Jx (pre++[x]) W'))
  (hu:isBits u=true) (h00:¬S 0) (Bt:Nat) (hBt:¬S Bt) (c0:W.cell? ⟨Bt,0,none⟩=some (.string u)) (hS:∀b,W.heap.size≤b→¬S b) (hG:GW W) (h0:J [] W) (hN:9*(u.size+1)≤N):
  CallsIn Fence.wide n Tryz.prog 55 #[.func (.yield l) #[] #[],.pointer (some ⟨Bt,0,none⟩)] W (EachR J Jx u):=by
 have hdd:∀k:Nat,(Fence.wide.depth.isSome=true→1≤k):=fun k h=>by cases h
 have hus:=bits_le hu
 have hBtl:=World.block_lt_of_cell? _ _ c0
 have HS:=hid hS
 have HU:=hid hu
 have HJ:=hid h0
 have HG:=hid hG
 have HC0:=hid c0
 clear hS h0 hu hG
 refine callsIn_of_wp Tryz.func55 rfl trivial ?_ rfl
 simp only [Tryz.ntmps55,List.size_toArray,List.length_cons,List.length_nil,Nat.reduceAdd,Nat.reduceSub,Array.replicate_succ,Array.replicate_zero,List.push_toArray,List.append_toArray,List.nil_append,List.cons_append]
 gi_wp2_with (first
  | (refine ⟨trivial,hdd _,?_⟩;gi_at_call 56;refine (callsIn_wide.2 (isBits_any u _ (by omega))).mono ?_;rw [HU.out];rintro e w1 ⟨rfl,hb1⟩)
  | (refine ⟨trivial,hdd _,?_⟩;gi_at_call 57;refine (callsIn_wide.2 (ways_any _)).mono ?_;rintro e w2 ⟨rfl,hb2⟩))
 have hk2:KC S W w2:=((KC.refl S W).below hb1).below hb2
 have hj2:J [] w2:=hJ _ _ _ none (hJ _ _ _ none HJ.out (grown_below hb1) (fun r e=>by cases e)) (grown_below hb2) (fun r e=>by cases e)
 have HK2:=hid hk2
 have HJ2:=hid hj2
 clear hk2 hj2 hb1 hb2 c0
 gi_loopg [12] 2 (fun gk i wr=>∃j:Nat,gk+j=2∧i=.int .i64 j∧KC S W wr∧Hid (∃vs:List Bit,vs.map Subtype.val=preE u j∧J vs wr))
 case atStart=>exact ⟨0,by omega,rfl,HK2.out,hid ⟨[],rfl,HJ2.out⟩⟩
 case round=>
  obtain ⟨i,hi,rfl,hk,HJ0⟩:=hrel
  have hzk:=hk.size
  have cu:=hk.cell (p:=⟨Bt,0,none⟩) hBt HC0.out
  have lu:=World.block_lt_of_cell? _ _ cu
  by_cases hlt:i < 2
  ·rcases (show i=0∨i=1 by omega) with rfl|rfl
   ·obtain ⟨vs,hvs,hjv⟩:=HJ0.out
    have hvl:vs.length≤4*u.size:=by
     have h1:=congrArg List.length hvs
     rw [List.length_map] at h1
     have h2:=waysL_len cutS u
     simp only [preE,List.length_nil] at h1
     omega
    have HVS:=hid hvs
    have HJV:=hid hjv
    have iy0:=idxY0
    have iy1:=idxY1
    clear hvs hjv HJ0
    have C:∀W3,KC S wr W3→J vs W3→W.heap.size≤W3.heap.size→GW W3→CallsIn Fence.wide (n - 1) Tryz.prog 58 _ W3 (RowR S J Jx vs (waysL cutS u) W3):=fun W3 hk3 hj3 hs3 hg3=>
     parts_cut (n - 1) l S N W.heap.size J Jx hJ hY u HU.out h00 vs W3 (fun b hb=>HS.out b (by omega)) hg3 hj3 (by omega)
    gi_wp2_with (refine ⟨trivial,hdd _,?_⟩;gi_at_call 58;refine (C _ ((KC.refl S wr).alloc _) (hJ _ _ _ none HJV.out (World.grownBy_alloc wr _ none) (fun r e=>by cases e)) (by simp;omega) ((HG.out.ext hk h00).ext ((KC.refl S wr).alloc _) h00)).mono ?_;clear C;rintro e W4 (⟨rfl,⟨vs',h1,h2⟩,hk4⟩|⟨rfl,vs',h1,h2⟩))
    ·go_roundg (gk - 1)
     case measure=>omega
     case rel=>exact ⟨0+1,by omega,by go_num,(hk.alloc _).trans hk4,⟨vs++vs',by rw [List.map_append,HVS.out];rw [h1];rfl,h2⟩⟩
    ·go_end0
     refine ⟨⟨_,rfl⟩,.inr ⟨vs++vs',?_,h2⟩⟩
     rw [List.map_append,HVS.out]
     exact preE_pre u 0 h1
   ·obtain ⟨vs,hvs,hjv⟩:=HJ0.out
    have hvl:vs.length≤4*u.size:=by
     have h1:=congrArg List.length hvs
     rw [List.length_map] at h1
     have h2:=waysL_len cutS u
     simp only [preE,List.length_nil] at h1
     omega
    have HVS:=hid hvs
    have HJV:=hid hjv
    have iy0:=idxY0
    have iy1:=idxY1
    clear hvs hjv HJ0
    have C:∀W3,KC S wr W3→J vs W3→W.heap.size≤W3.heap.size→GW W3→CallsIn Fence.wide (n - 1) Tryz.prog 58 _ W3 (RowR S J Jx vs (waysL clrS u) W3):=fun W3 hk3 hj3 hs3 hg3=>
     parts_clr (n - 1) l S N W.heap.size J Jx hJ hY u HU.out h00 vs W3 (fun b hb=>HS.out b (by omega)) hg3 hj3 (by omega)
    gi_wp2_with (refine ⟨trivial,hdd _,?_⟩;gi_at_call 58;refine (C _ ((KC.refl S wr).alloc _) (hJ _ _ _ none HJV.out (World.grownBy_alloc wr _ none) (fun r e=>by cases e)) (by simp;omega) ((HG.out.ext hk h00).ext ((KC.refl S wr).alloc _) h00)).mono ?_;clear C;rintro e W4 (⟨rfl,⟨vs',h1,h2⟩,hk4⟩|⟨rfl,vs',h1,h2⟩))
    ·go_roundg (gk - 1)
     case measure=>omega
     case rel=>exact ⟨1+1,by omega,by go_num,(hk.alloc _).trans hk4,⟨vs++vs',by rw [List.map_append,HVS.out];rw [h1];rfl,h2⟩⟩
    ·go_end0
     refine ⟨⟨_,rfl⟩,.inr ⟨vs++vs',?_,h2⟩⟩
     rw [List.map_append,HVS.out]
     exact preE_pre u 1 h1
  ·obtain rfl:i=2:=by omega
   gi_wp2_with fail
   have HK3:=hid hk
   clear hk hzk cu lu
   gi_loopg [23] u.size (fun gk i wr=>∃j:Nat,gk+j=u.size∧i=.int .i64 j∧KC S W wr∧Hid (∃vs:List Bit,vs.map Subtype.val=waysL cutS u++(waysL clrS u++uptoD u j)∧J vs wr))
   case atStart=>exact ⟨0,by omega,rfl,HK3.out,hid (by obtain ⟨vs,h1,h2⟩:=HJ0.out;exact ⟨vs,by rw [h1];simp [preE,uptoD],h2⟩)⟩
   case round=>
    obtain ⟨j,hj,rfl,hk,HJ1⟩:=hrel
    have hzk:=hk.size
    have cu:=hk.cell (p:=⟨Bt,0,none⟩) hBt HC0.out
    have lu:=World.block_lt_of_cell? _ _ cu
    by_cases hlt2:j < u.size
    ·obtain ⟨vs,hvs,hjv⟩:=HJ1.out
     have hvl:vs.length≤9*u.size:=by
      have h1:=congrArg List.length hvs
      rw [List.length_map,List.length_append,List.length_append] at h1
      have h2:=waysL_len cutS u
      have h3:=waysL_len clrS u
      have h4:=uptoD_len u j
      omega
     have HVS:=hid hvs
     have HJV:=hid hjv
     by_cases h49:u.data.toList.getD j 48=49
     ·have HX:=hid (dwnS_bits HU.out hlt2)
      have H49:=hid h49
      have C:∀m W3,KC S wr W3→J vs W3→YieldAt Fence.wide m Tryz.prog l #[.string (dwnS u j)] W3 fun e W'=>(e=.returned (.bool true)∧Hid (J (vs++[⟨dwnS u j,HX.out⟩]) W')∧KC S wr W')∨(e=.returned (.bool false)∧Hid (Jx (vs++[⟨dwnS u j,HX.out⟩]) W')):=fun m W3 hk3 hj3=>
       YieldAt.mono (hY m vs ⟨dwnS u j,HX.out⟩ W3 hj3 (by omega)) fun e W' h=>h.elim (fun ⟨he,h1,h2⟩=>.inl ⟨he,hid h1,hk3.trans h2⟩) (fun ⟨he,h1⟩=>.inr ⟨he,hid h1⟩)
      have HC:=hid C
      clear C hvs hjv HJ1 hvl h49
      gi_wp2_with (first
       | (refine ⟨trivial,hdd _,?_⟩;gi_at_call 59;refine (callsIn_wide.2 (dwnB_any u j _ HU.out hlt2 H49.out)).mono ?_;rintro e w4 ⟨rfl,hb4⟩;obtain ⟨fn,tmps,assign,body,hyy,hR⟩:=HC.out (n - 1) w4 ((KC.refl S wr).below hb4) (hJ _ _ _ none HJV.out (grown_below hb4) (fun r e=>by cases e)))
       | ((try refine ⟨hdd _,?_⟩);refine hR.mono ?_;clear hR;rintro e W2 (⟨rfl,hJ2,hk2⟩|⟨rfl,hx2⟩)))
      ·go_roundg (gk - 1)
       case measure=>omega
       case rel=>exact ⟨j+1,by omega,by go_num,hk.trans hk2,⟨vs++[⟨dwnS u j,HX.out⟩],by rw [List.map_append,HVS.out,uptoD_next _ _ H49.out];simp,hJ2.out⟩⟩
      ·go_end0
       refine ⟨⟨_,rfl⟩,.inr ⟨vs++[⟨dwnS u j,HX.out⟩],?_,hx2.out⟩⟩
       rw [List.map_append,HVS.out,List.map_cons,List.map_nil]
       have:=pre_candL u (j+1) (by omega)
       rw [uptoD_next _ _ H49.out] at this
       simpa using this
     ·have H49:=hid h49
      clear hvs hjv HJ1 hvl h49
      gi_wp2_with (refine ⟨trivial,hdd _,?_⟩;gi_at_call 59;refine (callsIn_wide.2 (dwnB_no u j _ HU.out hlt2 H49.out)).mono ?_;rintro e w4 ⟨rfl,hb4⟩)
      refine ⟨fun _ h=>(by cases h),?_⟩
      gi_wp2_with fail
      go_roundg (gk - 1)
      case measure=>omega
      case rel=>exact ⟨j+1,by omega,by go_num,hk.below hb4,⟨vs,by rw [HVS.out,uptoD_same _ _ H49.out],hJ _ _ _ none HJV.out (grown_below hb4) (fun r e=>by cases e)⟩⟩
    ·obtain rfl:j=u.size:=by omega
     gi_wp2_with fail
     go_end0
     obtain ⟨vs,h1,h2⟩:=HJ1.out
     exact ⟨⟨_,rfl⟩,.inl ⟨vs,by rw [h1,uptoD_all];rfl,h2⟩⟩
theorem each_stops (n:Nat) (S:Nat→Prop) (u:ByteArray) (w:World) (Bt:Nat) (hu:isBits u=true) (h00:¬S 0) (hBt:¬S Bt) (c0:w.cell? ⟨Bt,0,none⟩=some (.string u)) (hS:∀b,w.heap.size≤b→¬S b) (hG:GW w):
  SeqStopsK Fence.wide n Tryz.prog 55 #[.pointer (some ⟨Bt,0,none⟩)] (fun x:Bit=>#[.string x.1]) (KC S) (fun vs=>vs.map Subtype.val=candL u) (fun vs=>vs.map Subtype.val <+: candL u) 100000 w:=fun l J Jx W hW hJ _ hY h0=>
 (each1_in n l S 100000 J Jx u W hJ (fun m pre x W h1 h2=>yieldAt_any rfl m (hY pre x W h1 h2)) hu h00 Bt hBt ((hW.cell (World.block_lt_of_cell? _ _ c0)).trans c0) (fun b hb=>hS b (by have:=hW.size;omega)) (hG.below hW) h0 (by have:=bits_le hu;omega)).mono fun e W' h=>h
end
end Go.Proofs.YtojjdneicmbfjaaGreatDoor
