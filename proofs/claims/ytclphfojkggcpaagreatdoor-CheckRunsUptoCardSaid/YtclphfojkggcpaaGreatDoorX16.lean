/- Part 17. -/
import Derived.Lib.LaidTab
import Derived.Test.YtclphfojkggcpaaGreatDoorRows
import Derived.Test.YtclphfojkggcpaaGreatDoorX14
import Derived.Test.YtclphfojkggcpaaGreatDoorX15
set_option linter.all false
namespace Go.Proofs.YtclphfojkggcpaaGreatDoor
open Go.Lib (hid)
open Go Go.RowKit Go.Proofs.Tryz
theorem Zgu (b:UInt8) (n:Nat) (w:World) (hn:n≤1024):Calls prog 138 #[.string ⟨#[b]⟩,.int .i64 n] w fun e w'=>e=.returned (.string (V9 b n))∧Below w.heap.size w w':=
 Any.strings_Repeat Tryz.lays105 Tryz.extra105 ⟨#[b]⟩ n w om (by simp [ByteArray.size];omega)
theorem Wl {s:ByteArray} (h:Zc s=true):s.size≤1024:=(YL.1 h).1
set_option maxRecDepth 100000
set_option maxHeartbeats 1000000
theorem ZaM (s:ByteArray) (a n:Nat) (w:World) (hb:Zc s=true) (h1:1≤n) (h2:a+n≤s.size):
  Calls prog 137 #[.string s,.int .i64 a,.int .i64 n] w fun e w'=>e=.returned (.int .i64 0)∧Below w.heap.size w w':=by
 have hs:=Wl hb
 have q1:decide ((n:Int) < 1)=false:=decide_eq_false om
 have q2:decide ((s.size:Int) < (n:Int))=false:=decide_eq_false om
 have q3:decide ((a:Int) < 0)=false:=decide_eq_false om
 have q4:decide ((s.size:Int) - (n:Int) < (a:Int))=false:=decide_eq_false om
 have HB:=hid hb
 clear hb
 go_enter func137,ntmps137
 go_wp2_with (go_at_call 74;(with_reducible refine (UT s _ om).mono ?_);rw [HB.out];rintro e w1 ⟨rfl,hb1⟩)
 all_goals first|(exfalso;omega)|skip
 all_goals go_ret
 all_goals exact ⟨rfl,ZlD⟩
theorem ZdO (s:ByteArray) (a n:Nat) (w:World) (hb:Zc s=true) (h1:1≤n) (h2:a+n≤s.size):
  Calls prog 135 #[.string s,.int .i64 a,.int .i64 n] w fun e w'=>e=.returned (.tuple #[.string (Yq s a n),.int .i64 0])∧Below w.heap.size w w':=by
 have hs:=Wl hb
 have x1:(a:Int)≤(s.size:Int):=om
 have x2:(0:Int)≤(a:Int)+(n:Int):=om
 have x3:(a:Int)+(n:Int)≤(s.size:Int):=om
 have x4:¬9223372036854775807 < min a s.size+(s.size - (a+n)):=om
 have ht:((a:Int)+(n:Int)).toNat=a+n:=om
 have wm:IntKind.i64.wrap ((a:Int)+(n:Int))=(a:Int)+(n:Int):=IntWalk.i64_in _ om
 have HB:=hid hb
 clear hb
 go_enter func135,ntmps135
 go_wp2_with (go_at_call 137;(with_reducible refine (ZaM s a n _ HB.out h1 h2).mono ?_);rintro e w1 ⟨rfl,hb1⟩)
 go_region_held3 (fun W=>Below w1.heap.size w1 W) (((exact ZlD))) ((fail))
 all_goals go_wp2_with fail
 all_goals go_ret2
 all_goals exact ⟨rfl,ZlD⟩
set_option maxRecDepth 512
theorem ZoV {p:Prop} (h:p:=by
 go_wp2_with fail
 all_goals go_ret2
 all_goals exact ⟨rfl,Below.trans hb1 (Below.mono (B:=w1.heap.size) (by assumption) hb1.size)⟩):p:=h
set_option maxRecDepth 100000
theorem ZdL (s:ByteArray) (a n:Nat) (w:World) (hb:Zc s=true) (h1:1≤n) (h2:a+n≤s.size):
  Calls prog 136 #[.string s,.int .i64 a,.int .i64 n] w fun e w'=>e=.returned (.tuple #[.string (YU s a n),.int .i64 0])∧Below w.heap.size w w':=by
 have hs:=Wl hb
 have x1:(a:Int)≤(s.size:Int):=om
 have x2:(0:Int)≤(a:Int)+(n:Int):=om
 have x3:(a:Int)+(n:Int)≤(s.size:Int):=om
 have x5:(V9 48 n).size=n:=by rw [ZK,Wx];simp
 have x4:¬9223372036854775807 < min a s.size+(V9 48 n).size:=om
 have x6:¬9223372036854775807 < min a s.size+(V9 48 n).size+(s.size - (a+n)):=om
 have ht:((a:Int)+(n:Int)).toNat=a+n:=om
 have wm:IntKind.i64.wrap ((a:Int)+(n:Int))=(a:Int)+(n:Int):=IntWalk.i64_in _ om
 have HB:=hid hb
 clear hb x5
 go_enter func136,ntmps136
 go_wp2_with (go_at_call 137;(with_reducible refine (ZaM s a n _ HB.out h1 h2).mono ?_);rintro e w1 ⟨rfl,hb1⟩)
 go_region_held3 (fun W=>Below w1.heap.size w1 W) (((exact ZlD))) ((go_at_call 138;(with_reducible refine (Zgu 48 n _ om).mono ?_);rintro e w2 ⟨rfl,hb2⟩))
 all_goals exact ZoV
theorem ZhZ (s:ByteArray) (a:Nat) (w:World) (hb:Zc s=true) (h2:a < s.size) (h49:s.data.toList.getD a 48=49):
  Calls prog 86 #[.string s,.int .i64 a] w fun e w'=>e=.returned (.tuple #[.string (V7 s a),.int .i64 0])∧Below w.heap.size w w':=by
 have hs:=Wl hb
 have x1:(a:Int)≤(s.size:Int):=om
 have x5:(V9 49 (s.size - a - 1)).size=s.size - a - 1:=by rw [ZK,Wx];simp
 have x4:¬9223372036854775807 < min a s.size+1:=om
 have x6:¬9223372036854775807 < min a s.size+1+(V9 49 (s.size - a - 1)).size:=om
 have wm:IntKind.i64.wrap ((s.size:Int) - (a:Int))=(s.size:Int) - (a:Int):=IntWalk.i64_in _ om
 have wm1:IntKind.i64.wrap ((s.size:Int) - (a:Int) - 1)=(s.size:Int) - (a:Int) - 1:=IntWalk.i64_in _ om
 have hc:(s.size:Int) - (a:Int) - 1=((s.size - a - 1:Nat):Int):=om
 have HC:=hid hc
 have hv:s[a].toNat=49:=by
  rw [List.getD_eq_getElem?_getD,List.getElem?_eq_getElem (by rw [←ZK];exact h2)] at h49
  have h50:s.data.toList[a]'(by rw [←ZK];exact h2)=49:=h49
  have:s[a]=49:=by rw [←h50];simp [ByteArray.getElem_eq_getElem_data]
  rw [this];rfl
 have HV:=hid hv
 have HB:=hid hb
 clear hb x5 hc hv h49
 go_enter func86,ntmps86
 go_wp2_with (go_at_call 137;(refine (ZaM s a 1 _ HB.out om om).mono ?_);rintro e w1 ⟨rfl,hb1⟩)
 ·exfalso
  have:=HV.out
  have h5:=‹(_ != _)=true›
  simp at h5
  omega
 go_region_held3 (fun W=>Below w1.heap.size w1 W) (((exact ZlD))) ((go_at_call 138;rw [HC.out];(with_reducible refine (Zgu 49 (s.size - a - 1) _ om).mono ?_);rintro e w2 ⟨rfl,hb2⟩))
 all_goals exact ZoV
theorem Zjc (s:ByteArray) (a:Nat) (w:World) (hb:Zc s=true) (h2:a < s.size) (h49:s.data.toList.getD a 48≠49):
  Calls prog 86 #[.string s,.int .i64 a] w fun e w'=>e=.returned (.tuple #[.string ⟨#[]⟩,.int .i64 1])∧Below w.heap.size w w':=by
 have hs:=Wl hb
 have hv:s[a].toNat≠49:=by
  rw [List.getD_eq_getElem?_getD,List.getElem?_eq_getElem (by rw [←ZK];exact h2)] at h49
  intro h5
  refine h49 ?_
  have:s[a]=49:=UInt8.toNat_inj.1 h5
  show s.data.toList[a]'(by rw [←ZK];exact h2)=49
  rw [←this];simp [ByteArray.getElem_eq_getElem_data]
 have HV:=hid hv
 have HB:=hid hb
 clear hb hv h49
 go_enter func86,ntmps86
 go_wp2_with (go_at_call 137;(refine (ZaM s a 1 _ HB.out om om).mono ?_);rintro e w1 ⟨rfl,hb1⟩)
 ·go_ret2
  exact ⟨rfl,ZlD⟩
 exfalso
 have:=HV.out
 have h5:=‹(_ != _)=false›
 simp at h5
 omega
section
open Go Go.RowKit Go.Shelf
attribute [local go_sem] Oper.semAt_some
set_option maxRecDepth 512
theorem ZiH {a b:ByteArray} (h:¬a=b):(a.toList==b.toList)=false:=by
 refine beq_eq_false_iff_ne.2 fun e=>h ?_
 rw [ByteArray.toList_eq,ByteArray.toList_eq] at e
 exact ByteArray.ext (Array.ext' e)
theorem ZlZ {p:Prop} (h:p:=by simp [Instr.index,run_underlying underlying204,asIntOf,go_sem]):p:=h
theorem ZjN (w:World):(Instr.index 204 (.agg #[.int .i64 8,.int .i64 4,.int .i64 2,.int .i64 1]) (.int .i64 0)).run prog w=.ok (.int .i64 8) w:=by
 exact ZlZ
theorem ZjO (w:World):(Instr.index 204 (.agg #[.int .i64 8,.int .i64 4,.int .i64 2,.int .i64 1]) (.int .i64 1)).run prog w=.ok (.int .i64 4) w:=by
 exact ZlZ
theorem ZjP (w:World):(Instr.index 204 (.agg #[.int .i64 8,.int .i64 4,.int .i64 2,.int .i64 1]) (.int .i64 2)).run prog w=.ok (.int .i64 2) w:=by
 exact ZlZ
theorem ZjQ (w:World):(Instr.index 204 (.agg #[.int .i64 8,.int .i64 4,.int .i64 2,.int .i64 1]) (.int .i64 3)).run prog w=.ok (.int .i64 1) w:=by
 exact ZlZ
theorem ZjR (w:World) (a b:Value):(Instr.index 134 (.agg #[a,b]) (.int .i64 0)).run prog w=.ok (.agg #[a]) w:=by
 simp [Instr.index,run_underlying underlying134,asIntOf,go_sem]
theorem ZjS (w:World) (a b:Value):(Instr.index 134 (.agg #[a,b]) (.int .i64 1)).run prog w=.ok (.agg #[b]) w:=by
 simp [Instr.index,run_underlying underlying134,asIntOf,go_sem]
theorem Xk {W W':World} (h:Below W.heap.size W W'):W.grownBy W' none:=⟨h.os,h.tape,h.output,h.size,fun k hk _=>h.block k hk⟩
def GW (w:World):Prop:=At w 0 0 [.int .i64 8,.int .i64 4,.int .i64 2,.int .i64 1]
theorem GW.ext {w w':World} {S:Nat→Prop} (h:GW w) (hk:KC S w w') (h0:¬S 0):GW w':=ZmS (A:=fun b=>¬S b) (fun _ _ ha hc=>⟨hk.cell ha hc,hk.frozen ha hc⟩) h0 _ _ h
theorem GW.below {w w':World} (h:GW w) (hb:Below w.heap.size w w'):GW w':=ZmS (A:=fun _=>True) (ZlH hb) trivial _ _ h
def ZiX (S:Nat→Prop) (J Jx:List Bit→World→Prop) (pre:List Bit) (l:List ByteArray) (W:World):Ending→World→Prop:=fun e W'=>
 (e=.returned (.bool true)∧(∃vs:List Bit,vs.map Subtype.val=l∧J (pre++vs) W')∧KC S W W')∨(e=.returned (.bool false)∧∃vs:List Bit,vs.map Subtype.val <+: l∧Jx (pre++vs) W')
theorem ZlY {p:Prop} (h:p:=by
 rcases (show i0=0∨i0=1∨i0=2∨i0=3 by omega) with rfl|rfl|rfl|rfl
 ·exact ⟨8,rfl,om,om,ZjN⟩
 ·exact ⟨4,rfl,om,om,ZjO⟩
 ·exact ⟨2,rfl,om,om,ZjP⟩
 exact ⟨1,rfl,om,om,ZjQ⟩):p:=h
theorem Zl0 {p:Prop} (h:p:=by
 obtain rfl:i0=4:=om
 gi_wp2_with fail
 go_ret
 obtain ⟨vs,hvs,hjv⟩:=HJ0.out
 exact .inl ⟨rfl,⟨vs,by rw [hvs,ZbF],hjv⟩,HKS.out.trans hk0⟩):p:=h
set_option maxRecDepth 100000
set_option maxHeartbeats 4000000
theorem ZgZ (n l:Nat) (S:Nat→Prop) (N B0:Nat) (J Jx:List Bit→World→Prop) (hJ:AbidesFrom B0 J)
         (hY:∀m pre (x:Bit) W,J pre W→pre.length < N→YieldAt Fence.wide m prog l #[.string x.1] W fun e W'=>
         (e=.returned (.bool true)∧J (pre++[x]) W'∧KC S W W')∨(e=.returned (.bool false)∧Jx (pre++[x]) W'))
         (u:ByteArray) (hu:Zc u=true) (h00:¬S 0) (pre:List Bit) (W:World) (hS:∀b,W.heap.size≤b→¬S b) (hG:GW W) (hj:J pre W) (hN:pre.length+4*(u.size+1)≤N):
  CallsIn Fence.wide n prog 85 #[.agg #[.func (.func 135) #[] #[]],.string u,.func (.yield l) #[] #[]] W (ZiX S J Jx pre (YQ Yq u) W):=by
 have hdd:∀k:Nat,(Fence.wide.depth.isSome=true→1≤k):=fun k h=>by cases h
 have hus:=Wl hu
 have HS:=hid hS
 have HU:=hid hu
 obtain ⟨W1,hW1⟩:∃W1,W1=W.alloc (.cells #[.func (.func 135) #[] #[]] 133):=⟨_,rfl⟩
 have hj1:J pre W1:=by rw [hW1];exact hJ pre W _ none hj (World.grownBy_alloc W _ none) (fun r e=>by cases e)
 have HJP:=hid hj1
 have HCW:Hid (W1.cell? ⟨W.heap.size,0,none⟩=some (.func (.func 135) #[] #[])):=hid (by rw [hW1];go_simp)
 have hks:KC S W W1:=by rw [hW1];exact (Znn S W).alloc _
 have HKS:=hid hks
 obtain ⟨g0,g1,g2,g3, -⟩:=hG
 have lg:=World.block_lt_of_cell? _ _ g0
 clear hS hj hu hj1 hks
 refine callsIn_of_wp func85 rfl trivial ?_ rfl
 simp only [ntmps85,List.size_toArray,List.length_cons,List.length_nil,Nat.reduceAdd,Nat.reduceSub,Array.replicate_succ,Array.replicate_zero,List.push_toArray,List.append_toArray,List.nil_append,List.cons_append]
 gi_wp2_with fail
 rw [←hW1]
 have hsz1:W.heap.size < W1.heap.size:=by rw [hW1];simp
 clear hW1 g0 g1 g2 g3 lg
 gi_loopg [13] 4 (fun gk i wr=>∃j:Nat,gk+j=4∧i=.int .i64 j∧KC S W1 wr∧Hid (∃vs:List Bit,vs.map Subtype.val=We Yq u j∧J (pre++vs) wr)∧W.heap.size < wr.heap.size)
 case atStart=>exact ⟨0,om,rfl,Znn _ _,hid ⟨[],rfl,by rw [List.append_nil];exact HJP.out⟩,hsz1⟩
 case round=>
  obtain ⟨i0,hi0,rfl,hk0,HJ0,hs0⟩:=hrel
  obtain ⟨gk0,hg0,hg1⟩:∃g,g+i0=4∧g=gk:=⟨gk,hi0,rfl⟩
  have HG1:=hid hg1
  clear hg1
  by_cases hlt0:i0 < 4
  ·obtain ⟨d,hwl,hd1,hd2,iw⟩:∃d:Nat,QJ[i0]? =some d∧1≤d∧d≤8∧∀w,(Instr.index 204 (.agg #[.int .i64 8,.int .i64 4,.int .i64 2,.int .i64 1]) (.int .i64 i0)).run prog w=.ok (.int .i64 d) w:=by
    exact ZlY
   have HWL:=hid hwl
   have hb4:decide ((i0:Int) < 4)=true:=decide_eq_true om
   clear hwl
   gi_wp2_with fail
   gi_loopg [9] (u.size+1 - d) (fun gk i wr=>∃j:Nat,gk+j=u.size+1 - d∧i=.int .i64 j∧KC S W1 wr∧Hid (∃vs:List Bit,vs.map Subtype.val=We Yq u i0++Vi Yq u d j∧J (pre++vs) wr)∧W.heap.size < wr.heap.size)
   case atStart=>exact ⟨0,om,rfl,hk0,hid (by obtain ⟨vs,hvs,hjv⟩:=HJ0.out;exact ⟨vs,by rw [hvs];simp [Vi],hjv⟩),hs0⟩
   case round=>
    obtain ⟨j,hj,rfl,hk,HJ1,hsr⟩:=hrel
    have cw:=hk.cell (p:=⟨W.heap.size,0,none⟩) (HS.out _ (Nat.le_refl _)) HCW.out
    by_cases hlt:j+d≤u.size
    ·have q1:decide ((j:Int)≤(u.size:Int) - (d:Int))=true:=decide_eq_true om
     obtain ⟨vs,hvs,hjv⟩:=HJ1.out
     have hvl:vs.length≤4*u.size:=by
      have h1:=congrArg List.length hvs
      rw [List.length_map,List.length_append] at h1
      have h2:=Qw Yq u i0 om
      have h3:=J7 Yq u d j
      omega
     have hxb:Zc (Yq u j d)=true:=ZgK HU.out om
     have HX:=hid hxb
     have HVS:=hid hvs
     have HJV:=hid hjv
     have C:∀m W3,KC S wr W3→J (pre++vs) W3→YieldAt Fence.wide m prog l #[.string (Yq u j d)] W3 fun e W'=>(e=.returned (.bool true)∧Hid (J (pre++(vs++[⟨Yq u j d,HX.out⟩])) W')∧KC S wr W')∨(e=.returned (.bool false)∧Hid (Jx (pre++(vs++[⟨Yq u j d,HX.out⟩])) W')):=fun m W3 hk3 hj3=>
      YieldAt.mono (hY m (pre++vs) ⟨Yq u j d,HX.out⟩ W3 hj3 (by simp only [List.length_append];omega)) fun e W' h=>h.elim (fun ⟨he,h1,h2⟩=>.inl ⟨he,hid (by rw [←List.append_assoc];exact h1),hk3.trans h2⟩) (fun ⟨he,h1⟩=>.inr ⟨he,hid (by rw [←List.append_assoc];exact h1)⟩)
     have HC:=hid C
     clear C hvs hjv hxb HJ1 hvl
     by_cases hxu:Yq u j d=u
     ·have q2:((Yq u j d).toList==u.toList)=true:=by rw [hxu];exact beq_self_eq_true _
      have HXU:=hid hxu
      clear hxu
      gi_wp2_with (refine ⟨trivial,hdd _,?_⟩;gi_at_call 135;refine (callsIn_wide.2 (ZdO u j d _ HU.out om om)).mono ?_;rintro e w2 ⟨rfl,hb2⟩)
      go_roundg (gk - 1)
      case measure=>omega
      case rel=>exact ⟨j+1,om,by go_num,hk.below hb2,⟨vs,by rw [HVS.out,KO _ _ _ _ HXU.out],hJ _ _ _ none HJV.out (Xk hb2) (fun r e=>by cases e)⟩,by have:=hb2.size;omega⟩
     have q2:((Yq u j d).toList==u.toList)=false:=ZiH hxu
     have HXU:=hid hxu
     clear hxu
     gi_wp2_with (first
      | (refine ⟨trivial,hdd _,?_⟩;gi_at_call 135;refine (callsIn_wide.2 (ZdO u j d _ HU.out om om)).mono ?_;rintro e w2 ⟨rfl,hb2⟩;obtain ⟨fn,tmps,assign,body,hyy,hR⟩:=HC.out (n - 1) w2 ((Znn S wr).below hb2) (hJ _ _ _ none HJV.out (Xk hb2) (fun r e=>by cases e)))
      | ((try refine ⟨hdd _,?_⟩);refine hR.mono ?_;clear hR;rintro e W2 (⟨rfl,hJ2,hk2⟩|⟨rfl,hx2⟩)))
     ·go_roundg (gk - 1)
      case measure=>omega
      case rel=>exact ⟨j+1,om,by go_num,hk.trans hk2,⟨vs++[⟨Yq u j d,HX.out⟩],by rw [List.map_append,HVS.out,V5 _ _ _ _ HXU.out];simp,hJ2.out⟩,by have:=hk2.size;omega⟩
     go_ret
     refine .inr ⟨rfl,vs++[⟨Yq u j d,HX.out⟩],?_,hx2.out⟩
     rw [List.map_append,HVS.out,List.map_cons,List.map_nil,List.append_assoc,←V5 _ _ _ _ HXU.out]
     exact ZcF Yq u i0 d (j+1) HWL.out om
    have q1:decide ((j:Int)≤(u.size:Int) - (d:Int))=false:=decide_eq_false om
    gi_wp2_with fail
    go_roundg (gk0 - 1)
    case measure=>have:=HG1.out;omega
    case rel=>exact ⟨i0+1,om,by go_num,hk,by
     obtain ⟨vs,hvs,hjv⟩:=HJ1.out
     exact ⟨vs,by rw [hvs,show j=u.size+1 - d by omega];exact JY Yq u i0 d HWL.out,hjv⟩,om⟩
  exact Zl0
theorem ZgY (n l:Nat) (S:Nat→Prop) (N B0:Nat) (J Jx:List Bit→World→Prop) (hJ:AbidesFrom B0 J)
         (hY:∀m pre (x:Bit) W,J pre W→pre.length < N→YieldAt Fence.wide m prog l #[.string x.1] W fun e W'=>
         (e=.returned (.bool true)∧J (pre++[x]) W'∧KC S W W')∨(e=.returned (.bool false)∧Jx (pre++[x]) W'))
         (u:ByteArray) (hu:Zc u=true) (h00:¬S 0) (pre:List Bit) (W:World) (hS:∀b,W.heap.size≤b→¬S b) (hG:GW W) (hj:J pre W) (hN:pre.length+4*(u.size+1)≤N):
  CallsIn Fence.wide n prog 85 #[.agg #[.func (.func 136) #[] #[]],.string u,.func (.yield l) #[] #[]] W (ZiX S J Jx pre (YQ YU u) W):=by
 have hdd:∀k:Nat,(Fence.wide.depth.isSome=true→1≤k):=fun k h=>by cases h
 have hus:=Wl hu
 have HS:=hid hS
 have HU:=hid hu
 obtain ⟨W1,hW1⟩:∃W1,W1=W.alloc (.cells #[.func (.func 136) #[] #[]] 133):=⟨_,rfl⟩
 have hj1:J pre W1:=by rw [hW1];exact hJ pre W _ none hj (World.grownBy_alloc W _ none) (fun r e=>by cases e)
 have HJP:=hid hj1
 have HCW:Hid (W1.cell? ⟨W.heap.size,0,none⟩=some (.func (.func 136) #[] #[])):=hid (by rw [hW1];go_simp)
 have hks:KC S W W1:=by rw [hW1];exact (Znn S W).alloc _
 have HKS:=hid hks
 obtain ⟨g0,g1,g2,g3, -⟩:=hG
 have lg:=World.block_lt_of_cell? _ _ g0
 clear hS hj hu hj1 hks
 refine callsIn_of_wp func85 rfl trivial ?_ rfl
 simp only [ntmps85,List.size_toArray,List.length_cons,List.length_nil,Nat.reduceAdd,Nat.reduceSub,Array.replicate_succ,Array.replicate_zero,List.push_toArray,List.append_toArray,List.nil_append,List.cons_append]
 gi_wp2_with fail
 rw [←hW1]
 have hsz1:W.heap.size < W1.heap.size:=by rw [hW1];simp
 clear hW1 g0 g1 g2 g3 lg
 gi_loopg [13] 4 (fun gk i wr=>∃j:Nat,gk+j=4∧i=.int .i64 j∧KC S W1 wr∧Hid (∃vs:List Bit,vs.map Subtype.val=We YU u j∧J (pre++vs) wr)∧W.heap.size < wr.heap.size)
 case atStart=>exact ⟨0,om,rfl,Znn _ _,hid ⟨[],rfl,by rw [List.append_nil];exact HJP.out⟩,hsz1⟩
 case round=>
  obtain ⟨i0,hi0,rfl,hk0,HJ0,hs0⟩:=hrel
  obtain ⟨gk0,hg0,hg1⟩:∃g,g+i0=4∧g=gk:=⟨gk,hi0,rfl⟩
  have HG1:=hid hg1
  clear hg1
  by_cases hlt0:i0 < 4
  ·obtain ⟨d,hwl,hd1,hd2,iw⟩:∃d:Nat,QJ[i0]? =some d∧1≤d∧d≤8∧∀w,(Instr.index 204 (.agg #[.int .i64 8,.int .i64 4,.int .i64 2,.int .i64 1]) (.int .i64 i0)).run prog w=.ok (.int .i64 d) w:=by
    exact ZlY
   have HWL:=hid hwl
   have hb4:decide ((i0:Int) < 4)=true:=decide_eq_true om
   clear hwl
   gi_wp2_with fail
   gi_loopg [9] (u.size+1 - d) (fun gk i wr=>∃j:Nat,gk+j=u.size+1 - d∧i=.int .i64 j∧KC S W1 wr∧Hid (∃vs:List Bit,vs.map Subtype.val=We YU u i0++Vi YU u d j∧J (pre++vs) wr)∧W.heap.size < wr.heap.size)
   case atStart=>exact ⟨0,om,rfl,hk0,hid (by obtain ⟨vs,hvs,hjv⟩:=HJ0.out;exact ⟨vs,by rw [hvs];simp [Vi],hjv⟩),hs0⟩
   case round=>
    obtain ⟨j,hj,rfl,hk,HJ1,hsr⟩:=hrel
    have cw:=hk.cell (p:=⟨W.heap.size,0,none⟩) (HS.out _ (Nat.le_refl _)) HCW.out
    by_cases hlt:j+d≤u.size
    ·have q1:decide ((j:Int)≤(u.size:Int) - (d:Int))=true:=decide_eq_true om
     obtain ⟨vs,hvs,hjv⟩:=HJ1.out
     have hvl:vs.length≤4*u.size:=by
      have h1:=congrArg List.length hvs
      rw [List.length_map,List.length_append] at h1
      have h2:=Qw YU u i0 om
      have h3:=J7 YU u d j
      omega
     have hxb:Zc (YU u j d)=true:=ZgH HU.out om
     have HX:=hid hxb
     have HVS:=hid hvs
     have HJV:=hid hjv
     have C:∀m W3,KC S wr W3→J (pre++vs) W3→YieldAt Fence.wide m prog l #[.string (YU u j d)] W3 fun e W'=>(e=.returned (.bool true)∧Hid (J (pre++(vs++[⟨YU u j d,HX.out⟩])) W')∧KC S wr W')∨(e=.returned (.bool false)∧Hid (Jx (pre++(vs++[⟨YU u j d,HX.out⟩])) W')):=fun m W3 hk3 hj3=>
      YieldAt.mono (hY m (pre++vs) ⟨YU u j d,HX.out⟩ W3 hj3 (by simp only [List.length_append];omega)) fun e W' h=>h.elim (fun ⟨he,h1,h2⟩=>.inl ⟨he,hid (by rw [←List.append_assoc];exact h1),hk3.trans h2⟩) (fun ⟨he,h1⟩=>.inr ⟨he,hid (by rw [←List.append_assoc];exact h1)⟩)
     have HC:=hid C
     clear C hvs hjv hxb HJ1 hvl
     by_cases hxu:YU u j d=u
     ·have q2:((YU u j d).toList==u.toList)=true:=by rw [hxu];exact beq_self_eq_true _
      have HXU:=hid hxu
      clear hxu
      gi_wp2_with (refine ⟨trivial,hdd _,?_⟩;gi_at_call 136;refine (callsIn_wide.2 (ZdL u j d _ HU.out om om)).mono ?_;rintro e w2 ⟨rfl,hb2⟩)
      go_roundg (gk - 1)
      case measure=>omega
      case rel=>exact ⟨j+1,om,by go_num,hk.below hb2,⟨vs,by rw [HVS.out,KO _ _ _ _ HXU.out],hJ _ _ _ none HJV.out (Xk hb2) (fun r e=>by cases e)⟩,by have:=hb2.size;omega⟩
     have q2:((YU u j d).toList==u.toList)=false:=ZiH hxu
     have HXU:=hid hxu
     clear hxu
     gi_wp2_with (first
      | (refine ⟨trivial,hdd _,?_⟩;gi_at_call 136;refine (callsIn_wide.2 (ZdL u j d _ HU.out om om)).mono ?_;rintro e w2 ⟨rfl,hb2⟩;obtain ⟨fn,tmps,assign,body,hyy,hR⟩:=HC.out (n - 1) w2 ((Znn S wr).below hb2) (hJ _ _ _ none HJV.out (Xk hb2) (fun r e=>by cases e)))
      | ((try refine ⟨hdd _,?_⟩);refine hR.mono ?_;clear hR;rintro e W2 (⟨rfl,hJ2,hk2⟩|⟨rfl,hx2⟩)))
     ·go_roundg (gk - 1)
      case measure=>omega
      case rel=>exact ⟨j+1,om,by go_num,hk.trans hk2,⟨vs++[⟨YU u j d,HX.out⟩],by rw [List.map_append,HVS.out,V5 _ _ _ _ HXU.out];simp,hJ2.out⟩,by have:=hk2.size;omega⟩
     go_ret
     refine .inr ⟨rfl,vs++[⟨YU u j d,HX.out⟩],?_,hx2.out⟩
     rw [List.map_append,HVS.out,List.map_cons,List.map_nil,List.append_assoc,←V5 _ _ _ _ HXU.out]
     exact ZcF YU u i0 d (j+1) HWL.out om
    have q1:decide ((j:Int)≤(u.size:Int) - (d:Int))=false:=decide_eq_false om
    gi_wp2_with fail
    go_roundg (gk0 - 1)
    case measure=>have:=HG1.out;omega
    case rel=>exact ⟨i0+1,om,by go_num,hk,by
     obtain ⟨vs,hvs,hjv⟩:=HJ1.out
     exact ⟨vs,by rw [hvs,show j=u.size+1 - d by omega];exact JY YU u i0 d HWL.out,hjv⟩,om⟩
  exact Zl0
end
set_option maxRecDepth 512
theorem Zh7:prog.globalNamed "tombola/cand.widths" = some 0:=kr
theorem Zh8:(prog.globals[0]?).map (·.type)=some 204:=kr
theorem ZhQ:prog.cellsOf 204=4:=kr
theorem ZhP:prog.cellsOf 3=1:=kr
theorem Zgz {W:World} (h:laidMetH prog [("tombola/cand.widths",Rows.laid_tombola_cand_widths)] W):Lib.TabIs prog W "tombola/cand.widths" .i64 [8,4,2,1]:=
 Lib.tabIs_of_head (rest:=[]) Zh7 Zh8 underlying204 underlying3 ZhP ZhQ h
theorem ZkF {W:World} (h:laidMetH prog [("tombola/cand.widths",Rows.laid_tombola_cand_widths)] W):GW W:=
 ⟨(Zgz h).cell Zh7 0 (by decide),(Zgz h).cell Zh7 1 (by decide),(Zgz h).cell Zh7 2 (by decide),(Zgz h).cell Zh7 3 (by decide),trivial⟩
noncomputable def JS (os:Os):World:=
 { World.holding prog os ⟨#[], #[],[]⟩ with heap:=(World.holding prog os ⟨#[], #[],[]⟩).heap.modify 0 fun
   | .cells _ t frozen=>.cells #[.int .i64 8,.int .i64 4,.int .i64 2,.int .i64 1] t frozen
   | o=>o }
theorem Zif (os:Os) (args:Array Value):laidMet prog [("tombola/cand.widths",Rows.laid_tombola_cand_widths)] ((JS os).forCall (fun _ _=>0) ⟨#[],args,[]⟩).memory:=
 laidMet_of_run' 8 kr kr
section
open Go Go.RowKit Go.Shelf
attribute [local go_sem] Oper.semAt_some
attribute [local go_sem] Jz
theorem Zh3 (u:ByteArray) (w:World):Calls prog 50 #[.string u] w fun e w'=>e=.returned (.func (.func 83) #[] #[.pointer (some ⟨w.heap.size,0,none⟩)])∧w'=w.alloc (.cells #[.string u] 9):=by
 go_enter func50,ntmps50
 go_wp2_with fail
 go_ret
 exact ⟨rfl,rfl⟩
theorem ZiP (w:World):Calls prog 84 #[] w fun e w'=>e=.returned (.agg #[.func (.func 135) #[] #[],.func (.func 136) #[] #[]])∧Below w.heap.size w w':=by
 go_enter func84,ntmps84
 go_wp2_with fail
 refine bodyPost_ret (v:=.agg #[.func (.func 135) #[] #[],.func (.func 136) #[] #[]]) (by first|(simp [results,Tryz.f84,go_sem];done)|(simp [results,Tryz.f84,go_sem, *];done)) rfl ?_
 exact ⟨rfl,ZlD⟩
def Zit (u:ByteArray):Nat→List ByteArray
 | 0=>[]
 | 1=>YQ Yq u
 | _=>YQ Yq u++YQ YU u
theorem Zeb (u:ByteArray) (i:Nat) {r:List ByteArray} (h:r <+: (if i=0 then YQ Yq u else YQ YU u)):Zit u (if i=0 then 0 else 1)++r <+: Xu u:=by
 by_cases h0:i=0
 ·rw [if_pos h0] at h ⊢
  exact h.trans (List.prefix_append _ _)
 rw [if_neg h0] at h ⊢
 refine (List.prefix_append_right_inj _).2 (h.trans (List.prefix_append _ _))
def ZkG (J Jx:List Bit→World→Prop) (u:ByteArray):Ending→World→Prop:=fun e W'=>
 (∃v,e=.returned v)∧((∃vs:List Bit,vs.map Subtype.val=Xu u∧J vs W')∨(∃vs:List Bit,vs.map Subtype.val <+: Xu u∧Jx vs W'))
theorem ZoW {p:Prop} (h:p:=by
 have h1:=congrArg List.length hvs
 rw [List.length_map] at h1
 have h2:=Xj Yq u
 simp only [Zit,List.length_nil] at h1
 omega):p:=h
set_option maxRecDepth 100000
set_option maxHeartbeats 4000000
theorem Zh2 (n l:Nat) (S:Nat→Prop) (N:Nat) (J Jx:List Bit→World→Prop) (u:ByteArray) (W:World) (hJ:AbidesFrom W.heap.size J)
  (hY:∀m pre (x:Bit) W,J pre W→pre.length < N→YieldAt Fence.wide m prog l #[.string x.1] W fun e W'=>
   (e=.returned (.bool true)∧J (pre++[x]) W'∧KC S W W')∨(e=.returned (.bool false)∧Jx (pre++[x]) W'))
  (hu:Zc u=true) (h00:¬S 0) (Bt:Nat) (hBt:¬S Bt) (c0:W.cell? ⟨Bt,0,none⟩=some (.string u)) (hS:∀b,W.heap.size≤b→¬S b) (hG:GW W) (h0:J [] W) (hN:9*(u.size+1)≤N):
  CallsIn Fence.wide n prog 83 #[.func (.yield l) #[] #[],.pointer (some ⟨Bt,0,none⟩)] W (ZkG J Jx u):=by
 have hdd:∀k:Nat,(Fence.wide.depth.isSome=true→1≤k):=fun k h=>by cases h
 have hus:=Wl hu
 have hBtl:=World.block_lt_of_cell? _ _ c0
 have HS:=hid hS
 have HU:=hid hu
 have HJ:=hid h0
 have HG:=hid hG
 have HC0:=hid c0
 clear hS h0 hu hG
 refine callsIn_of_wp func83 rfl trivial ?_ rfl
 simp only [ntmps83,List.size_toArray,List.length_cons,List.length_nil,Nat.reduceAdd,Nat.reduceSub,Array.replicate_succ,Array.replicate_zero,List.push_toArray,List.append_toArray,List.nil_append,List.cons_append]
 gi_wp2_with (first
  | (refine ⟨trivial,hdd _,?_⟩;gi_at_call 74;refine (callsIn_wide.2 (UT u _ om)).mono ?_;rw [HU.out];rintro e w1 ⟨rfl,hb1⟩)
  | (refine ⟨trivial,hdd _,?_⟩;gi_at_call 84;refine (callsIn_wide.2 (ZiP _)).mono ?_;rintro e w2 ⟨rfl,hb2⟩))
 have hk2:KC S W w2:=((Znn S W).below hb1).below hb2
 have hj2:J [] w2:=hJ _ _ _ none (hJ _ _ _ none HJ.out (Xk hb1) (fun r e=>by cases e)) (Xk hb2) (fun r e=>by cases e)
 have HK2:=hid hk2
 have HJ2:=hid hj2
 clear hk2 hj2 hb1 hb2 c0
 gi_loopg [12] 2 (fun gk i wr=>∃j:Nat,gk+j=2∧i=.int .i64 j∧KC S W wr∧Hid (∃vs:List Bit,vs.map Subtype.val=Zit u j∧J vs wr))
 case atStart=>exact ⟨0,om,rfl,HK2.out,hid ⟨[],rfl,HJ2.out⟩⟩
 case round=>
  obtain ⟨i,hi,rfl,hk,HJ0⟩:=hrel
  have hzk:=hk.size
  have cu:=hk.cell (p:=⟨Bt,0,none⟩) hBt HC0.out
  have lu:=World.block_lt_of_cell? _ _ cu
  by_cases hlt:i < 2
  ·rcases (show i=0∨i=1 by omega) with rfl|rfl
   ·obtain ⟨vs,hvs,hjv⟩:=HJ0.out
    have hvl:vs.length≤4*u.size:=by
     exact ZoW
    have HVS:=hid hvs
    have HJV:=hid hjv
    have iy0:=ZjR
    have iy1:=ZjS
    clear hvs hjv HJ0
    have C:∀W3,KC S wr W3→J vs W3→W.heap.size≤W3.heap.size→GW W3→CallsIn Fence.wide (n - 1) prog 85 _ W3 (ZiX S J Jx vs (YQ Yq u) W3):=fun W3 hk3 hj3 hs3 hg3=>
     ZgZ (n - 1) l S N W.heap.size J Jx hJ hY u HU.out h00 vs W3 (fun b hb=>HS.out b om) hg3 hj3 om
    gi_wp2_with (refine ⟨trivial,hdd _,?_⟩;gi_at_call 85;refine (C _ ((Znn S wr).alloc _) (hJ _ _ _ none HJV.out (World.grownBy_alloc wr _ none) (fun r e=>by cases e)) (by simp;omega) ((HG.out.ext hk h00).ext ((Znn S wr).alloc _) h00)).mono ?_;clear C;rintro e W4 (⟨rfl,⟨vs',h1,h2⟩,hk4⟩|⟨rfl,vs',h1,h2⟩))
    ·go_roundg (gk - 1)
     case measure=>omega
     case rel=>exact ⟨0+1,om,by go_num,(hk.alloc _).trans hk4,⟨vs++vs',by rw [List.map_append,HVS.out];rw [h1];rfl,h2⟩⟩
    go_end0
    refine ⟨⟨_,rfl⟩,.inr ⟨vs++vs',?_,h2⟩⟩
    rw [List.map_append,HVS.out]
    exact Zeb u 0 h1
   obtain ⟨vs,hvs,hjv⟩:=HJ0.out
   have hvl:vs.length≤4*u.size:=by
    exact ZoW
   have HVS:=hid hvs
   have HJV:=hid hjv
   have iy0:=ZjR
   have iy1:=ZjS
   clear hvs hjv HJ0
   have C:∀W3,KC S wr W3→J vs W3→W.heap.size≤W3.heap.size→GW W3→CallsIn Fence.wide (n - 1) prog 85 _ W3 (ZiX S J Jx vs (YQ YU u) W3):=fun W3 hk3 hj3 hs3 hg3=>
    ZgY (n - 1) l S N W.heap.size J Jx hJ hY u HU.out h00 vs W3 (fun b hb=>HS.out b om) hg3 hj3 om
   gi_wp2_with (refine ⟨trivial,hdd _,?_⟩;gi_at_call 85;refine (C _ ((Znn S wr).alloc _) (hJ _ _ _ none HJV.out (World.grownBy_alloc wr _ none) (fun r e=>by cases e)) (by simp;omega) ((HG.out.ext hk h00).ext ((Znn S wr).alloc _) h00)).mono ?_;clear C;rintro e W4 (⟨rfl,⟨vs',h1,h2⟩,hk4⟩|⟨rfl,vs',h1,h2⟩))
   ·go_roundg (gk - 1)
    case measure=>omega
    case rel=>exact ⟨1+1,om,by go_num,(hk.alloc _).trans hk4,⟨vs++vs',by rw [List.map_append,HVS.out];rw [h1];rfl,h2⟩⟩
   go_end0
   refine ⟨⟨_,rfl⟩,.inr ⟨vs++vs',?_,h2⟩⟩
   rw [List.map_append,HVS.out]
   exact Zeb u 1 h1
  obtain rfl:i=2:=om
  gi_wp2_with fail
  have HK3:=hid hk
  clear hk hzk cu lu
  gi_loopg [23] u.size (fun gk i wr=>∃j:Nat,gk+j=u.size∧i=.int .i64 j∧KC S W wr∧Hid (∃vs:List Bit,vs.map Subtype.val=YQ Yq u++(YQ YU u++Up u j)∧J vs wr))
  case atStart=>exact ⟨0,om,rfl,HK3.out,hid (by obtain ⟨vs,h1,h2⟩:=HJ0.out;exact ⟨vs,by rw [h1];simp [Zit,Up],h2⟩)⟩
  case round=>
   obtain ⟨j,hj,rfl,hk,HJ1⟩:=hrel
   have hzk:=hk.size
   have cu:=hk.cell (p:=⟨Bt,0,none⟩) hBt HC0.out
   have lu:=World.block_lt_of_cell? _ _ cu
   by_cases hlt2:j < u.size
   ·obtain ⟨vs,hvs,hjv⟩:=HJ1.out
    have hvl:vs.length≤9*u.size:=by
     have h1:=congrArg List.length hvs
     rw [List.length_map,List.length_append,List.length_append] at h1
     have h2:=Xj Yq u
     have h3:=Xj YU u
     have h4:=Zhw u j
     omega
    have HVS:=hid hvs
    have HJV:=hid hjv
    by_cases h49:u.data.toList.getD j 48=49
    ·have HX:=hid (ZgM HU.out hlt2)
     have H49:=hid h49
     have C:∀m W3,KC S wr W3→J vs W3→YieldAt Fence.wide m prog l #[.string (V7 u j)] W3 fun e W'=>(e=.returned (.bool true)∧Hid (J (vs++[⟨V7 u j,HX.out⟩]) W')∧KC S wr W')∨(e=.returned (.bool false)∧Hid (Jx (vs++[⟨V7 u j,HX.out⟩]) W')):=fun m W3 hk3 hj3=>
      YieldAt.mono (hY m vs ⟨V7 u j,HX.out⟩ W3 hj3 om) fun e W' h=>h.elim (fun ⟨he,h1,h2⟩=>.inl ⟨he,hid h1,hk3.trans h2⟩) (fun ⟨he,h1⟩=>.inr ⟨he,hid h1⟩)
     have HC:=hid C
     clear C hvs hjv HJ1 hvl h49
     gi_wp2_with (first
      | (refine ⟨trivial,hdd _,?_⟩;gi_at_call 86;refine (callsIn_wide.2 (ZhZ u j _ HU.out hlt2 H49.out)).mono ?_;rintro e w4 ⟨rfl,hb4⟩;obtain ⟨fn,tmps,assign,body,hyy,hR⟩:=HC.out (n - 1) w4 ((Znn S wr).below hb4) (hJ _ _ _ none HJV.out (Xk hb4) (fun r e=>by cases e)))
      | ((try refine ⟨hdd _,?_⟩);refine hR.mono ?_;clear hR;rintro e W2 (⟨rfl,hJ2,hk2⟩|⟨rfl,hx2⟩)))
     ·go_roundg (gk - 1)
      case measure=>omega
      case rel=>exact ⟨j+1,om,by go_num,hk.trans hk2,⟨vs++[⟨V7 u j,HX.out⟩],by rw [List.map_append,HVS.out,KN _ _ H49.out];simp,hJ2.out⟩⟩
     go_end0
     refine ⟨⟨_,rfl⟩,.inr ⟨vs++[⟨V7 u j,HX.out⟩],?_,hx2.out⟩⟩
     rw [List.map_append,HVS.out,List.map_cons,List.map_nil]
     have:=Zg2 u (j+1) om
     rw [KN _ _ H49.out] at this
     simpa using this
    have H49:=hid h49
    clear hvs hjv HJ1 hvl h49
    gi_wp2_with (refine ⟨trivial,hdd _,?_⟩;gi_at_call 86;refine (callsIn_wide.2 (Zjc u j _ HU.out hlt2 H49.out)).mono ?_;rintro e w4 ⟨rfl,hb4⟩)
    refine ⟨fun _ h=>(by cases h),?_⟩
    gi_wp2_with fail
    go_roundg (gk - 1)
    case measure=>omega
    case rel=>exact ⟨j+1,om,by go_num,hk.below hb4,⟨vs,by rw [HVS.out,ZbU _ _ H49.out],hJ _ _ _ none HJV.out (Xk hb4) (fun r e=>by cases e)⟩⟩
   obtain rfl:j=u.size:=om
   gi_wp2_with fail
   go_end0
   obtain ⟨vs,h1,h2⟩:=HJ1.out
   exact ⟨⟨_,rfl⟩,.inl ⟨vs,by rw [h1,ZcZ];rfl,h2⟩⟩
set_option maxRecDepth 512
theorem Ze3 (n:Nat) (S:Nat→Prop) (u:ByteArray) (w:World) (Bt:Nat) (hu:Zc u=true) (h00:¬S 0) (hBt:¬S Bt) (c0:w.cell? ⟨Bt,0,none⟩=some (.string u)) (hS:∀b,w.heap.size≤b→¬S b) (hG:GW w):
  SeqStopsK Fence.wide n prog 83 #[.pointer (some ⟨Bt,0,none⟩)] (fun x:Bit=>#[.string x.1]) (KC S) (fun vs=>vs.map Subtype.val=Xu u) (fun vs=>vs.map Subtype.val <+: Xu u) 100000 w:=fun l J Jx W hW hJ _ hY h0=>
 (Zh2 n l S 100000 J Jx u W hJ (fun m pre x W h1 h2=>ZaE rfl m (hY pre x W h1 h2)) hu h00 Bt hBt ((hW.cell (World.block_lt_of_cell? _ _ c0)).trans c0) (fun b hb=>hS b (by have:=hW.size;omega)) (hG.below hW) h0 (by have:=Wl hu;omega)).mono fun e W' h=>h
end
end Go.Proofs.YtclphfojkggcpaaGreatDoor
