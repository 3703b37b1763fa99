/- Part 44. -/
import Derived.Deep.CutRange
import Derived.Deep.OwnRows
import Derived.IntWalk
import Derived.Lib.SliceRun
import Derived.Test.YtkdffbdnjfgpeaaGreatY13
set_option linter.all false
namespace Go.Proofs.YtkdffbdnjfgpeaaGreat
open Go.Lib (hid)
open Go Go.RowKit Go.Proofs.Tryz
theorem ZpI:(prog.info? 84).map (fun i=>(i.zero,i.size,i.bytes))=some (some (.int .u64 0),1,8):=kr
theorem Zn9 {p:Prop} (h:p:=by
 clear hr
 go_enter func179,ntmps179
 go_wp2_with fail
 go_ret
 exact ⟨rfl,rfl⟩):p:=h
theorem ZpS (l:List Nat) (i:Int) (w:World) (A:Nat→Prop) (a:Option Addr) (c:Nat) (hln:l.length≤1048576) (hi:Zv i) (hr:RL w A l a):
  Calls prog 179 #[.slice a l.length c,.int .i64 i] w fun e w'=>e=.returned (.int .u64 (if 0≤i then ((l.getD i.toNat 0:Nat):Int) else 0))∧w=w':=by
 by_cases h0:0≤i
 ·obtain ⟨k,rfl⟩:∃k:Nat,i=k:=⟨i.toNat,om⟩
  rw [if_pos h0,Int.toNat_natCast]
  by_cases hk:k < l.length
  ·obtain ⟨b,o,rfl,hA,hb,hc⟩:=hr.get k hk
   have hkI:(k:Int) < (l.length:Int):=om
   rw [List.getD_eq_getElem?_getD,List.getElem?_eq_getElem hk,Option.getD_some]
   generalize l[k]=x at hc ⊢
   exact Zn9
  have hkI:(l.length:Int)≤(k:Int):=om
  rw [List.getD_eq_getElem?_getD,List.getElem?_eq_none om,Option.getD_none]
  exact Zn9
 rw [if_neg h0]
 have h1:i < 0:=om
 exact Zn9
theorem ZpW {w:World} {base e n:Nat} {v:Value} {l:List Nat} (h:w.ownsRow base e 1 v n (l.map fun (x:Nat)=>Value.int .u64 (x:Int))):∃a c,v=.slice a l.length (l.length+c)∧RL w (fun b=>base≤b) l a:=by
 have hn:l.length=n:=by have:=h.1;rw [List.length_map] at this;omega
 subst hn
 rcases h.2 with ⟨h1,h2⟩|⟨g,cap,cur,rfl,hb,h3⟩
 ·have:l=[]:=List.length_eq_zero_iff.1 h2
  subst this
  exact ⟨none,0,h1,RL.nil _ _ _⟩
 refine ⟨_,cap - l.length,by rw [show l.length+(cap - l.length)=cap by have:=h3.2.1;omega],.inr ⟨g,0,rfl,hb,fun i hi=>?_⟩⟩
 have:=h.cells (g:=g) rfl i (.int .u64 (l[i]:Int)) (by rw [List.getElem?_map,List.getElem?_eq_getElem hi];rfl)
 simpa [Addr.add] using (by by_cases h0:i=0<;>simp_all [Addr.add])
set_option maxRecDepth 100000
set_option maxHeartbeats 2000000
theorem ZqS (l:List Nat) (w:World) (A:Nat→Prop) (a:Option Addr) (cp:Nat) (hln:l.length≤1048576) (hr:RL w A l a):
  Calls prog 177 #[.slice a l.length cp] w fun e w'=>Below w.heap.size w w'∧∃a' c',e=.returned (.slice a' l.length (l.length+c'))∧RL w' (fun b=>w.heap.size≤b) l a':=by
 cases a with
 | none=>
  have h0:l=[]:=by
   rcases hr with h|⟨b,o,e, -⟩
   ·exact h
   cases e
  subst h0
  have hq0:∀w:World,(binOp .eql 45 (.slice none 0 cp) (.slice none 0 0)).run prog w=.ok (.bool true) w:=fun w=>Lib.run_eql_slice_nil w _ _ none 0 cp 0 0 underlying45
  clear hr
  go_enter func177,ntmps177
  go_wp2_with fail
  go_ret
  exact ⟨ZtZ,none,0,rfl,RL.nil _ _ _⟩
 | some ad=>
  obtain ⟨b,o,path⟩:=ad
  have hc:∀j u,(l.map fun (x:Nat)=>Value.int .u64 (x:Int))[j]? =some u→w.cell? ((⟨b,o,path⟩:Addr).add j)=some u:=by
   intro j u hu
   rw [List.getElem?_map] at hu
   cases hj:l[j]? with
   | none=>rw [hj] at hu;cases hu
   | some x=>
    rw [hj] at hu
    cases hu
    obtain ⟨hlt,rfl⟩:=List.getElem?_eq_some_iff.1 hj
    obtain ⟨b',o',e, -, -,hcell⟩:=hr.get j hlt
    cases e
    rw [Addr.add_lit]
    exact hcell
  have HC:=hid hc
  obtain ⟨i0,hi,hz0,hz1,hz2⟩:=info_parts ZpI
  have hq0:∀w:World,(binOp .eql 45 (.slice (some ⟨b,o,path⟩) l.length cp) (.slice none 0 0)).run prog w=.ok (.bool false) w:=fun w=>Lib.run_eql_slice_nil w _ _ _ _ cp 0 0 underlying45
  clear hr hc
  go_enter func177,ntmps177
  go_wp2_with (at_builtin;refine wpList_append_own_at _ rfl _ _ 45 rfl w.heap.size 84 i0 _ 1 8 underlying45 hi hz0 hz1 hz2 rfl (by decide) _ 0 [] (by rfl) (World.ownsRow_made _ _ 0 (Nat.le_refl _) (by unfold maxLen;omega) rfl) ⟨b,o,path⟩ l.length cp (l.map fun (x:Nat)=>Value.int .u64 (x:Int)) (by rfl) (by rw [List.length_map];omega) (fun j u hu=>(Below.cell (Below.alloc (Below.refl w.heap.size w) (Nat.le_refl _) _) (World.block_lt_of_cell? _ _ (HC.out j u hu))).trans (HC.out j u hu)) (by simp [Value.oneCell']) (by unfold maxLen;omega) om sm ?_;intro v' w' hown hgrow _ _)
  have hb1:Below w.heap.size w w':=Below.grown (Below.alloc (Below.refl _ _) (Nat.le_refl _) _) hgrow sm (fun k e=>by cases e;exact Nat.le_refl _)
  obtain ⟨a',c',rfl,hrl⟩:=ZpW (l:=l) (by simpa using hown)
  go_ret
  exact ⟨hb1,a',c',rfl,hrl⟩
theorem Zr3 (l:List Nat) (w:World) (A:Nat→Prop) (a:Option Addr) (c:Nat) (hln:l.length≤1048576) (hr:RL w A l a):
  Calls prog 105 #[.slice a l.length (l.length+c)] w fun e w'=>Below w.heap.size w w'∧∃r a' c',Zrg l r∧e=.returned (.slice a' r.length (r.length+c'))∧RL w' (fun b=>w.heap.size≤b) r a':=by
 have HR:=hid hr
 clear hr
 go_enter func105,ntmps105
 go_wp2_with fail
 go_loopg [3] (l.length) (fun gk t3' wr=>gk≤l.length∧t3'=.int .i64 gk∧wr=w∧Hid (∀j (h:j < l.length),gk≤j→l[j]=0))
 case atStart=>exact ⟨Nat.le_refl _,rfl,rfl,hid (fun j h hj=>absurd h om)⟩
 case round=>
  obtain ⟨hgl,rfl,rfl,HZ⟩:=hrel
  have hw1:IntKind.i64.wrap ((gk:Int) - 1)=(gk:Int) - 1:=IntWalk.i64_in _ om
  have hs0:(0:Int)≤(gk:Int):=om
  have hs1:(gk:Int)≤(l.length:Int)+(c:Int):=om
  have FIN:=hid (ZqX l gk hgl HZ.out)
  by_cases h0:gk=0
  ·subst h0
   have hg0:¬((0:Int) < ((0:Nat):Int)):=om
   go_wp2_with (go_at_call 177;refine (ZqS (l.take 0) _ A a _ sm (by exact RL.nil _ _ _)).mono ?_;rintro e w1 ⟨hb1,a',c',rfl,hr1⟩)
   go_ret
   exact ⟨hb1,l.take 0,a',c',FIN.out sm,sm,hr1⟩
  obtain ⟨q,rfl⟩:∃q,gk=q+1:=⟨gk - 1,om⟩
  have hq:q < l.length:=om
  obtain ⟨b,o,rfl,hA,hb,hc⟩:=HR.out.get q hq
  have hg0:(0:Int) < ((q+1:Nat):Int):=om
  have hq2:((q+1:Nat):Int) - 1=(q:Int):=om
  rw [hq2] at hw1
  have hqI:(q:Int) < (l.length:Int):=om
  by_cases hz:l[q]=0
  ·rw [hz] at hc
   go_wp2_with fail
   go_roundg q
   case measure=>omega
   case rel=>exact ⟨om,by go_num,rfl,hid (fun j h hj=>by
    by_cases hj2:j=q
    ·subst hj2;exact hz
    exact HZ.out j h om)⟩
  have hzB:(((l[q]:Nat):Int)==0)=false:=by simp [hz]
  generalize hx:l[q]=x at hc hzB
  have hlen:(l.take (q+1)).length=q+1:=by rw [List.length_take];omega
  have HF:=hid (FIN.out (.inr ⟨by simpa using hq,by simpa using hz⟩))
  go_wp2_with (go_at_call 177;refine (show Calls _ _ #[.slice _ ((q+1:Nat)) _] _ _ from by have:=ZqS (l.take (q+1)) wr A (some ⟨b,o,none⟩) (l.length+c) (by rw [hlen];omega) (HR.out.take _);rw [hlen] at this;exact this).mono ?_;rintro e w1 ⟨hb1,a',c',rfl,hr1⟩)
  go_ret
  exact ⟨hb1,l.take (q+1),a',c',HF.out,by rw [hlen];rfl,hr1⟩
set_option maxRecDepth 512
theorem Zra {l:List Nat} {x:Nat} (hl:Zrx l x) (w:World) (A:Nat→Prop) (a:Option Addr) (c:Nat) (hln:l.length≤1048576) (hr:RL w A l a):
  Calls prog 105 #[.slice a l.length (l.length+c)] w fun e w'=>Below w.heap.size w w'∧∃a' c',e=.returned (.slice a' (W7 x).length ((W7 x).length+c'))∧RL w' (fun b=>w.heap.size≤b) (W7 x) a':=
 (Zr3 l w A a c hln hr).mono fun e w' ⟨hb,r,a',c',ht,he,hr'⟩=>by
  obtain rfl:=ZqI ht hl
  exact ⟨hb,a',c',he,hr'⟩
theorem ZpV (x:Nat) (w:World) (A:Nat→Prop) (a:Option Addr) (c:Nat) (hr:RL w A (W7 x) a):
  Calls prog 105 #[.slice a (W7 x).length ((W7 x).length+c)] w fun e w'=>Below w.heap.size w w'∧∃a' c',e=.returned (.slice a' (W7 x).length ((W7 x).length+c'))∧RL w' (fun b=>w.heap.size≤b) (W7 x) a':=
 Zra (ZqT x) w A a c (Zrn x) hr
theorem Zth (w:World):(Instr.makeSlice 45 (.int .i64 1) (.int .i64 1)).run prog w=.ok (.slice (some ⟨w.heap.size,0,none⟩) 1 1) (w.alloc (.cells #[.int .u64 0] 84)):=by
 have h:=run_make_row' 45 84 (.int .u64 0) 8 underlying45 ZpI rfl .i64 .i64 1 om om w
 rw [show madeCells #[Value.int .u64 0] 1= #[Value.int .u64 0] by kernel_rfl] at h
 exact h
set_option maxRecDepth 100000
theorem ZsM (l:List Nat) (w:World) (A:Nat→Prop) (a:Option Addr) (c:Nat) (hln:l.length≤1048576) (hr:RL w A l a):
  Calls prog 252 #[.slice a l.length (l.length+c)] w fun e w'=>w=w'∧∃r c',Zrg l r∧e=.returned (.slice a r.length (r.length+c'))∧RL w A r a:=by
 have HR:=hid hr
 clear hr
 go_enter func252,ntmps252
 go_wp2_with fail
 go_loopg [3] (l.length) (fun gk t3' wr=>gk≤l.length∧t3'=.int .i64 gk∧wr=w∧Hid (∀j (h:j < l.length),gk≤j→l[j]=0))
 case atStart=>exact ⟨Nat.le_refl _,rfl,rfl,hid (fun j h hj=>absurd h om)⟩
 case round=>
  obtain ⟨hgl,rfl,rfl,HZ⟩:=hrel
  have hw1:IntKind.i64.wrap ((gk:Int) - 1)=(gk:Int) - 1:=IntWalk.i64_in _ om
  have hs0:(0:Int)≤(gk:Int):=om
  have hs1:(gk:Int)≤(l.length:Int)+(c:Int):=om
  have FIN:=hid (ZqX l gk hgl HZ.out)
  have hk:(l.take gk).length=gk:=by rw [List.length_take];omega
  by_cases h0:gk=0
  ·subst h0
   have hg0:¬((0:Int) < ((0:Nat):Int)):=om
   have FIN0:Zrg l []:=FIN.out (.inl rfl)
   go_wp2_with fail
   go_ret
   exact ⟨rfl,[],FIN0,⟨l.length+c,sm⟩,RL.nil _ _ _⟩
  obtain ⟨q,rfl⟩:∃q,gk=q+1:=⟨gk - 1,om⟩
  have hq:q < l.length:=om
  obtain ⟨b,o,rfl,hA,hb,hc⟩:=HR.out.get q hq
  have hg0:(0:Int) < ((q+1:Nat):Int):=om
  have hq2:((q+1:Nat):Int) - 1=(q:Int):=om
  rw [hq2] at hw1
  have hqI:(q:Int) < (l.length:Int):=om
  have HK:=hid hk
  clear hk
  by_cases hz:l[q]=0
  ·rw [hz] at hc
   go_wp2_with fail
   go_roundg q
   case measure=>omega
   case rel=>exact ⟨om,by go_num,rfl,hid (fun j h hj=>by
    by_cases hj2:j=q
    ·subst hj2;exact hz
    exact HZ.out j h om)⟩
  have hzB:(((l[q]:Nat):Int)==0)=false:=by simp [hz]
  have HF:=hid (FIN.out (.inr ⟨by simpa using hq,by simpa using hz⟩))
  clear hz
  generalize hx:l[q]=x at hc hzB
  go_wp2_with fail
  go_ret
  exact ⟨rfl,l.take (q+1),l.length+c - (q+1),HF.out,by rw [HK.out,show q+1+(l.length+c - (q+1))=l.length+c by omega];rfl,HR.out.take _⟩
set_option maxRecDepth 512
theorem ZrG {l:List Nat} {x:Nat} (hl:Zrx l x) (w:World) (A:Nat→Prop) (a:Option Addr) (c n m:Nat) (hn:l.length=n) (hm:l.length+c=m) (hln:l.length≤1048576) (hr:RL w A l a):
  Calls prog 252 #[.slice a n m] w fun e w'=>w=w'∧∃c',e=.returned (.slice a (W7 x).length ((W7 x).length+c'))∧RL w A (W7 x) a:=by
 subst hn
 subst hm
 exact (ZsM l w A a c hln hr).mono fun e w' ⟨hw,r,c',ht,he,hr'⟩=>by
  obtain rfl:=ZqI ht hl
  exact ⟨hw,c',he,hr'⟩
set_option maxRecDepth 100000
theorem ZpD (l:List Nat) (x:Nat) (hl:One l x) (w:World) (A:Nat→Prop) (a:Option Addr) (c:Nat) (hx:x < 65536) (hr:RL w A l a):
  Calls prog 203 #[.slice a l.length (l.length+c)] w fun e w'=>Below w.heap.size w w'∧∃a' c',e=.returned (.slice a' (W7 x).length ((W7 x).length+c'))∧RL w' (fun b=>w.heap.size≤b) (W7 x) a':=by
 rcases hl with ⟨rfl,rfl⟩|rfl
 ·rw [Zpu]
  clear hr
  go_enter func203,ntmps203
  go_wp2_with fail
  go_loopg [3,4] 1 (fun gk t3' t4' wr=>gk=1∧t3'=.slice none 0 0∧t4'=.int .i64 0∧wr=w)
  case atStart=>exact ⟨rfl,rfl,rfl,rfl⟩
  case round=>
   obtain ⟨rfl,rfl,rfl,rfl⟩:=hrel
   go_wp2_with (go_at_call 252;(refine (ZrG (l:=[]) (x:=0) (.inl ⟨rfl,rfl⟩) wr (fun b=>wr.heap.size≤b) none 0 _ _ sm sm sm (RL.nil _ _ _)).mono ?_);rintro e w1 ⟨rfl,c1,rfl,hr1⟩)
   go_ret
   exact ⟨Below.refl _ _,none,c1,rfl,RL.nil _ _ _⟩
 obtain ⟨j0,hj0,hj1',hj2,hj3⟩:=info_parts ZpI
 obtain ⟨b,o,rfl,hA,hb,hc⟩:=hr.get 0 sm
 simp only [List.getElem_cons_zero,Nat.add_zero] at hc
 clear hr
 go_enter func203,ntmps203
 go_wp2_with fail
 go_loopg [3,4] 1 (fun gk t3' t4' wr=>Below w.heap.size w wr∧(gk=1∧t3'=.slice none 0 0∧t4'=.int .i64 0∨gk=0∧t4'=.int .i64 1∧∃a1 c1,t3'=.slice a1 4 (4+c1)∧Hid (RL wr (fun b=>w.heap.size≤b) [x,0,0,0] a1)))
 case atStart=>exact ⟨ZtZ,.inl ⟨rfl,rfl,rfl⟩⟩
 case round=>
  obtain ⟨hb1,⟨rfl,rfl,rfl⟩|⟨rfl,rfl,a1,c1,rfl,HR1⟩⟩:=hrel
  ·have hcr:wr.cell? ⟨b,o,none⟩=some (.int .u64 x):=(hb1.cell (p:=⟨b,o,none⟩) hb).trans hc
   have hz1:=hb1.size
   go_wp2_with fail
   go_loopg [3,5,6] 4 (fun gk t3' t5' t6' wq=>∃(k z:Nat) (zs:List Nat),gk+k=4∧t6'=.int .i64 k∧t5'=.int .u64 z∧z < 65536∧Below w.heap.size w wq∧w.heap.size≤wq.heap.size∧Hid (wq.ownsRow w.heap.size 84 1 t3' k (zs.map fun (y:Nat)=>Value.int .u64 (y:Int)))∧Hid (k=0∧zs=[]∧z=x∨0 < k∧zs=x::List.replicate (k - 1) 0∧z=0))
   case atStart=>exact ⟨0,x,[],rfl,rfl,rfl,hx,hb1,hz1,hid (World.ownsRow_nil _ _ _ _),hid (.inl ⟨rfl,rfl,rfl⟩)⟩
   case round=>
    obtain ⟨k,z,zs,hk,rfl,rfl,hz9,hb2,hz2,HO,HZ⟩:=hrel
    by_cases hlt:k < 4
    ·have hm:(z:Int) % 65536=(z:Int):=om
     have hd:(z:Int) / 65536=0:=om
     go_wp2_with (at_builtin;refine wpList_append_lies _ rfl _ _ 44 rfl w.heap.size 84 j0 (.int .u64 0) 1 8 underlying44 hj0 hj1' hj2 hj3 rfl (by decide) _ k _ (by rfl) (HO.out.alloc _) ⟨wr.heap.size,0,none⟩ 1 1 [.int .u64 z] (by rfl) rfl (cell_one_new _ _ _) (by simp [Value.oneCell']) (by decide) (by unfold maxLen;omega) om (by simp;omega) (wr.heap.size+1) sm ?_;intro g cap w4 hown hgrow hat hlt1)
     have hbw:Below w.heap.size wr w4:=Below.grown ((Below.refl _ _).alloc om _) hgrow (by simp;omega) (fun q e=>(HO.out.lt _ e).1)
     go_roundg (gk - 1)
     case measure=>omega
     case rel=>exact ⟨k+1,0,zs++[z],om,by go_num,by go_num,om,hb2.trans hbw,by have:=hbw.size;omega,hid (by rw [List.map_append];exact hown),hid (.inr ⟨om,by
      rcases HZ.out with ⟨rfl,rfl,rfl⟩|⟨h1,rfl,rfl⟩
      ·rfl
      obtain ⟨q,rfl⟩:∃q,k=q+1:=⟨k - 1,om⟩
      simp [List.replicate_succ'],rfl⟩)⟩
    obtain rfl:k=4:=om
    obtain ⟨rfl,rfl⟩:zs=[x,0,0,0]∧z=0:=by
     rcases HZ.out with ⟨h1,_⟩|⟨h1,h2,h3⟩
     ·omega
     exact ⟨h2,h3⟩
    obtain ⟨a2,c2,rfl,hrl⟩:=ZpW (l:=[x,0,0,0]) HO.out
    clear HO HZ
    go_wp2_with fail
    go_roundg 0
    case measure=>omega
    case rel=>exact ⟨hb2,.inr ⟨rfl,by go_num,a2,c2,rfl,hid hrl⟩⟩
  go_wp2_with (go_at_call 252;(refine (ZrG (l:=[x,0,0,0]) (x:=x) (.inr ⟨3,rfl⟩) wr (fun b=>w.heap.size≤b) a1 c1 _ _ sm sm sm HR1.out).mono ?_);rintro e w1 ⟨rfl,c3,rfl,hr3⟩)
  go_ret
  exact ⟨hb1,a1,c3,rfl,hr3⟩
theorem Zsr (l:List Nat) (x:Nat) (hl:Zrx l x) (w:World) (A:Nat→Prop) (a:Option Addr) (c:Nat) (hln:l.length≤1048576) (hx:x < 65536) (hr:RL w A l a):
  Calls prog 202 #[.slice a l.length (l.length+c)] w fun e w'=>Below w.heap.size w w'∧∃a' c',e=.returned (.slice a' (W7 x).length ((W7 x).length+c'))∧RL w' (fun b=>w.heap.size≤b) (W7 x) a':=by
 have HR:=hid hr
 rcases Nat.eq_zero_or_pos x with rfl|h0
 ·clear hr
  go_enter func202,ntmps202
  go_wp2_with (go_at_call 252;(with_reducible refine (ZrG hl w A a c _ _ sm sm hln HR.out).mono ?_);rw [Zpu];rintro e w1 ⟨rfl,c1,rfl,hr1⟩)
  go_loopg [3,4] 1 (fun gk t3' t4' wr=>gk=1∧t3'=.slice none 0 0∧t4'=.int .i64 0∧wr=w)
  case atStart=>exact ⟨rfl,rfl,rfl,rfl⟩
  case round=>
   obtain ⟨rfl,rfl,rfl,rfl⟩:=hrel
   go_wp2_with fail
   go_ret
   exact ⟨Below.refl _ _,none,0,rfl,RL.nil _ _ _⟩
 obtain ⟨j0,hj0,hj1',hj2,hj3⟩:=info_parts ZpI
 rw [W8 h0]
 clear hr
 go_enter func202,ntmps202
 go_wp2_with (go_at_call 252;(with_reducible refine (ZrG hl w A a c _ _ sm sm hln HR.out).mono ?_);rw [W8 h0];rintro e w1 ⟨rfl,c1,rfl,hr1⟩)
 obtain ⟨b,o,rfl,hA,hb,hc⟩:=hr1.get 0 sm
 simp only [List.getElem_cons_zero,Nat.add_zero] at hc
 clear hr1
 go_loopg [3,4] 1 (fun gk t3' t4' wr=>Below w.heap.size w wr∧(gk=1∧t3'=.slice none 0 0∧t4'=.int .i64 0∧wr.cell? ⟨b,o,none⟩=some (.int .u64 x)∨gk=0∧t4'=.int .i64 4∧∃a1 c1,t3'=.slice a1 1 (1+c1)∧Hid (RL wr (fun b=>w.heap.size≤b) [x] a1)))
 case atStart=>exact ⟨ZtZ,.inl ⟨rfl,rfl,rfl,hc⟩⟩
 case round=>
  obtain ⟨hb1,⟨rfl,rfl,rfl,hcw⟩|⟨rfl,rfl,a1,c1,rfl,HR1⟩⟩:=hrel
  ·go_wp2_with fail
   have hz1:=hb1.size
   go_loopg [5,6] 2 (fun gk t5' t6' wq=>Below w.heap.size w wq∧wq.cell? ⟨b,o,none⟩=some (.int .u64 x)∧(gk=2∧t5'=.int .u64 0∧t6'=.int .i64 0∨gk=1∧t5'=.int .u64 x∧t6'=.int .i64 (-1)))
   case atStart=>exact ⟨hb1,hcw,.inl ⟨rfl,rfl,rfl⟩⟩
   case round=>
    obtain ⟨hb2,hc2,⟨rfl,rfl,rfl⟩|⟨rfl,rfl,rfl⟩⟩:=hrel
    all_goals have hz2:=hb2.size
    ·go_wp2_with fail
     go_roundg 1
     case measure=>omega
     case rel=>exact ⟨hb2,hc2,.inr ⟨rfl,by go_num,by go_num⟩⟩
    go_wp2_with (at_builtin;refine wpList_append_lies _ rfl _ _ 45 rfl w.heap.size 84 j0 (.int .u64 0) 1 8 underlying45 hj0 hj1' hj2 hj3 rfl (by decide) _ 0 [] (by rfl) ((World.ownsRow_nil _ _ _ _).alloc _) ⟨wr.heap.size,0,none⟩ 1 1 [.int .u64 x] (by rfl) rfl (cell_one_new _ _ _) (by simp [Value.oneCell']) (by decide) (by unfold maxLen;omega) om (by simp;omega) (wr.heap.size+1) sm ?_;intro g cap w4 hown hgrow hat hlt1)
    have hbw:Below w.heap.size wr w4:=Below.grown ((Below.refl _ _).alloc om _) hgrow (by simp;omega) (fun q e=>by cases e)
    obtain ⟨a2,c2,he,hrl⟩:=ZpW (l:=[x]) (by simpa using hown)
    rw [he]
    go_roundg 0
    case measure=>omega
    case rel=>exact ⟨hb2.trans hbw,.inr ⟨rfl,by go_num,a2,c2,rfl,hid hrl⟩⟩
  go_wp2_with fail
  go_ret
  exact ⟨hb1,a1,c1,rfl,HR1.out⟩
theorem ZpK (l:List Nat) (x:Nat) (hl:One l x) (w:World) (A:Nat→Prop) (a:Option Addr) (c:Nat) (hx:x < 65536) (hr:RL w A l a):
  Calls prog 131 #[.slice a l.length (l.length+c)] w fun e w'=>Below w.heap.size w w'∧∃a' c',e=.returned (.slice a' (W7 x).length ((W7 x).length+c'))∧RL w' (fun b=>w.heap.size≤b) (W7 x) a':=by
 have HR:=hid hr
 clear hr
 go_enter func131,ntmps131
 go_wp2_with (first
  | (go_at_call 203;(with_reducible refine (ZpD l x hl _ A a c hx (by exact HR.out)).mono ?_);rintro e w1 ⟨hb1,a1,c1,rfl,hr1⟩;have HR1:=hid hr1;clear hr1;have hz1:=hb1.size;(try simp at hz1))
  | (go_at_call 202;(with_reducible refine (Zsr (W7 x) x (ZqT x) _ (fun b=>w.heap.size≤b) a1 c1 (Zrn x) hx (by exact HR1.out)).mono ?_);rintro e w2 ⟨hb2,a2,c2,rfl,hr2⟩;have HR2:=hid hr2;clear hr2;have hz2:=hb2.size;(try simp at hz2)))
 go_ret
 exact ⟨ZtZ,a2,c2,rfl,Zt7 (fun b h _=>om) HR2.out⟩
theorem ZrN (x:Nat) (w:World) (hx:x < 65536):
  Calls prog 135 #[.int .u64 x] w fun e w'=>Below w.heap.size w w'∧∃a' c',e=.returned (.slice a' (W7 x).length ((W7 x).length+c'))∧RL w' (fun b=>w.heap.size≤b) (W7 x) a':=by
 go_enter func135,ntmps135
 go_wp2_with (go_at_call 131;refine (ZpK [x] x (.inr rfl) _ (fun _=>True) (some ⟨w.heap.size,0,none⟩) 0 hx (.inr ⟨w.heap.size,0,rfl,trivial,fun i hi=>by obtain rfl:i=0:=(by simpa using hi);go_simp⟩)).mono ?_;rintro e w1 ⟨hb1,a1,c1,rfl,hr1⟩)
 go_ret
 exact ⟨ZtZ,a1,c1,rfl,Zt7 (fun b h _=>by (try simp at h);omega) hr1⟩
set_option maxRecDepth 512
theorem Zq9 (l:List Nat) (x:Nat) (hl:Zrx l x) (w:World) (A:Nat→Prop) (a:Option Addr) (c n m:Nat) (hn:l.length=n) (hm:l.length+c=m) (hln:l.length≤1048576) (hx:x < 65536) (hr:RL w A l a):
  Calls prog 202 #[.slice a n m] w fun e w'=>Below w.heap.size w w'∧∃a' c',e=.returned (.slice a' (W7 x).length ((W7 x).length+c'))∧RL w' (fun b=>w.heap.size≤b) (W7 x) a':=by
 subst hn
 subst hm
 exact Zsr l x hl w A a c hln hx hr
theorem Zte (w:World):(Instr.makeSlice 44 (.int .i64 1) (.int .i64 1)).run prog w=.ok (.slice (some ⟨w.heap.size,0,none⟩) 1 1) (w.alloc (.cells #[.int .u64 0] 84)):=by
 have h:=run_make_row' 44 84 (.int .u64 0) 8 underlying44 ZpI rfl .i64 .i64 1 om om w
 rw [show madeCells #[Value.int .u64 0] 1= #[Value.int .u64 0] by kernel_rfl] at h
 exact h
theorem Ztf (w:World):(Instr.makeSlice 44 (.int .i64 2) (.int .i64 2)).run prog w=.ok (.slice (some ⟨w.heap.size,0,none⟩) 2 2) (w.alloc (.cells #[.int .u64 0,.int .u64 0] 84)):=by
 have h:=run_make_row' 44 84 (.int .u64 0) 8 underlying44 ZpI rfl .i64 .i64 2 om om w
 rw [show madeCells #[Value.int .u64 0] 2= #[Value.int .u64 0,Value.int .u64 0] by kernel_rfl] at h
 exact h
theorem Ztg (w:World):(Instr.makeSlice 44 (.int .i64 3) (.int .i64 3)).run prog w=.ok (.slice (some ⟨w.heap.size,0,none⟩) 3 3) (w.alloc (.cells #[.int .u64 0,.int .u64 0,.int .u64 0] 84)):=by
 have h:=run_make_row' 44 84 (.int .u64 0) 8 underlying44 ZpI rfl .i64 .i64 3 om om w
 rw [show madeCells #[Value.int .u64 0] 3= #[Value.int .u64 0,Value.int .u64 0,Value.int .u64 0] by kernel_rfl] at h
 exact h
end Go.Proofs.YtkdffbdnjfgpeaaGreat
