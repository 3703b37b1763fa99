/- Part 37. -/
import Derived.Deep.CutRange
import Derived.Deep.OwnRows
import Derived.Lib.SliceRun
import Derived.Test.YtkdffbdnjfgpeaaGreatProg
import Derived.Test.YtkdffbdnjfgpeaaGreatZ11
set_option linter.all false
namespace Go.Proofs.YtkdffbdnjfgpeaaGreat
open Go.Lib (hid)
open Go Go.RowKit Go.Proofs.Tryz
theorem ZpI:(prog.info? 84).map (fun i=>(i.zero,i.size,i.bytes))=some (some (.int .u64 0),1,8):=kr
theorem ZlF {p:Prop} (h:p:=by
 clear hr
 go_enter func179,ntmps179
 go_wp2_with fail
 go_ret
 exact ⟨rfl,rfl⟩):p:=h
theorem ZpS (l:List Nat) (i:Int) (w:World) (A:Nat→Prop) (a:Option Addr) (c:Nat) (hln:l.length≤1048576) (hi:Zv i) (hr:RL w A l a):
  Calls prog 179 #[.slice a l.length c,.int .i64 i] w fun e w'=>e=.returned (.int .u64 (if 0≤i then ((l.getD i.toNat 0:Nat):Int) else 0))∧w=w':=by
 by_cases h0:0≤i
 ·obtain ⟨k,rfl⟩:∃k:Nat,i=k:=⟨i.toNat,om⟩
  rw [if_pos h0,Int.toNat_natCast]
  by_cases hk:k < l.length
  ·obtain ⟨b,o,rfl,hA,hb,hc⟩:=hr.get k hk
   have hkI:(k:Int) < (l.length:Int):=om
   rw [List.getD_eq_getElem?_getD,List.getElem?_eq_getElem hk,Option.getD_some]
   generalize l[k]=x at hc ⊢
   exact ZlF
  have hkI:(l.length:Int)≤(k:Int):=om
  rw [List.getD_eq_getElem?_getD,List.getElem?_eq_none om,Option.getD_none]
  exact ZlF
 rw [if_neg h0]
 have h1:i < 0:=om
 exact ZlF
theorem ZpW {w:World} {base e n:Nat} {v:Value} {l:List Nat} (h:w.ownsRow base e 1 v n (l.map fun (x:Nat)=>Value.int .u64 (x:Int))):∃a c,v=.slice a l.length (l.length+c)∧RL w (fun b=>base≤b) l a:=by
 have hn:l.length=n:=by have:=h.1;rw [List.length_map] at this;omega
 subst hn
 rcases h.2 with ⟨h1,h2⟩|⟨g,cap,cur,rfl,hb,h3⟩
 ·have:l=[]:=List.length_eq_zero_iff.1 h2
  subst this
  exact ⟨none,0,h1,RL.nil _ _ _⟩
 refine ⟨_,cap - l.length,by rw [show l.length+(cap - l.length)=cap by have:=h3.2.1;omega],.inr ⟨g,0,rfl,hb,fun i hi=>?_⟩⟩
 have:=h.cells (g:=g) rfl i (.int .u64 (l[i]:Int)) (by rw [List.getElem?_map,List.getElem?_eq_getElem hi];rfl)
 simpa [Addr.add] using (by by_cases h0:i=0<;>simp_all [Addr.add])
set_option maxRecDepth 100000
set_option maxHeartbeats 2000000
theorem ZqS (l:List Nat) (w:World) (A:Nat→Prop) (a:Option Addr) (cp:Nat) (hln:l.length≤1048576) (hr:RL w A l a):
  Calls prog 177 #[.slice a l.length cp] w fun e w'=>Below w.heap.size w w'∧∃a' c',e=.returned (.slice a' l.length (l.length+c'))∧RL w' (fun b=>w.heap.size≤b) l a':=by
 cases a with
 | none=>
  have h0:l=[]:=by
   rcases hr with h|⟨b,o,e, -⟩
   ·exact h
   cases e
  subst h0
  have hq0:∀w:World,(binOp .eql 45 (.slice none 0 cp) (.slice none 0 0)).run prog w=.ok (.bool true) w:=fun w=>Lib.run_eql_slice_nil w _ _ none 0 cp 0 0 underlying45
  clear hr
  go_enter func177,ntmps177
  go_wp2_with fail
  go_ret
  exact ⟨ZtZ,none,0,rfl,RL.nil _ _ _⟩
 | some ad=>
  obtain ⟨b,o,path⟩:=ad
  have hc:∀j u,(l.map fun (x:Nat)=>Value.int .u64 (x:Int))[j]? =some u→w.cell? ((⟨b,o,path⟩:Addr).add j)=some u:=by
   intro j u hu
   rw [List.getElem?_map] at hu
   cases hj:l[j]? with
   | none=>rw [hj] at hu;cases hu
   | some x=>
    rw [hj] at hu
    cases hu
    obtain ⟨hlt,rfl⟩:=List.getElem?_eq_some_iff.1 hj
    obtain ⟨b',o',e, -, -,hcell⟩:=hr.get j hlt
    cases e
    rw [Addr.add_lit]
    exact hcell
  have HC:=hid hc
  obtain ⟨i0,hi,hz0,hz1,hz2⟩:=info_parts ZpI
  have hq0:∀w:World,(binOp .eql 45 (.slice (some ⟨b,o,path⟩) l.length cp) (.slice none 0 0)).run prog w=.ok (.bool false) w:=fun w=>Lib.run_eql_slice_nil w _ _ _ _ cp 0 0 underlying45
  clear hr hc
  go_enter func177,ntmps177
  go_wp2_with (at_builtin;refine wpList_append_own_at _ rfl _ _ 45 rfl w.heap.size 84 i0 _ 1 8 underlying45 hi hz0 hz1 hz2 rfl (by decide) _ 0 [] (by rfl) (World.ownsRow_made _ _ 0 (Nat.le_refl _) (by unfold maxLen;omega) rfl) ⟨b,o,path⟩ l.length cp (l.map fun (x:Nat)=>Value.int .u64 (x:Int)) (by rfl) (by rw [List.length_map];omega) (fun j u hu=>(Below.cell (Below.alloc (Below.refl w.heap.size w) (Nat.le_refl _) _) (World.block_lt_of_cell? _ _ (HC.out j u hu))).trans (HC.out j u hu)) (by simp [Value.oneCell']) (by unfold maxLen;omega) om sm ?_;intro v' w' hown hgrow _ _)
  have hb1:Below w.heap.size w w':=Below.grown (Below.alloc (Below.refl _ _) (Nat.le_refl _) _) hgrow sm (fun k e=>by cases e;exact Nat.le_refl _)
  obtain ⟨a',c',rfl,hrl⟩:=ZpW (l:=l) (by simpa using hown)
  go_ret
  exact ⟨hb1,a',c',rfl,hrl⟩
theorem Zr3 (l:List Nat) (w:World) (A:Nat→Prop) (a:Option Addr) (c:Nat) (hln:l.length≤1048576) (hr:RL w A l a):
  Calls prog 105 #[.slice a l.length (l.length+c)] w fun e w'=>Below w.heap.size w w'∧∃r a' c',Zrg l r∧e=.returned (.slice a' r.length (r.length+c'))∧RL w' (fun b=>w.heap.size≤b) r a':=by
 have HR:=hid hr
 clear hr
 go_enter func105,ntmps105
 go_wp2_with fail
 go_loopg [3] (l.length) (fun gk t3' wr=>gk≤l.length∧t3'=.int .i64 gk∧wr=w∧Hid (∀j (h:j < l.length),gk≤j→l[j]=0))
 case atStart=>exact ⟨Nat.le_refl _,rfl,rfl,hid (fun j h hj=>absurd h om)⟩
 case round=>
  obtain ⟨hgl,rfl,rfl,HZ⟩:=hrel
  have hw1:IntKind.i64.wrap ((gk:Int) - 1)=(gk:Int) - 1:=IntWalk.i64_in _ om
  have hs0:(0:Int)≤(gk:Int):=om
  have hs1:(gk:Int)≤(l.length:Int)+(c:Int):=om
  have FIN:=hid (ZqX l gk hgl HZ.out)
  by_cases h0:gk=0
  ·subst h0
   have hg0:¬((0:Int) < ((0:Nat):Int)):=om
   go_wp2_with (go_at_call 177;refine (ZqS (l.take 0) _ A a _ sm (by exact RL.nil _ _ _)).mono ?_;rintro e w1 ⟨hb1,a',c',rfl,hr1⟩)
   go_ret
   exact ⟨hb1,l.take 0,a',c',FIN.out sm,sm,hr1⟩
  obtain ⟨q,rfl⟩:∃q,gk=q+1:=⟨gk - 1,om⟩
  have hq:q < l.length:=om
  obtain ⟨b,o,rfl,hA,hb,hc⟩:=HR.out.get q hq
  have hg0:(0:Int) < ((q+1:Nat):Int):=om
  have hq2:((q+1:Nat):Int) - 1=(q:Int):=om
  rw [hq2] at hw1
  have hqI:(q:Int) < (l.length:Int):=om
  by_cases hz:l[q]=0
  ·rw [hz] at hc
   go_wp2_with fail
   go_roundg q
   case measure=>omega
   case rel=>exact ⟨om,by go_num,rfl,hid (fun j h hj=>by
    by_cases hj2:j=q
    ·subst hj2;exact hz
    exact HZ.out j h om)⟩
  have hzB:(((l[q]:Nat):Int)==0)=false:=by simp [hz]
  generalize hx:l[q]=x at hc hzB
  have hlen:(l.take (q+1)).length=q+1:=by rw [List.length_take];omega
  have HF:=hid (FIN.out (.inr ⟨by simpa using hq,by simpa using hz⟩))
  go_wp2_with (go_at_call 177;refine (show Calls _ _ #[.slice _ ((q+1:Nat)) _] _ _ from by have:=ZqS (l.take (q+1)) wr A (some ⟨b,o,none⟩) (l.length+c) (by rw [hlen];omega) (HR.out.take _);rw [hlen] at this;exact this).mono ?_;rintro e w1 ⟨hb1,a',c',rfl,hr1⟩)
  go_ret
  exact ⟨hb1,l.take (q+1),a',c',HF.out,by rw [hlen];rfl,hr1⟩
set_option maxRecDepth 512
theorem Zra {l:List Nat} {x:Nat} (hl:Zrx l x) (w:World) (A:Nat→Prop) (a:Option Addr) (c:Nat) (hln:l.length≤1048576) (hr:RL w A l a):
  Calls prog 105 #[.slice a l.length (l.length+c)] w fun e w'=>Below w.heap.size w w'∧∃a' c',e=.returned (.slice a' (W7 x).length ((W7 x).length+c'))∧RL w' (fun b=>w.heap.size≤b) (W7 x) a':=
 (Zr3 l w A a c hln hr).mono fun e w' ⟨hb,r,a',c',ht,he,hr'⟩=>by
  obtain rfl:=ZqI ht hl
  exact ⟨hb,a',c',he,hr'⟩
theorem ZpV (x:Nat) (w:World) (A:Nat→Prop) (a:Option Addr) (c:Nat) (hr:RL w A (W7 x) a):
  Calls prog 105 #[.slice a (W7 x).length ((W7 x).length+c)] w fun e w'=>Below w.heap.size w w'∧∃a' c',e=.returned (.slice a' (W7 x).length ((W7 x).length+c'))∧RL w' (fun b=>w.heap.size≤b) (W7 x) a':=
 Zra (ZqT x) w A a c (Zrn x) hr
theorem Zth (w:World):(Instr.makeSlice 45 (.int .i64 1) (.int .i64 1)).run prog w=.ok (.slice (some ⟨w.heap.size,0,none⟩) 1 1) (w.alloc (.cells #[.int .u64 0] 84)):=by
 have h:=run_make_row' 45 84 (.int .u64 0) 8 underlying45 ZpI rfl .i64 .i64 1 om om w
 rw [show madeCells #[Value.int .u64 0] 1= #[Value.int .u64 0] by kernel_rfl] at h
 exact h
end Go.Proofs.YtkdffbdnjfgpeaaGreat
