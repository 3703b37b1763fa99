/- What the proofs of the Trial statements need: part 46. -/
import Derived.Deep.CutRange
import Derived.Lib.SliceRun
import Derived.Test.YtojjdneicmbfjaaGreatDoorQ0
import Derived.Test.YtojjdneicmbfjaaGreatDoorQ17
import Derived.Test.YtojjdneicmbfjaaGreatDoorQ84
set_option linter.unusedVariables false
set_option linter.unusedSimpArgs false
namespace Go.Proofs.YtojjdneicmbfjaaGreatDoor
open Go.Lib (hid)
open Go Go.RowKit
theorem infoPred:(Tryz.prog.info? 28).map (fun i=>(i.zero,i.size,i.bytes))=some (some (.agg #[.int .u8 0,.int .u8 0,.int .i64 0,.slice none 0 0,.int .i64 0,.slice none 0 0]),6,80):=by kernel_rfl
theorem vcopy_any (x:GV) (m:VA) (w:World) (A:Nat→Prop) (ox:okV x) (hl:RV w A x m.a):Calls Tryz.prog 96 #[VV x m] w (CopyR x w):=
 copy_of x m w A ox (fun W h=>copies_any (sizeVs x.l) x.l W A _ _ (Nat.le_refl _) (okV_iff.1 ox).2.2.1 (okV_iff.1 ox).2.2.2 h) (RV_iff.1 hl)
set_option maxRecDepth 100000 in
set_option maxHeartbeats 2000000 in
theorem pclone_any (l:List GP) (w:World) (A:Nat→Prop) (a:Option Addr) (cp:Nat) (hln:l.length≤1048576) (hr:RPs w A l a):
  Calls Tryz.prog 89 #[.slice a l.length cp] w fun e w'=>Below w.heap.size w w'∧∃v ps,e=.returned v∧Hid (ps.map Prod.fst=l)∧Hid (w'.ownsRow w.heap.size 28 6 v l.length (flatP ps))∧Hid (∀q∈ps,RP w' (fun b=>A b∧b < w.heap.size) q.1 q.2):=by
 have hr':=RPs.mono (A':=fun b=>A b∧b < w.heap.size) (fun b h hb=>⟨h,hb⟩) _ _ hr
 cases a with
 | none=>
  have h0:l=[]:=by
   cases l with
   | nil=>rfl
   | cons x l=>simp only [RPs] at hr;obtain ⟨b,o,m,e,_⟩:=hr;cases e
  subst h0
  have hq0:∀w:World,(binOp .eql 26 (.slice none 0 cp) (.slice none 0 0)).run Tryz.prog w=.ok (.bool true) w:=fun w=>Lib.run_eql_slice_nil w _ _ none 0 cp 0 0 Tryz.underlying26
  clear hr hr'
  go_enter Tryz.func89,Tryz.ntmps89
  go_wp2_with fail
  go_ret
  exact ⟨Below.r,_,[],rfl,hid rfl,hid (World.ownsRow_nil _ _ _ _),hid (fun q hq=>by cases hq)⟩
 | some ad=>
  obtain ⟨b,o,path⟩:=ad
  have hps:∃ps:List (GP×PA),ps.map Prod.fst=l∧(∀j u,(flatP ps)[j]? =some u→w.cell? ((⟨b,o,path⟩:Addr).add j)=some u)∧∀p∈ps,RP w (fun b=>A b∧b < w.heap.size) p.1 p.2:=by
   cases l with
   | nil=>exact ⟨[],rfl,fun j u h=>by simp [flatP] at h,fun p hp=>by cases hp⟩
   | cons x l=>
    have h:=hr'
    simp only [RPs] at h
    obtain ⟨b',o',m,e,_⟩:=h
    simp only [Option.some.injEq,Addr.mk.injEq] at e
    obtain ⟨rfl,rfl,rfl⟩:=e
    obtain ⟨ps,h1,h2,h3⟩:=RPs_cells _ _ _ hr'
    exact ⟨ps,h1,fun j u hj=>by rw [Addr.add_lit];exact h2 j u hj,h3⟩
  obtain ⟨ps,hm,hc,hp⟩:=hps
  have HM:=hid hm
  have HC:=hid hc
  have HP:=hid hp
  have hlen:ps.length=l.length:=by rw [←hm,List.length_map]
  have HLEN:=hid hlen
  obtain ⟨i0,hi,hz0,hz1,hz2⟩:=info_parts infoPred
  have hq0:∀w:World,(binOp .eql 26 (.slice (some ⟨b,o,path⟩) l.length cp) (.slice none 0 0)).run Tryz.prog w=.ok (.bool false) w:=fun w=>Lib.run_eql_slice_nil w _ _ _ _ cp 0 0 Tryz.underlying26
  clear hr hr' hm hc hp hlen
  go_enter Tryz.func89,Tryz.ntmps89
  go_wp2_with (at_builtin;refine wpList_append_own_at _ rfl _ _ 26 rfl w.heap.size 28 i0 _ 6 80 Tryz.underlying26 hi hz0 hz1 hz2 rfl (by decide) _ 0 [] (by rfl) (World.ownsRow_made _ _ 0 (Nat.le_refl _) (by unfold maxLen;omega) rfl) ⟨b,o,path⟩ l.length cp (flatP ps) (by rfl) (by rw [flatP_length,HLEN.out]) (fun j u hu=>(Below.cell (Below.alloc (Below.refl w.heap.size w) (Nat.le_refl _) _) (World.block_lt_of_cell? _ _ (HC.out j u hu))).trans (HC.out j u hu)) (flatP_one ps) (by unfold maxLen;omega) (by omega) (by simp) ?_;intro v' w' hown hgrow _ _)
  have hb1:Below w.heap.size w w':=Below.grown (Below.alloc (Below.refl _ _) (Nat.le_refl _) _) hgrow (by simp) (fun k e=>by cases e;exact Nat.le_refl _)
  go_ret
  refine ⟨hb1,v',ps,rfl,HM,hid (by simpa using hown),hid (fun q hq=>RP.ext (Agree.below hb1) _ _ (HP.out q hq))⟩
def PCopiesR (l:List GP) (w:World):Ending→World→Prop:=fun e w'=>Below w.heap.size w w'∧∃a c,e=.returned (.slice a l.length c)∧RPs w' (fun b=>w.heap.size≤b) l a
def PCopyR (x:GP) (w:World):Ending→World→Prop:=fun e w'=>Below w.heap.size w w'∧∃m,e=.returned (PV x m)∧RP w' (fun b=>w.heap.size≤b) x m
set_option maxRecDepth 100000 in
set_option maxHeartbeats 2000000 in
theorem pcopy_of (x:GP) (m:PA) (w:World) (A:Nat→Prop) (ox:okP x) (h:∀W,RPs W A x.a m.a→Calls Tryz.prog 61 #[.slice m.a x.a.length m.c] W (PCopiesR x.a W)) (hl:RP w A x m):
  Calls Tryz.prog 90 #[PV x m] w (PCopyR x w):=by
 obtain ⟨ma,mb,mc,md⟩:=m
 obtain ⟨hv,ha⟩:=RP_iff.1 hl
 have HX:=hid h
 have HV:=hid hv
 have HA:=hid ha
 have OV:=hid (okP_iff.1 ox).2.1
 clear h hl ox hv ha
 go_enter Tryz.func90,Tryz.ntmps90
 go_wp2_with (first
  | (go_at_call 96;refine (vcopy_any x.v ⟨ma,mb⟩ _ A OV.out (by exact RV.ext (Agree.below Below.r) _ _ HV.out)).mono ?_;rintro e w1 ⟨hb1,⟨a1,c1⟩,rfl,hr1⟩;obtain ⟨hc1,hf1⟩:=bcells hb1;have hz1:=hb1.size;(try simp at hz1);have HR1:=hid hr1;clear hr1;have y1:w.heap.size < w1.heap.size:=(by omega);have y2:w.heap.size+1 < w1.heap.size:=(by omega);have p0:w1.cell? ⟨w.heap.size,0,none⟩=some (.int .u8 x.k):=(by go_simp);have p1:w1.cell? ⟨w.heap.size,1,none⟩=some (.int .u8 x.v.k):=(by go_simp);have p2:w1.cell? ⟨w.heap.size,2,none⟩=some (.int .i64 x.v.n):=(by go_simp);have p3:w1.cell? ⟨w.heap.size,3,none⟩=some (.slice ma x.v.l.length mb):=(by go_simp);have p4:w1.cell? ⟨w.heap.size,4,none⟩=some (.int .i64 x.n):=(by go_simp);have p5:w1.cell? ⟨w.heap.size,5,none⟩=some (.slice mc x.a.length md):=(by go_simp);have q0:w1.cell? ⟨w.heap.size+1,0,none⟩=some (.int .u8 0):=(by go_simp);have q1:w1.cell? ⟨w.heap.size+1,1,none⟩=some (.int .u8 0):=(by go_simp);have q2:w1.cell? ⟨w.heap.size+1,2,none⟩=some (.int .i64 0):=(by go_simp);have q3:w1.cell? ⟨w.heap.size+1,3,none⟩=some (.slice none 0 0):=(by go_simp);have q4:w1.cell? ⟨w.heap.size+1,4,none⟩=some (.int .i64 0):=(by go_simp);have q5:w1.cell? ⟨w.heap.size+1,5,none⟩=some (.slice none 0 0):=(by go_simp))
  | (go_at_call 61;refine (HX.out _ (by exact RPs.ext (Agree.below Below.r) _ _ HA.out)).mono ?_;rintro e w2 ⟨hb2,a2,c2,rfl,hr2⟩;obtain ⟨hc2,hf2⟩:=bcells hb2;have hz2:=hb2.size;(try simp at hz2);have HR2:=hid hr2;clear hr2;have y3:w.heap.size < w2.heap.size:=(by omega);have y4:w.heap.size+1 < w2.heap.size:=(by omega);have r0:w2.cell? ⟨w.heap.size,0,none⟩=some (.int .u8 x.k):=(by go_simp);have r1:w2.cell? ⟨w.heap.size,1,none⟩=some (.int .u8 x.v.k):=(by go_simp);have r2:w2.cell? ⟨w.heap.size,2,none⟩=some (.int .i64 x.v.n):=(by go_simp);have r3:w2.cell? ⟨w.heap.size,3,none⟩=some (.slice a1 x.v.l.length c1):=(by go_simp);have r4:w2.cell? ⟨w.heap.size,4,none⟩=some (.int .i64 x.n):=(by go_simp);have r5:w2.cell? ⟨w.heap.size,5,none⟩=some (.slice mc x.a.length md):=(by go_simp);have s0:w2.cell? ⟨w.heap.size+1,0,none⟩=some (.int .u8 0):=(by go_simp);have s1:w2.cell? ⟨w.heap.size+1,1,none⟩=some (.int .u8 0):=(by go_simp);have s2:w2.cell? ⟨w.heap.size+1,2,none⟩=some (.int .i64 0):=(by go_simp);have s3:w2.cell? ⟨w.heap.size+1,3,none⟩=some (.slice none 0 0):=(by go_simp);have s4:w2.cell? ⟨w.heap.size+1,4,none⟩=some (.int .i64 0):=(by go_simp);have s5:w2.cell? ⟨w.heap.size+1,5,none⟩=some (.slice none 0 0):=(by go_simp)))
 refine bodyPost_ret (v:=PV x ⟨a1,c1,a2,c2⟩) (by first|(simp [results,Tryz.f90,go_sem];done)|(simp [results,Tryz.f90,go_sem, *];done)) rfl ?_
 refine ⟨Below.r,⟨a1,c1,a2,c2⟩,rfl,RP_iff.2 ⟨RV.mono (A:=fun b=>w.heap.size+2≤b) (fun b hb _=>by omega) _ _ (RV.ext ?_ _ _ (RV.mono (fun b hb _=>by simp at hb;omega) _ _ HR1.out)),RPs.mono (A:=fun b=>w.heap.size+2≤b) (fun b hb _=>by omega) _ _ (RPs.ext ?_ _ _ (RPs.mono (fun b hb _=>by simp at hb;omega) _ _ HR2.out))⟩⟩
 ·exact ((((Agree.set so).trans (Agree.set so)).trans (Agree.set so)).trans (Agree.below hb2)).trans (((((((Agree.set so).trans (Agree.set so)).trans (Agree.set so)).trans (Agree.set so)).trans (Agree.set so)).trans (Agree.set so)).trans (Agree.set so))
 ·exact (((((((Agree.set so).trans (Agree.set so)).trans (Agree.set so)).trans (Agree.set so)).trans (Agree.set so)).trans (Agree.set so)).trans (Agree.set so))
set_option maxRecDepth 100000 in
set_option maxHeartbeats 4000000 in
theorem pcopies_of (l:List GP) (w:World) (A:Nat→Prop) (a:Option Addr) (cp:Nat) (hln:l.length≤1048576) (ol:okPs l) (hr:RPs w A l a)
  (ih:∀x∈l,∀(W:World) (A':Nat→Prop) (b:Option Addr) (cb:Nat),RPs W A' x.a b→Calls Tryz.prog 61 #[.slice b x.a.length cb] W (PCopiesR x.a W)):
  Calls Tryz.prog 61 #[.slice a l.length cp] w (PCopiesR l w):=by
 have HR:=hid hr
 have IH:=hid ih
 have O:=hid ol
 clear ih hr ol
 by_cases h0:l=[]
 ·subst h0
  clear IH O
  go_enter Tryz.func61,Tryz.ntmps61
  go_wp2_with (go_at_call 89;refine (pclone_any [] _ A a cp (by simp) (by exact RPs.ext (Agree.below Below.r) _ _ HR.out)).mono ?_;rintro e w1 ⟨hb1,v,ps,rfl, -,HW, -⟩;obtain ⟨av,cv,rfl⟩:∃av cv,v=.slice av 0 cv:=(by rcases HW.out.2 with ⟨h,_⟩|⟨g,cap,cur,h,_⟩;exact ⟨none,0,h⟩;exact ⟨_,cap,h⟩))
  go_loopg [10] 0 (fun gk i wr=>i=.int .i64 0∧wr=w1)
  case atStart=>exact ⟨rfl,rfl⟩
  case round=>
   obtain ⟨rfl,rfl⟩:=hrel
   go_wp2_with fail
   go_ret
   exact ⟨Below.r,av,cv,rfl,by simp only [RPs]⟩
 have hpos:0 < l.length:=List.length_pos_iff.2 h0
 clear h0
 go_enter Tryz.func61,Tryz.ntmps61
 go_wp2_with (go_at_call 89;refine (pclone_any l _ A a cp hln (by exact RPs.ext (Agree.below Below.r) _ _ HR.out)).mono ?_;rintro e w1 ⟨hb1,v,ps0,rfl,HM,HW0,HP0⟩;obtain ⟨g,cap,rfl⟩:∃g cap,v=.slice (some ⟨g,0,none⟩) l.length cap:=(by rcases HW0.out.2 with ⟨_,h⟩|⟨g,cap,cur,h,_⟩;omega;exact ⟨g,cap,h⟩))
 have hg:=HW0.out.lt g rfl
 obtain ⟨hg1,hg2⟩:=hg
 go_loopg [10] (l.length) (fun gk i wr=>∃j:Nat,gk+j=l.length∧i=.int .i64 j∧Below w.heap.size w wr∧g < wr.heap.size∧∃ps:List (GP×PA),Hid (ps.length=l.length) ∧
  Hid (wr.ownsRow w.heap.size 28 6 (.slice (some ⟨g,0,none⟩) l.length cap) l.length (flatP ps)) ∧
  Hid (∀q (h:q < l.length) (h':q < ps.length),ps[q].1=l[q]∧(q < j→RP wr (fun b=>g < b) ps[q].1 ps[q].2)∧(j≤q→RP wr (fun b=>A b∧b < w.heap.size) ps[q].1 ps[q].2)))
 case atStart=>
  refine ⟨0,by omega,rfl,hb1,hg2,ps0,hid (by rw [←HM.out,List.length_map]),hid HW0.out,hid (fun q h h'=>⟨?_,fun h9=>absurd h9 (by omega),fun _=>HP0.out _ (List.getElem_mem h')⟩)⟩
  have h8:(ps0.map Prod.fst)[q]'(by simpa using h')=l[q]:=by simp only [HM.out]
  simpa using h8
 case round=>
  obtain ⟨j,hj,rfl,hb,hz,ps,HP,HW,HQ⟩:=hrel
  by_cases hlt:j < l.length
  ·have hjp:j < ps.length:=by rw [HP.out];exact hlt
   obtain ⟨hq1, -,hq3⟩:=HQ.out j hlt hjp
   have hx:=hq3 (Nat.le_refl _)
   rw [hq1] at hx
   obtain ⟨f0,f1,f2,f3,f4,f5⟩:=flatP_get ps j hjp
   rw [hq1] at f0 f1 f2 f3 f4 f5
   obtain ⟨m,hm⟩:∃m,m=ps[j].2:=⟨_,rfl⟩
   rw [←hm] at hx f3 f5
   obtain ⟨ma,mb,mc,md⟩:=m
   have HX:=hid hx
   have g0:=(HW.out.cellAt (j*6) (by have:=HP.out;omega)).trans f0
   have g1:=(HW.out.cellAt (j*6+1) (by have:=HP.out;omega)).trans f1
   have g2:=(HW.out.cellAt (j*6+2) (by have:=HP.out;omega)).trans f2
   have g3:=(HW.out.cellAt (j*6+3) (by have:=HP.out;omega)).trans f3
   have g4:=(HW.out.cellAt (j*6+4) (by have:=HP.out;omega)).trans f4
   have g5:=(HW.out.cellAt (j*6+5) (by have:=HP.out;omega)).trans f5
   clear hx hq1 hq3 f0 f1 f2 f3 f4 f5 hm
   have hzz:=hz
   go_wp2_with (go_at_call 90;refine (pcopy_of l[j] ⟨ma,mb,mc,md⟩ _ (fun b=>A b∧b < w.heap.size) (O.out.get j hlt) (fun W h=>IH.out l[j] (List.getElem_mem hlt) W _ _ _ h) (by exact RP.ext (Agree.below Below.r) _ _ HX.out)).mono ?_;rintro e w2 ⟨hb2,m,rfl,hr2⟩;have HR2:=hid hr2;clear hr2;have hz2:=hb2.size;(try simp at hz2);have hbb:Below wr.heap.size wr w2:=Below.r;have HW2:=hid (owns_below HW.out hbb (fun k e=>(by cases e;exact hz)));obtain ⟨y0,y1,y2,y3,y4,y5⟩:=flatP_get ps j hjp;have z0:=(HW2.out.cellAt (j*6) (by omega)).trans y0;have z1:=(HW2.out.cellAt (j*6+1) (by omega)).trans y1;have z2:=(HW2.out.cellAt (j*6+2) (by omega)).trans y2;have z3:=(HW2.out.cellAt (j*6+3) (by omega)).trans y3;have z4:=(HW2.out.cellAt (j*6+4) (by omega)).trans y4;have z5:=(HW2.out.cellAt (j*6+5) (by omega)).trans y5;have hff:∀o,w2.frozen? ⟨g,o,none⟩=false:=HW2.out.frozenAt;clear y0 y1 y2 y3 y4 y5)
   obtain ⟨hst,hsg⟩:=ownsP_stored HW2.out j l[j] m hjp
   have hag:Agree (fun b=>b≠g) wr _:=(Agree.below hbb).trans (Agree.grown hsg fun b hb e=>by cases e;exact hb rfl)
   go_roundg (gk - 1)
   case measure=>omega
   case rel=>
    refine ⟨j+1,by omega,by go_num,?_,by simp;omega,ps.set j (l[j],m),hid (by simp [HP.out]),hid hst,hid (fun q h h'=>?_)⟩
    ·exact (((((hb.trans (hbb.mono (by omega))).setCell hg1 _).setCell hg1 _).setCell hg1 _).setCell hg1 _).setCell hg1 _ |>.setCell hg1 _
    ·by_cases hqj:q=j
     ·subst hqj
      rw [List.getElem_set_self]
      exact ⟨rfl,fun _=>RP.ext (Agree.grown hsg fun b hb e=>by cases e;omega) _ _ (RP.mono (fun b h _=>by simp at h;omega) _ _ HR2.out),fun h9=>absurd h9 (by omega)⟩
     ·rw [List.getElem_set_ne (fun e=>hqj e.symm)]
      have h9:=HQ.out q h (by simpa using h')
      exact ⟨h9.1,fun hlt=>RP.ext (A:=fun b=>g < b) (fun p v hA hc=>hag p v (by omega) hc) _ _ (h9.2.1 (by omega)),fun hle=>RP.ext (A:=fun b=>A b∧b < w.heap.size) (fun p v hA hc=>hag p v (by omega) hc) _ _ (h9.2.2 (by omega))⟩
  ·have hjl:j=l.length:=by omega
   subst hjl
   go_wp2_with fail
   go_ret
   obtain ⟨ac,cc,h1,h2⟩:=RPs_of_owns (A:=fun b=>w.heap.size≤b) HW.out (fun b h=>h) (fun p hp=>by
    obtain ⟨q,hq,rfl⟩:=List.getElem_of_mem hp
    have:=HP.out
    exact RP.mono (fun b h _=>by omega) _ _ ((HQ.out q (by omega) hq).2.1 (by omega)))
   have h3:ps.map Prod.fst=l:=List.ext_getElem (by simp [HP.out]) fun q h h'=>by
    simp only [List.getElem_map]
    exact (HQ.out q h' (by simpa using h)).1
   rw [h3] at h1 h2
   exact ⟨hb,ac,cc,by rw [←h1];rfl,h2⟩
theorem pcopies2_any (N:Nat):∀(l:List GP) (w:World) (A:Nat→Prop) (a:Option Addr) (cp:Nat),sizePs l≤N→l.length≤1048576→okPs l→RPs w A l a →
  Calls Tryz.prog 61 #[.slice a l.length cp] w (PCopiesR l w):=by
 induction N with
 | zero=>
  intro l w A a cp hN hln ol hr
  refine pcopies_of l w A a cp hln ol hr fun x hx=>?_
  have h0:l=[]:=by have:=sizePs_length l;exact List.eq_nil_of_length_eq_zero (by omega)
  rw [h0] at hx
  cases hx
 | succ N ih=>
  intro l w A a cp hN hln ol hr
  refine pcopies_of l w A a cp hln ol hr fun x hx W A' b cb h=>?_
  obtain ⟨j,hj,rfl⟩:=List.getElem_of_mem hx
  have h1:=sizePs_get l j hj
  have h2:=sizeP_eq l[j]
  have h3:=okP_iff.1 (ol.get j hj)
  exact ih l[j].a W A' b cb (by omega) h3.2.2.2.1 h3.2.2.2.2 h
theorem cYes_any (w:World):Calls Tryz.prog 36 #[] w fun e w'=>e=.returned (PV ⟨1,⟨0,0,[]⟩,0,[]⟩ ⟨none,0,none,0⟩)∧Below w.heap.size w w':=by
 go_enter Tryz.func36,Tryz.ntmps36
 go_wp2_with fail
 refine bodyPost_ret (v:=PV ⟨1,⟨0,0,[]⟩,0,[]⟩ ⟨none,0,none,0⟩) (by first|(simp [results,Tryz.f36,go_sem];done)|(simp [results,Tryz.f36,go_sem, *];done)) rfl ?_
 exact ⟨rfl,Below.r⟩
theorem cNo_any (w:World):Calls Tryz.prog 38 #[] w fun e w'=>e=.returned (PV ⟨2,⟨0,0,[]⟩,0,[]⟩ ⟨none,0,none,0⟩)∧Below w.heap.size w w':=by
 go_enter Tryz.func38,Tryz.ntmps38
 go_wp2_with fail
 refine bodyPost_ret (v:=PV ⟨2,⟨0,0,[]⟩,0,[]⟩ ⟨none,0,none,0⟩) (by first|(simp [results,Tryz.f38,go_sem];done)|(simp [results,Tryz.f38,go_sem, *];done)) rfl ?_
 exact ⟨rfl,Below.r⟩
theorem pred_mk (k:Int) (l:List GP) (w w1:World) (b:Nat) (c:Option Addr) (cp:Nat) (hb:b < w1.heap.size) (hr:RPs w1 (fun q=>b < q) l c) (hb0:w.heap.size≤b):∀W,Agree (fun q=>q≠b) w1 W→RP W (fun q=>w.heap.size≤q) ⟨k,⟨0,0,[]⟩,0,l⟩ ⟨none,0,c,cp⟩:=fun W h=>
 RP_iff.2 ⟨by simp [RV,RVs],RPs.mono (fun q hq _=>by omega) _ _ (RPs.ext (A:=fun q=>b < q) (fun p v hA hc=>h p v (by omega) hc) _ _ hr)⟩
set_option maxRecDepth 100000 in
set_option maxHeartbeats 2000000 in
theorem pAnd_any (l:List GP) (w:World) (A:Nat→Prop) (a:Option Addr) (cp:Nat) (hln:l.length≤1048576) (ol:okPs l) (hr:RPs w A l a):Calls Tryz.prog 35 #[.slice a l.length cp] w (PCopyR ⟨6,⟨0,0,[]⟩,0,l⟩ w):=by
 have HR:=hid hr
 have OL:=hid ol
 clear hr ol
 go_enter Tryz.func35,Tryz.ntmps35
 go_wp2_with (go_at_call 61;refine (pcopies2_any _ l _ A a cp (Nat.le_refl _) hln OL.out (by exact RPs.ext (Agree.below Below.r) _ _ HR.out)).mono ?_;rintro e w1 ⟨hb1,c,cq,rfl,hr1⟩;obtain ⟨hc1,hf1⟩:=bcells hb1;have hz1:=hb1.size;(try simp at hz1);have HR1:=hid hr1;clear hr1;have y1:w.heap.size < w1.heap.size:=(by omega))
 refine bodyPost_ret (v:=PV ⟨6,⟨0,0,[]⟩,0,l⟩ ⟨none,0,c,cq⟩) (by first|(simp [results,Tryz.f35,go_sem];done)|(simp [results,Tryz.f35,go_sem, *];done)) rfl ?_
 exact ⟨Below.r,⟨none,0,c,cq⟩,rfl,pred_mk 6 l w w1 w.heap.size c cq y1 (RPs.mono (fun b hb _=>by simp at hb;omega) _ _ HR1.out) (Nat.le_refl _) _ ((((((Agree.set so).trans (Agree.set so)).trans (Agree.set so)).trans (Agree.set so)).trans (Agree.set so)).trans (Agree.set so))⟩
set_option maxRecDepth 100000 in
set_option maxHeartbeats 2000000 in
theorem pOr_any (l:List GP) (w:World) (A:Nat→Prop) (a:Option Addr) (cp:Nat) (hln:l.length≤1048576) (ol:okPs l) (hr:RPs w A l a):Calls Tryz.prog 37 #[.slice a l.length cp] w (PCopyR ⟨7,⟨0,0,[]⟩,0,l⟩ w):=by
 have HR:=hid hr
 have OL:=hid ol
 clear hr ol
 go_enter Tryz.func37,Tryz.ntmps37
 go_wp2_with (go_at_call 61;refine (pcopies2_any _ l _ A a cp (Nat.le_refl _) hln OL.out (by exact RPs.ext (Agree.below Below.r) _ _ HR.out)).mono ?_;rintro e w1 ⟨hb1,c,cq,rfl,hr1⟩;obtain ⟨hc1,hf1⟩:=bcells hb1;have hz1:=hb1.size;(try simp at hz1);have HR1:=hid hr1;clear hr1;have y1:w.heap.size < w1.heap.size:=(by omega))
 refine bodyPost_ret (v:=PV ⟨7,⟨0,0,[]⟩,0,l⟩ ⟨none,0,c,cq⟩) (by first|(simp [results,Tryz.f37,go_sem];done)|(simp [results,Tryz.f37,go_sem, *];done)) rfl ?_
 exact ⟨Below.r,⟨none,0,c,cq⟩,rfl,pred_mk 7 l w w1 w.heap.size c cq y1 (RPs.mono (fun b hb _=>by simp at hb;omega) _ _ HR1.out) (Nat.le_refl _) _ ((((((Agree.set so).trans (Agree.set so)).trans (Agree.set so)).trans (Agree.set so)).trans (Agree.set so)).trans (Agree.set so))⟩
end Go.Proofs.YtojjdneicmbfjaaGreatDoor
