/- What the proofs of the Trial statements need: part 39. -/
import Derived.Deep.RegionHeld3
import Derived.IntWalk
import Derived.Test.YtclphfojkggcpaaGreatZ8
import Derived.Test.YtclphfojkggcpaaGreatZ10
import Derived.Test.YtclphfojkggcpaaGreatZ25
import Derived.Test.YtclphfojkggcpaaGreatZ37
import Derived.Test.YtclphfojkggcpaaGreatZ44
import Derived.Test.YtclphfojkggcpaaGreatZ52
set_option linter.unusedVariables false
set_option linter.unusedSimpArgs false
namespace Go.Proofs.YtclphfojkggcpaaGreat
open Go.Lib (hid)
open Go Go.RowKit
theorem RT_less {w:World} {A:Nat→Prop} {t:GT} {m:TA} (h:RT w A t m):RT w A (lessT t) m:=(RT_iff (x:=lessT t)).2 ((RT_iff (x:=t)).1 h)
structure StepM (n:Nat) (t:GT) (m:TA) (W:World):Prop where
 sz:W.heap.size=n+3
 a:At W n 0 [.int .u8 t.k,.int .u8 t.v.k,.int .i64 t.v.n,.slice m.va t.v.l.length m.vc,.slice m.vsa t.vs.length m.vsc,.int .i64 t.lo,.int .i64 t.hi,.slice m.wa t.w.length m.wc,.int .u8 t.p.k,.int .u8 t.p.v.k,.int .i64 t.p.v.n,.slice m.pva t.p.v.l.length m.pvc,.int .i64 t.p.n,.slice m.pa t.p.a.length m.pc,.slice m.a t.a.length m.c]
 b:At W (n+1) 0 [.int .u8 0,.int .u8 0,.int .i64 0,.slice none 0 0,.slice none 0 0,.int .i64 0,.int .i64 0,.slice none 0 0,.int .u8 0,.int .u8 0,.int .i64 0,.slice none 0 0,.int .i64 0,.slice none 0 0,.slice none 0 0]
 bf:∀k,W.frozen? ⟨n+1,k,none⟩=false
 c:At W (n+1+1) 0 [.int .u8 t.k,.int .u8 t.v.k,.int .i64 t.v.n,.slice m.va t.v.l.length m.vc,.slice m.vsa t.vs.length m.vsc,.int .i64 (t.lo - 1),.int .i64 t.hi,.slice m.wa t.w.length m.wc,.int .u8 t.p.k,.int .u8 t.p.v.k,.int .i64 t.p.v.n,.slice m.pva t.p.v.l.length m.pvc,.int .i64 t.p.n,.slice m.pa t.p.a.length m.pc,.slice m.a t.a.length m.c]
set_option maxRecDepth 100000 in
set_option maxHeartbeats 8000000 in
theorem r19step_any (t:GT) (w:World) (A:Nat→Prop) (m:TA) (ox:okT t) (h2:1 < t.a.length) (h0:0≤t.lo) (hl:RT w A t m):
  Calls Tryz.prog 46 #[TV t m] w (PutR w A (stepT t t.a[0] t.a[1])):=by
 obtain ⟨ma,mb,mc,md,me,mf,mg,mh,mi,mj,mk,ml⟩:=m
 have HT:=hid (RT.mono (A':=fun b=>A b∧b < w.heap.size) (fun b h hb=>⟨h,hb⟩) _ _ hl)
 have HL:=hid (RT_iff.1 HT.out).2.2.2.2
 obtain ⟨-, -, -,⟨l1,l2⟩, -, -, -,oal,oa⟩:=okT_iff.1 ox
 have O:=hid oa
 have hI0:(0:Int) < (t.a.length:Int):=by omega
 have hI1:(1:Int) < (t.a.length:Int):=by omega
 clear hl ox oa
 by_cases hlo:t.lo=0
 ·obtain ⟨b,o,mj',rfl,hA,hbs,g0,gx⟩:=HL.out.get 0 (by omega)
  obtain ⟨k0,k1,k2,k3,k4,k5,k6,k7,k8,k9,ka,kb,kc,kd,ke⟩:=At15.1 (show At w b o _ by simpa using g0)
  have hlo':(t.lo==0)=true:=by simp [hlo]
  have hR:stepT t t.a[0] t.a[1]=t.a[0]:=by unfold stepT;rw [if_pos hlo]
  rw [hR]
  have hbw:=hA.2
  have GX:=hid gx
  clear hR hlo g0 gx
  go_enter Tryz.func46,Tryz.ntmps46
  go_wp2_with fail
  refine bodyPost_ret (v:=TV t.a[0] mj') (by simp [results,Tryz.f46,go_sem]) rfl ?_
  exact ⟨Below.r,_,rfl,RT.mono (fun b h _=>.inl h.1) _ _ (RT.ext (Agree.below Below.r) _ _ GX.out)⟩
 ·obtain ⟨b,o,mj',rfl,hA,hbs,g0,gx⟩:=HL.out.get 1 h2
  have G0:=hid (show At w b (o+15) _ by simpa using g0)
  have hlo':(t.lo==0)=false:=by simp [hlo]
  have hR:stepT t t.a[0] t.a[1]=putT (lessT t) t.a[1]:=by unfold stepT;rw [if_neg hlo]
  rw [hR]
  have hbw:=hA.2
  have HC:=hid (fun (W:World) (m1 m2:TA) (h1:RT W (fun b=>A b∧b < w.heap.size) (t.a[1]'h2) m1) (h3:RT W (fun b=>A b∧b < w.heap.size) (lessT t) m2)=>r19put_any _ (t.a[1]'h2) (lessT t) W (fun b=>A b∧b < w.heap.size) m1 m2 (Nat.le_refl _) (O.out.get 1 h2) h1 h3)
  generalize putT (lessT t) t.a[1]=X at HC ⊢
  have wl:IntKind.i64.wrap (t.lo - 1)=t.lo - 1:=IntWalk.i64_in _ (by omega)
  clear hR hlo g0
  go_enter Tryz.func46,Tryz.ntmps46
  go_wp2_with fail
  refine wp_named (fun W=>Below w.heap.size w W∧StepM w.heap.size t ⟨ma,mb,mc,md,me,mf,mg,mh,mi,mj,some ⟨b,o,none⟩,ml⟩ W) ⟨Below.r,⟨by simp,At15z.2 ⟨by go_simp,by go_simp,by go_simp,by go_simp,by go_simp,by go_simp,by go_simp,by go_simp,by go_simp,by go_simp,by go_simp,by go_simp,by go_simp,by go_simp,by go_simp⟩,At15z.2 ⟨by go_simp,by go_simp,by go_simp,by go_simp,by go_simp,by go_simp,by go_simp,by go_simp,by go_simp,by go_simp,by go_simp,by go_simp,by go_simp,by go_simp,by go_simp⟩,fun k=>by go_simp,At15z.2 ⟨by go_simp,by go_simp,by go_simp,by go_simp,by go_simp,by go_simp,by go_simp,by go_simp,by go_simp,by go_simp,by go_simp,by go_simp,by go_simp,by go_simp,by go_simp⟩⟩⟩ ?_
  intro wr ⟨hb,HM⟩
  have hz:=HM.sz
  obtain ⟨k0,k1,k2,k3,k4,k5,k6,k7,k8,k9,ka,kb,kc,kd,ke⟩:=At15.1 (G0.out.ext (Agree.below hb) (A:=fun _=>True) trivial)
  obtain ⟨-, -, -, -, -, -, -, -, -, -, -, -, -, -,ae⟩:=At15z.1 HM.a
  obtain ⟨c0,c1,c2,c3,c4,c5,c6,c7,c8,c9,ca,cb,cc,cd,ce⟩:=At15z.1 HM.c
  obtain ⟨b0,b1,b2,b3,b4,b5,b6,b7,b8,b9,ba,bb,bc,bd,be⟩:=At15z.1 HM.b
  have bf:=HM.bf
  have HMB:=hid HM.b
  have u0:w.heap.size < wr.heap.size:=by omega
  have u1:w.heap.size+1 < wr.heap.size:=by omega
  have u2:w.heap.size+1+1 < wr.heap.size:=by omega
  have hs1:b < wr.heap.size:=by omega
  have hb5:¬b=w.heap.size+1:=by omega
  clear HM
  refine wp_tail 5 (by kernel_rfl) (by kernel_rfl) ?_
  simp only [List.take_succ_cons,List.take_zero,List.drop_succ_cons,List.drop_zero]
  repeat still_step
  refine wpStill_nil ?_
  go_wp2_with (go_at_call 69;refine (HC.out _ mj' ⟨ma,mb,mc,md,me,mf,mg,mh,mi,mj,some ⟨b,o,none⟩,ml⟩ (by exact RT.ext (Agree.below Below.r) _ _ gx) (by exact RT_less (RT.ext (Agree.below Below.r) _ _ HT.out))).mono ?_;rintro e w2 ⟨hb2,m2,rfl,hrt⟩;dsimp only [TV];have HRT:Hid (RT w2 (fun c=>(A c∧c < w.heap.size)∨wr.heap.size≤c) X m2):=hid hrt;clear hrt;obtain ⟨hc2,hf2⟩:=bcells hb2;have hz2:=hb2.size;(try simp at hz2);have hbr2:Below wr.heap.size wr w2:=Below.r;have yb:∀k,w2.cell? ⟨b,k,none⟩=wr.cell? ⟨b,k,none⟩:=(fun k=>hbr2.cell (p:=⟨b,k,none⟩) hs1);have vb:b < w2.heap.size:=(by omega);have v1:w.heap.size+1 < w2.heap.size:=(by omega))
  obtain ⟨d0,d1,d2,d3,d4,d5,d6,d7,d8,d9,da,db,dc,dd,de⟩:=At15z.1 (At.eq (fun o=>hc2 _ o u1) _ _ HMB.out)
  refine bodyPost_ret (v:=TV X m2) (by simp [results,Tryz.f46,go_sem,d0,d1,d2,d3,d4,d5,d6,d7,d8,d9,da,db,dc,dd,de,v1]) rfl ?_
  exact ⟨Below.r,m2,rfl,RT.mono (fun b h _=>by rcases h with h|h;exact .inl h.1;exact .inr (by omega)) _ _ (RT.ext (fun p v hA hc=>Agree.but (c:=w.heap.size+1) But.r p v (fun e=>by rcases hA with h|h;have:=h.2;omega;omega) hc) _ _ HRT.out)⟩
def BulkIH (M:Int):Prop:=∀(t:GT) (w:World) (A:Nat→Prop) (m:TA) (mo:Int),0≤mo→mo≤M→mo≤4096→goodT false t→okT t→RT w A t m →
  Calls Tryz.prog 29 #[TV t m,.int .i64 mo] w (BulkR mo w)
def BulkOne (M:Int) (t:GT):Prop:=∀(w:World) (A:Nat→Prop) (m:TA),goodT false t→okT t→RT w A t m→Calls Tryz.prog 29 #[TV t m,.int .i64 M] w (BulkR M w)
theorem r14size_of (x:GV) (w:World) (A:Nat→Prop) (m:VA) (hc:checkV x=0) (ox:okV x) (hl:RV w A x m.a):
  Calls Tryz.prog 45 #[VV x m] w fun e w'=>(∃r:Int,e=.returned (.int .i64 r)∧1≤r∧r≤4096)∧Below w.heap.size w w':=
 (r14size_any _ x w A m (Nat.le_refl _) (by have:=size_of_checkV hc;omega) ox (RV_iff.1 hl)).mono fun e w' h=>by
  have h1:=size_of_checkV hc
  have h2:=sizeV_pos x
  exact ⟨⟨_,h.1,by omega,by omega⟩,h.2⟩
set_option maxRecDepth 100000 in
set_option maxHeartbeats 4000000 in
theorem r19bulk_0 (t:GT) (w:World) (m:TA):Calls Tryz.prog 29 #[TV t m,.int .i64 0] w (BulkR 0 w):=by
 go_enter Tryz.func29,Tryz.ntmps29
 go_wp2_with fail
 go_ret
 exact ⟨⟨_,rfl,by omega,by omega⟩,Below.r⟩
set_option maxRecDepth 100000 in
set_option maxHeartbeats 4000000 in
theorem r19bulk_1 (M:Int) (h1:1≤M) (hM:M≤4096) (t:GT) (hk:t.k=1):BulkOne M t:=by
 rintro w A ⟨ma,mb,mc,md,me,mf,mg,mh,mi,mj,mk,ml⟩ hg ox hl
 obtain ⟨hn, -, -⟩:=goodT_eq.1 hg
 obtain ⟨-,ov, -⟩:=okT_iff.1 ox
 have hc:=value_at hk hn
 have HV:=hid (RT_iff.1 hl).1
 have OV:=hid ov
 have hm0:decide (M < 1)=false:=by simp;omega
 have wm:IntKind.i64.wrap (M+1)=M+1:=IntWalk.i64_in _ (by omega)
 obtain ⟨k,v,vs,lo,hi,ws,p,l⟩:=t
 dsimp only at hk hc
 subst hk
 clear hg ox hl hn ov
 go_enter Tryz.func29,Tryz.ntmps29
 go_wp2_with (go_at_call 45;refine (r14size_of v _ A ⟨ma,mb⟩ hc OV.out (by exact RV.ext (Agree.below Below.r) _ _ HV.out)).mono ?_;rintro e w1 ⟨⟨r,rfl,hr1,hr2⟩,hb1⟩)
 all_goals go_ret
 all_goals exact ⟨⟨_,rfl,by first|omega|(split<;>omega),by first|omega|(split<;>omega)⟩,Below.r⟩
set_option maxRecDepth 100000 in
set_option maxHeartbeats 4000000 in
theorem r19bulk_4 (M:Int) (h1:1≤M) (hM:M≤4096) (t:GT) (hk:t.k=4):BulkOne M t:=by
 rintro w A ⟨ma,mb,mc,md,me,mf,mg,mh,mi,mj,mk,ml⟩ hg ox hl
 obtain ⟨hn, -, -⟩:=goodT_eq.1 hg
 obtain ⟨-, -,⟨ovl,ovs⟩, -⟩:=okT_iff.1 ox
 obtain ⟨h64,hc⟩:=row_at hk hn
 have HVS:=hid (RT_iff.1 hl).2.1
 have O:=hid ovs
 have HC:=hid hc
 have hm0:decide (M < 1)=false:=by simp;omega
 have hk1:(t.k==1)=false:=by simp [hk]
 have hk4:(t.k==4)=true:=by simp [hk]
 clear hg ox hl hn ovs hc hk
 go_enter Tryz.func29,Tryz.ntmps29
 go_wp2_with fail
 go_loopg [5,6] (t.vs.length) (fun gk t5 t6 wr=>∃(j:Nat) (q:Int),gk+j=t.vs.length∧t5=.int .i64 q∧t6=.int .i64 j∧1≤q∧q≤1+4096*(j:Int)∧Below w.heap.size w wr∧w.heap.size < wr.heap.size∧wr.cell? ⟨w.heap.size,4,none⟩=some (.slice mc t.vs.length md))
 case atStart=>exact ⟨0,1,by omega,rfl,rfl,by omega,by omega,Below.r,by simp,by go_simp⟩
 case round=>
  obtain ⟨j,q,hj,rfl,rfl,hq1,hq2,hb,hz,hcell⟩:=hrel
  by_cases hlt:j < t.vs.length
  ·obtain ⟨b,o,mj',rfl,hA,hbs,g0,gx⟩:=HVS.out.get j hlt
   obtain ⟨k0,k1,k2⟩:=At3.1 (g0.ext (Agree.below hb) (A:=fun _=>True) trivial)
   have hs1:b < wr.heap.size:=by omega
   clear g0
   go_wp2_with (go_at_call 45;refine (r14size_of t.vs[j] _ A mj' (HC.out j hlt) (O.out.get j hlt) (by exact RV.ext (Agree.below Below.r) _ _ gx)).mono ?_;rintro e w2 ⟨⟨r,rfl,hr1,hr2⟩,hb2⟩;have hz2:=hb2.size;(try simp at hz2))
   go_roundg (gk - 1)
   case measure=>omega
   case rel=>exact ⟨j+1,q+r,by omega,by go_num,by go_num,by omega,by omega,Below.r,by omega,(hb2.cell so).trans (by go_simp)⟩
  ·go_wp2_with fail
   all_goals go_ret
   all_goals exact ⟨⟨_,rfl,by first|omega|(split<;>omega),by first|omega|(split<;>omega)⟩,Below.r⟩
set_option maxRecDepth 100000 in
set_option maxHeartbeats 4000000 in
theorem r19bulk_d (M:Int) (h1:1≤M) (hM:M≤4096) (ih:BulkIH (M - 1)) (t:GT) (hk:¬t.k=1∧¬t.k=4∧¬t.k=6∧¬t.k=10):BulkOne M t:=by
 rintro w A ⟨ma,mb,mc,md,me,mf,mg,mh,mi,mj,mk,ml⟩ hg ox hl
 obtain ⟨-, -, -, -, -, -, -,oal,oa⟩:=okT_iff.1 ox
 have IH:=hid ih
 have HL:=hid (RT_iff.1 hl).2.2.2.2
 have O:=hid oa
 have HG:=hid hg
 have hm0:decide (M < 1)=false:=by simp;omega
 have hk1:(t.k==1)=false:=by simp [hk]
 have hk4:(t.k==4)=false:=by simp [hk]
 have hk6:(t.k==6)=false:=by simp [hk]
 have hk10:(t.k==10)=false:=by simp [hk]
 have HK10:=hid hk.2.2.2
 clear ih hg ox hl oa hk
 go_enter Tryz.func29,Tryz.ntmps29
 go_wp2_with fail
 go_loopg [5,7] (t.a.length) (fun gk t5 t7 wr=>∃(j:Nat) (q:Int),gk+j=t.a.length∧t5=.int .i64 q∧t7=.int .i64 j∧1≤q∧q≤M+1∧Below w.heap.size w wr∧w.heap.size < wr.heap.size∧wr.cell? ⟨w.heap.size,14,none⟩=some (.slice mk t.a.length ml))
 case atStart=>exact ⟨0,1,by omega,rfl,rfl,by omega,by omega,Below.r,by simp,by go_simp⟩
 case round=>
  obtain ⟨j,q,hj,rfl,rfl,hq1,hq2,hb,hz,hcell⟩:=hrel
  by_cases hlt:j < t.a.length
  ·by_cases hq:q≤M
   ·obtain ⟨b,o,mj',rfl,hA,hbs,g0,gx⟩:=HL.out.get j hlt
    obtain ⟨k0,k1,k2,k3,k4,k5,k6,k7,k8,k9,ka,kb,kc,kd,ke⟩:=At15.1 (g0.ext (Agree.below hb) (A:=fun _=>True) trivial)
    have hs1:b < wr.heap.size:=by omega
    clear g0
    go_wp2_with (go_at_call 29;refine (IH.out t.a[j] _ A mj' (M - q) (by omega) (by omega) (by omega) (goodT_arg HG.out HK10.out (List.getElem_mem hlt)) (O.out.get j hlt) (by exact RT.ext (Agree.below Below.r) _ _ gx)).mono ?_;rintro e w2 ⟨⟨r,rfl,hr1,hr2⟩,hb2⟩;have hz2:=hb2.size;(try simp at hz2))
    go_roundg (gk - 1)
    case measure=>omega
    case rel=>exact ⟨j+1,q+r,by omega,by go_num,by go_num,by omega,by omega,Below.r,by omega,(hb2.cell so).trans (by go_simp)⟩
   ·have hq':decide (q≤M)=false:=by simp;omega
    go_wp2_with fail
    all_goals go_ret
    all_goals exact ⟨⟨_,rfl,by first|omega|(split<;>omega),by first|omega|(split<;>omega)⟩,Below.r⟩
  ·go_wp2_with fail
   all_goals go_ret
   all_goals exact ⟨⟨_,rfl,by first|omega|(split<;>omega),by first|omega|(split<;>omega)⟩,Below.r⟩
set_option maxRecDepth 100000 in
set_option maxHeartbeats 4000000 in
theorem r19bulk_6 (M:Int) (h1:1≤M) (hM:M≤4096) (t:GT) (ih:∀x,sizeT x < sizeT t→BulkOne M x) (hk:t.k=6):BulkOne M t:=by
 rintro w A ⟨ma,mb,mc,md,me,mf,mg,mh,mi,mj,mk,ml⟩ hg ox hl
 obtain ⟨hn, -, -⟩:=goodT_eq.1 hg
 obtain ⟨hl1, -,hh1,hh0⟩:=one_at hk hn
 obtain ⟨-, -, -, -, -, -, -,oal,oa⟩:=okT_iff.1 ox
 have HL:=hid (RT_iff.1 hl).2.2.2.2
 have h0l:0 < t.a.length:=by omega
 obtain ⟨b,o,mj',rfl,hA,hbs,g0,gx⟩:=HL.out.get 0 h0l
 have hsz:=sizeTs_get t.a 0 h0l
 have hse:=sizeT_eq t
 have HC:=hid (fun (W:World) (h:RT W A (t.a[0]'h0l) mj')=>ih (t.a[0]'h0l) (by omega) W A mj' (goodT_arg hg (by omega) (List.getElem_mem h0l)) (oa.get 0 h0l) h)
 obtain ⟨k0,k1,k2,k3,k4,k5,k6,k7,k8,k9,ka,kb,kc,kd,ke⟩:=At15.1 (show At w b o _ by simpa using g0)
 have hI0:(0:Int) < (t.a.length:Int):=by omega
 have hm0:decide (M < 1)=false:=by simp;omega
 have hk1:(t.k==1)=false:=by simp [hk]
 have hk4:(t.k==4)=false:=by simp [hk]
 have hk6:(t.k==6)=true:=by simp [hk]
 have hs1:b < w.heap.size+1:=by omega
 clear hg ox hl hn oa ih hk g0 hl1 hsz hse
 go_enter Tryz.func29,Tryz.ntmps29
 go_wp2_with fail
 refine wp_named (fun W=>Below w.heap.size w W∧w.heap.size < W.heap.size∧W.cell? ⟨w.heap.size,6,none⟩=some (.int .i64 t.hi)∧W.cell? ⟨w.heap.size,14,none⟩=some (.slice (some ⟨b,o,none⟩) t.a.length ml)) ⟨Below.r,by simp,by go_simp,by go_simp⟩ ?_
 intro wr ⟨hb,hz,c6,c14⟩
 have hs2:b < wr.heap.size:=by omega
 obtain ⟨k0,k1,k2,k3,k4,k5,k6,k7,k8,k9,ka,kb,kc,kd,ke⟩:=At15.1 (At.ext (Agree.below hb) (A:=fun _=>True) trivial _ _ (At15.2 ⟨k0,k1,k2,k3,k4,k5,k6,k7,k8,k9,ka,kb,kc,kd,ke⟩))
 rcases (by omega:t.hi=0∨t.hi=1∨2≤t.hi) with hh|hh|hh
 ·rw [hh] at c6
  clear hh hh1 hh0
  go_region_held3 (fun W=>W.cell? ⟨w.heap.size,6,none⟩=some (.int .i64 0)∧W.cell? ⟨w.heap.size,14,none⟩=some (.slice (some ⟨b,o,none⟩) t.a.length ml)∧∀k,W.cell? ⟨b,k,none⟩=wr.cell? ⟨b,k,none⟩) ((refine ⟨by go_simp,by go_simp,fun k=>by go_simp⟩)) ((go_at_call 29;refine (HC.out _ (by exact RT.ext (Agree.below Below.r) _ _ gx)).mono ?_;rintro e w2 ⟨⟨r,rfl,hr1,hr2⟩,hb2⟩;have hz2:=hb2.size;(try simp at hz2);have hbr2:Below wr.heap.size wr w2:=Below.r;have y6:=(hbr2.cell (p:=⟨w.heap.size,6,none⟩) hz).trans c6;have y14:=(hbr2.cell (p:=⟨w.heap.size,14,none⟩) hz).trans c14;have yb:∀k,w2.cell? ⟨b,k,none⟩=wr.cell? ⟨b,k,none⟩:=(fun k=>hbr2.cell (p:=⟨b,k,none⟩) hs2)))
  all_goals go_wp2_with fail
  all_goals go_ret
  all_goals exact ⟨⟨_,rfl,by first|omega|(split<;>omega),by first|omega|(split<;>omega)⟩,Below.r⟩
 ·rw [hh] at c6
  clear hh hh1 hh0
  go_region_held3 (fun W=>W.cell? ⟨w.heap.size,6,none⟩=some (.int .i64 1)∧W.cell? ⟨w.heap.size,14,none⟩=some (.slice (some ⟨b,o,none⟩) t.a.length ml)∧∀k,W.cell? ⟨b,k,none⟩=wr.cell? ⟨b,k,none⟩) ((refine ⟨by go_simp,by go_simp,fun k=>by go_simp⟩)) ((go_at_call 29;refine (HC.out _ (by exact RT.ext (Agree.below Below.r) _ _ gx)).mono ?_;rintro e w2 ⟨⟨r,rfl,hr1,hr2⟩,hb2⟩;have hz2:=hb2.size;(try simp at hz2);have hbr2:Below wr.heap.size wr w2:=Below.r;have y6:=(hbr2.cell (p:=⟨w.heap.size,6,none⟩) hz).trans c6;have y14:=(hbr2.cell (p:=⟨w.heap.size,14,none⟩) hz).trans c14;have yb:∀k,w2.cell? ⟨b,k,none⟩=wr.cell? ⟨b,k,none⟩:=(fun k=>hbr2.cell (p:=⟨b,k,none⟩) hs2)))
  all_goals go_wp2_with fail
  all_goals go_ret
  all_goals exact ⟨⟨_,rfl,by first|omega|(split<;>omega),by first|omega|(split<;>omega)⟩,Below.r⟩
 ·have m1:(1:Int)≤t.hi:=by omega
  have m2:(1:Int) < t.hi:=by omega
  have m3:¬t.hi≤1:=by omega
  have m4:¬t.hi < 1:=by omega
  have m5:decide ((1:Int)≤t.hi)=true:=by simp;omega
  have m6:decide ((1:Int) < t.hi)=true:=by simp;omega
  have m7:decide (t.hi≤(1:Int))=false:=by simp;omega
  have m8:decide (t.hi < (1:Int))=false:=by simp;omega
  have m9:max (1:Int) t.hi=t.hi:=by omega
  go_region_held3 (fun W=>W.cell? ⟨w.heap.size,6,none⟩=some (.int .i64 t.hi)∧W.cell? ⟨w.heap.size,14,none⟩=some (.slice (some ⟨b,o,none⟩) t.a.length ml)∧∀k,W.cell? ⟨b,k,none⟩=wr.cell? ⟨b,k,none⟩) ((refine ⟨by go_simp,by go_simp,fun k=>by go_simp⟩)) ((go_at_call 29;refine (HC.out _ (by exact RT.ext (Agree.below Below.r) _ _ gx)).mono ?_;rintro e w2 ⟨⟨r,rfl,hr1,hr2⟩,hb2⟩;have hz2:=hb2.size;(try simp at hz2);have hbr2:Below wr.heap.size wr w2:=Below.r;have y6:=(hbr2.cell (p:=⟨w.heap.size,6,none⟩) hz).trans c6;have y14:=(hbr2.cell (p:=⟨w.heap.size,14,none⟩) hz).trans c14;have yb:∀k,w2.cell? ⟨b,k,none⟩=wr.cell? ⟨b,k,none⟩:=(fun k=>hbr2.cell (p:=⟨b,k,none⟩) hs2);have hm0:0≤t.hi*r:=Int.mul_nonneg (by omega) (by omega);have hm1:t.hi*r≤16*4097:=Int.mul_le_mul hh1 (by omega) (by omega) (by omega);have wm:IntKind.i64.wrap (t.hi*r)=t.hi*r:=IntWalk.i64_in _ (by omega);have wn:IntKind.i64.wrap (1+t.hi*r)=1+t.hi*r:=IntWalk.i64_in _ (by omega)))
  all_goals go_wp2_with fail
  all_goals go_ret
  all_goals exact ⟨⟨_,rfl,by first|omega|(split<;>omega),by first|omega|(split<;>omega)⟩,Below.r⟩
set_option maxRecDepth 100000 in
set_option maxHeartbeats 4000000 in
theorem r19bulk_10 (M:Int) (h1:1≤M) (hM:M≤4096) (ih:BulkIH (M - 1)) (t:GT) (hk:t.k=10):BulkOne M t:=by
 rintro w A ⟨ma,mb,mc,md,me,mf,mg,mh,mi,mj,mk,ml⟩ hg ox hl
 obtain ⟨hn, -, -⟩:=goodT_eq.1 hg
 obtain ⟨h0,h8,hl2⟩:=within_pos hk hn
 obtain ⟨-, -, -, -, -, -, -,oal,oa⟩:=okT_iff.1 ox
 have HT:=hid hl
 have OX:=hid ox
 have h1l:1 < t.a.length:=by omega
 have hgs:=step_good hk hg h1l
 have hos:okT (stepT t t.a[0] t.a[1]):=by
  unfold stepT
  split
  ·exact oa.get 0 (by omega)
  ·exact putT_ok (less_ok (by omega) ox) _ (oa.get 1 (by omega))
 have HS:=hid (fun (W:World) (h:RT W A t ⟨ma,mb,mc,md,me,mf,mg,mh,mi,mj,mk,ml⟩)=>r19step_any t W A ⟨ma,mb,mc,md,me,mf,mg,mh,mi,mj,mk,ml⟩ ox h1l h0 h)
 generalize stepT t t.a[0] t.a[1]=X at hgs hos HS
 have HC:=hid (fun (W:World) (A':Nat→Prop) (m':TA) (h:RT W A' X m')=>ih X W A' m' (M - 1) (by omega) (by omega) (by omega) hgs hos h)
 have hm0:decide (M < 1)=false:=by simp;omega
 have hk1:(t.k==1)=false:=by simp [hk]
 have hk4:(t.k==4)=false:=by simp [hk]
 have hk6:(t.k==6)=false:=by simp [hk]
 have hk10:(t.k==10)=true:=by simp [hk]
 have wm1:IntKind.i64.wrap (M - 1)=M - 1:=IntWalk.i64_in _ (by omega)
 clear hg ox hl hn oa ih hk hgs hos hl2 h0 h8 h1l
 go_enter Tryz.func29,Tryz.ntmps29
 go_wp2_with (first
  | (go_at_call 46;refine (HS.out _ (by exact RT.ext (Agree.below Below.r) _ _ HT.out)).mono ?_;rintro e w1 ⟨hb1,m1,rfl,hrt⟩;have HRT:=hid (RT.mono (A':=fun _=>True) (fun _ _ _=>trivial) _ _ hrt);clear hrt;have hz1:=hb1.size;(try simp at hz1))
  | (go_at_call 29;(with_reducible refine (HC.out _ (fun _=>True) m1 (by exact HRT.out)).mono ?_);rintro e w2 ⟨⟨r,rfl,hr1,hr2⟩,hb2⟩))
 all_goals go_ret
 all_goals exact ⟨⟨_,rfl,by first|omega|(split<;>omega),by first|omega|(split<;>omega)⟩,Below.r⟩
theorem r19bulk_any (M:Nat):BulkIH M:=by
 induction M with
 | zero=>
  intro t w A m mo h0 h1 _ _ _ _
  obtain rfl:mo=0:=by omega
  exact r19bulk_0 t w m
 | succ M ih=>
  intro t w A m mo h0 h1 h4 hg ox hl
  by_cases hlt:mo≤M
  ·exact ih t w A m mo h0 hlt h4 hg ox hl
  obtain rfl:mo=(M:Int)+1:=by omega
  have hM:(M:Int)+1 - 1=M:=by omega
  have all:∀(N:Nat) (x:GT),sizeT x≤N→BulkOne ((M:Int)+1) x:=by
   intro N
   induction N with
   | zero=>intro x hx;have:=sizeT_pos x;omega
   | succ N ihN=>
    intro x hx
    by_cases k1:x.k=1
    ·exact r19bulk_1 _ (by omega) h4 x k1
    by_cases k4:x.k=4
    ·exact r19bulk_4 _ (by omega) h4 x k4
    by_cases k6:x.k=6
    ·exact r19bulk_6 _ (by omega) h4 x (fun y hy=>ihN y (by omega)) k6
    by_cases k10:x.k=10
    ·exact r19bulk_10 _ (by omega) h4 (by rw [hM];exact ih) x k10
    ·exact r19bulk_d _ (by omega) h4 (by rw [hM];exact ih) x ⟨k1,k4,k6,k10⟩
  exact all _ t (Nat.le_refl _) w A m hg ox hl
set_option maxRecDepth 100000 in
set_option maxHeartbeats 4000000 in
theorem r19Bulk_any (t:GT) (w:World) (A:Nat→Prop) (m:TA) (ox:okT t) (hs:sizeT t≤1048576) (hl:RT w A t m):
  Calls Tryz.prog 13 #[TV t m] w (SomeI w):=by
 obtain ⟨ma,mb,mc,md,me,mf,mg,mh,mi,mj,mk,ml⟩:=m
 have HT:=hid hl
 have OX:=hid ox
 clear hl ox
 by_cases hE:(chkT 0 1 1099511627776 false t).2=0
 case neg=>
  have hE':((chkT 0 1 1099511627776 false t).2 != 0)=true:=by simp [hE]
  clear hE
  go_enter Tryz.func13,Tryz.ntmps13
  go_wp2_with (go_at_call 28;refine (r19check_any (sizeT t) 1099511627776 ⟨by omega,by omega⟩ t _ A ⟨ma,mb,mc,md,me,mf,mg,mh,mi,mj,mk,ml⟩ 0 1 false (Nat.le_refl _) OX.out (by omega) (by omega) (by omega) (by omega) (by exact RT.ext (Agree.below Below.r) _ _ HT.out)).mono ?_;rintro e w1 ⟨rfl,hb1⟩)
  go_ret
  exact ⟨⟨_,rfl⟩,Below.r⟩
 have hE':((chkT 0 1 1099511627776 false t).2 != 0)=false:=by simp [hE]
 have HG:=hid (good_of_chk 1099511627776 t 0 1 false hE)
 clear hE
 go_enter Tryz.func13,Tryz.ntmps13
 go_wp2_with (first
  | (go_at_call 28;refine (r19check_any (sizeT t) 1099511627776 ⟨by omega,by omega⟩ t _ A ⟨ma,mb,mc,md,me,mf,mg,mh,mi,mj,mk,ml⟩ 0 1 false (Nat.le_refl _) OX.out (by omega) (by omega) (by omega) (by omega) (by exact RT.ext (Agree.below Below.r) _ _ HT.out)).mono ?_;rintro e w1 ⟨rfl,hb1⟩;obtain ⟨hc1,hf1⟩:=bcells hb1;have hz1:=hb1.size;(try simp at hz1))
  | (go_at_call 29;refine (r19bulk_any 4096 t _ A ⟨ma,mb,mc,md,me,mf,mg,mh,mi,mj,mk,ml⟩ 4096 (by omega) (by omega) (by omega) HG.out OX.out (by exact RT.ext (Agree.below Below.r) _ _ HT.out)).mono ?_;rintro e w2 ⟨⟨r,rfl,hr1,hr2⟩,hb2⟩))
 go_ret
 exact ⟨⟨_,rfl⟩,Below.r⟩
theorem long19_one (x:GT) (w:World) (A:Nat→Prop) (b:Nat) (m:TA) (ox:okT x) (hc:At w b 0 [.int .u8 x.k,.int .u8 x.v.k,.int .i64 x.v.n,.slice m.va x.v.l.length m.vc,.slice m.vsa x.vs.length m.vsc,.int .i64 x.lo,.int .i64 x.hi,.slice m.wa x.w.length m.wc,.int .u8 x.p.k,.int .u8 x.p.v.k,.int .i64 x.p.v.n,.slice m.pva x.p.v.l.length m.pvc,.int .i64 x.p.n,.slice m.pa x.p.a.length m.pc,.slice m.a x.a.length m.c]) (hr:RT w A x m):
  Calls Tryz.prog 26 #[.slice (some ⟨b,0,none⟩) 1 1] w (SomeB w):=
 long19_any [x] w (fun _=>True) (some ⟨b,0,none⟩) 1 (by simp) ⟨ox,trivial⟩ (RTs_one trivial hc (RT.mono (fun _ _ _=>trivial) _ _ hr))
set_option maxRecDepth 100000 in
set_option maxHeartbeats 4000000 in
theorem long22_any (t:GT) (s:ByteArray) (w:World) (A:Nat→Prop) (m:TA) (ox:okT t) (hs:sizeT t≤1048576) (hl:RT w A t m):
  Calls Tryz.prog 11 #[TV t m,.string s] w (SomeB w):=by
 obtain ⟨ma,mb,mc,md,me,mf,mg,mh,mi,mj,mk,ml⟩:=m
 have HT:=hid hl
 have OX:=hid ox
 clear hl ox
 cases hlen:decide ((1200:Int) < (s.size:Int))
 all_goals
  go_enter Tryz.func11,Tryz.ntmps11
  go_wp2_with (first
   | (go_at_call 26;(with_reducible refine (long19_one t _ A (w.heap.size+1) ⟨ma,mb,mc,md,me,mf,mg,mh,mi,mj,mk,ml⟩ OX.out (by exact At15z.2 ⟨by go_simp,by go_simp,by go_simp,by go_simp,by go_simp,by go_simp,by go_simp,by go_simp,by go_simp,by go_simp,by go_simp,by go_simp,by go_simp,by go_simp,by go_simp⟩) (by exact RT.ext (Agree.below Below.r) _ _ HT.out)).mono ?_);rintro e w1 ⟨⟨b1,rfl⟩,hb1⟩;obtain ⟨hc1,hf1⟩:=bcells hb1;have hz1:=hb1.size;(try simp at hz1);have y1:w.heap.size < w1.heap.size:=(by omega);cases b1)
   | (go_at_call 13;(with_reducible refine (r19Bulk_any t _ A ⟨ma,mb,mc,md,me,mf,mg,mh,mi,mj,mk,ml⟩ OX.out hs (by exact RT.ext (Agree.below Below.r) _ _ HT.out)).mono ?_);rintro e w2 ⟨⟨r,rfl⟩,hb2⟩))
  all_goals go_ret
  all_goals exact ⟨⟨_,rfl⟩,Below.r⟩
set_option maxRecDepth 100000 in
set_option maxHeartbeats 8000000 in
theorem long29_any (t:GT) (p:GP) (s:ByteArray) (n:Int) (w:World) (A A2:Nat→Prop) (m:TA) (mp:PA) (ox:okT t) (hs:sizeT t≤1048576) (hl:RT w A t m) (op:okP p) (hr:RP w A2 p mp):
  Calls Tryz.prog 4 #[TV t m,PV p mp,.string s,.int .i64 n] w (SomeB w):=by
 obtain ⟨ma,mb,mc,md,me,mf,mg,mh,mi,mj,mk,ml⟩:=m
 obtain ⟨na,nb,nc,nd⟩:=mp
 have HT:=hid hl
 have OX:=hid ox
 have HP:=hid hr
 have OP:=hid op
 clear hl ox hr op
 cases hn1:decide ((60:Int) < n)
 all_goals cases hn2:decide (n≤1000)
 all_goals
  go_enter Tryz.func4,Tryz.ntmps4
  go_wp2_with (first
   | (go_at_call 11;(with_reducible refine (long22_any t s _ A ⟨ma,mb,mc,md,me,mf,mg,mh,mi,mj,mk,ml⟩ OX.out hs (by exact RT.ext (Agree.below Below.r) _ _ HT.out)).mono ?_);rintro e w1 ⟨⟨b1,rfl⟩,hb1⟩;obtain ⟨hc1,hf1⟩:=bcells hb1;have hz1:=hb1.size;(try simp at hz1);have y1:w.heap.size < w1.heap.size:=(by omega);have y2:w.heap.size+1 < w1.heap.size:=(by omega);cases b1)
   | (go_at_call 12;(with_reducible refine (long17_one p _ A2 w1.heap.size ⟨na,nb,nc,nd⟩ OP.out (by exact At6z.2 ⟨by go_simp,by go_simp,by go_simp,by go_simp,by go_simp,by go_simp⟩) (by exact RP.ext (Agree.below Below.r) _ _ HP.out)).mono ?_);rintro e w2 ⟨⟨b2,rfl⟩,hb2⟩;obtain ⟨hc2,hf2⟩:=bcells hb2;have hz2:=hb2.size;(try simp at hz2);have y3:w.heap.size < w2.heap.size:=(by omega);cases b2)
   | (go_at_call 13;(with_reducible refine (r19Bulk_any t _ A ⟨ma,mb,mc,md,me,mf,mg,mh,mi,mj,mk,ml⟩ OX.out hs (by exact RT.ext (Agree.below Below.r) _ _ HT.out)).mono ?_);rintro e w3 ⟨⟨r,rfl⟩,hb3⟩))
  all_goals go_ret
  all_goals exact ⟨⟨_,rfl⟩,Below.r⟩
end Go.Proofs.YtclphfojkggcpaaGreat
