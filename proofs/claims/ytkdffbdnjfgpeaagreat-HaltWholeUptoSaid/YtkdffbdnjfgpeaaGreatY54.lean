/- Part 55. -/
import Derived.Test.YtkdffbdnjfgpeaaGreatY53
import Derived.Test.YtkdffbdnjfgpeaaGreatY57
import Derived.Test.YtkdffbdnjfgpeaaGreatY58
set_option linter.all false
namespace Go.Proofs.YtkdffbdnjfgpeaaGreat
open Go.Lib (hid)
open Go Go.RowKit Go.Proofs.Tryz
theorem ZiU {w:World} {A:Nat→Prop} {t:GT} {m:TA} (h:RT w A t m):RT w A (Qe t) m:=(Zo (x:=Qe t)).2 ((Zo (x:=t)).1 h)
structure ZkP (n:Nat) (t:GT) (m:TA) (W:World):Prop where
 sz:W.heap.size=n+3
 a:At W n 0 [.int .u8 t.k,.int .u8 t.v.k,.int .i64 t.v.n,.slice m.va t.v.l.length m.vc,.slice m.vsa t.vs.length m.vsc,.int .i64 t.lo,.int .i64 t.hi,.slice m.wa t.w.length m.wc,.int .u8 t.p.k,.int .u8 t.p.v.k,.int .i64 t.p.v.n,.slice m.pva t.p.v.l.length m.pvc,.int .i64 t.p.n,.slice m.pa t.p.a.length m.pc,.slice m.a t.a.length m.c]
 b:At W (n+1) 0 [.int .u8 0,.int .u8 0,.int .i64 0,.slice none 0 0,.slice none 0 0,.int .i64 0,.int .i64 0,.slice none 0 0,.int .u8 0,.int .u8 0,.int .i64 0,.slice none 0 0,.int .i64 0,.slice none 0 0,.slice none 0 0]
 bf:∀k,W.frozen? ⟨n+1,k,none⟩=false
 c:At W (n+1+1) 0 [.int .u8 t.k,.int .u8 t.v.k,.int .i64 t.v.n,.slice m.va t.v.l.length m.vc,.slice m.vsa t.vs.length m.vsc,.int .i64 (t.lo - 1),.int .i64 t.hi,.slice m.wa t.w.length m.wc,.int .u8 t.p.k,.int .u8 t.p.v.k,.int .i64 t.p.v.n,.slice m.pva t.p.v.l.length m.pvc,.int .i64 t.p.n,.slice m.pa t.p.a.length m.pc,.slice m.a t.a.length m.c]
set_option maxRecDepth 100000
set_option maxHeartbeats 8000000
theorem Ul (t:GT) (w:World) (A:Nat→Prop) (m:TA) (ox:okT t) (h2:1 < t.a.length) (h0:0≤t.lo) (hl:RT w A t m):
  Calls prog 114 #[TV t m] w (ZhE w A (YY t t.a[0] t.a[1])):=by
 obtain ⟨ma,mb,mc,md,me,mf,mg,mh,mi,mj,mk,ml⟩:=m
 have HT:=hid (Zud (A':=fun b=>A b∧b < w.heap.size) (fun b h hb=>⟨h,hb⟩) _ _ hl)
 have HL:=hid (Zo.1 HT.out).2.2.2.2
 obtain ⟨-, -, -,⟨l1,l2⟩, -, -, -,oal,oa⟩:=Ze.1 ox
 have O:=hid oa
 have hI0:(0:Int) < (t.a.length:Int):=om
 have hI1:(1:Int) < (t.a.length:Int):=om
 clear hl ox oa
 by_cases hlo:t.lo=0
 ·obtain ⟨b,o,mj',rfl,hA,hbs,g0,gx⟩:=HL.out.get 0 om
  obtain ⟨k0,k1,k2,k3,k4,k5,k6,k7,k8,k9,ka,kb,kc,kd,ke⟩:=Yp.1 (show At w b o _ by simpa using g0)
  have hlo':(t.lo==0)=true:=by simp [hlo]
  have hR:YY t t.a[0] t.a[1]=t.a[0]:=by unfold YY;rw [if_pos hlo]
  rw [hR]
  have hbw:=hA.2
  have GX:=hid gx
  clear hR hlo g0 gx
  go_enter func114,ntmps114
  go_wp2_with fail
  refine bodyPost_ret (v:=TV t.a[0] mj') (by simp [results,Tryz.f114,go_sem]) rfl ?_
  exact ⟨ZtZ,_,rfl,Zud (fun b h _=>.inl h.1) _ _ (Zt2 ar _ _ GX.out)⟩
 obtain ⟨b,o,mj',rfl,hA,hbs,g0,gx⟩:=HL.out.get 1 h2
 have G0:=hid (show At w b (o+15) _ by simpa using g0)
 have hlo':(t.lo==0)=false:=by simp [hlo]
 have hR:YY t t.a[0] t.a[1]=UB (Qe t) t.a[1]:=by unfold YY;rw [if_neg hlo]
 rw [hR]
 have hbw:=hA.2
 have HC:=hid (fun (W:World) (m1 m2:TA) (h1:RT W (fun b=>A b∧b < w.heap.size) (t.a[1]'h2) m1) (h3:RT W (fun b=>A b∧b < w.heap.size) (Qe t) m2)=>ZfN _ (t.a[1]'h2) (Qe t) W (fun b=>A b∧b < w.heap.size) m1 m2 (Nat.le_refl _) (O.out.get 1 h2) h1 h3)
 generalize UB (Qe t) t.a[1]=X at HC ⊢
 have wl:IntKind.i64.wrap (t.lo - 1)=t.lo - 1:=IntWalk.i64_in _ om
 clear hR hlo g0
 go_enter func114,ntmps114
 go_wp2_with fail
 refine ZT (fun W=>Below w.heap.size w W∧ZkP w.heap.size t ⟨ma,mb,mc,md,me,mf,mg,mh,mi,mj,some ⟨b,o,none⟩,ml⟩ W) ⟨ZtZ,⟨sm,ZO.2 ⟨gs,gs,gs,gs,gs,gs,gs,gs,gs,gs,gs,gs,gs,gs,gs⟩,ZO.2 ⟨gs,gs,gs,gs,gs,gs,gs,gs,gs,gs,gs,gs,gs,gs,gs⟩,fun k=>gs,ZO.2 ⟨gs,gs,gs,gs,gs,gs,gs,gs,gs,gs,gs,gs,gs,gs,gs⟩⟩⟩ ?_
 intro wr ⟨hb,HM⟩
 have hz:=HM.sz
 obtain ⟨k0,k1,k2,k3,k4,k5,k6,k7,k8,k9,ka,kb,kc,kd,ke⟩:=Yp.1 (G0.out.ext (ZtY hb) (A:=fun _=>True) trivial)
 obtain ⟨-, -, -, -, -, -, -, -, -, -, -, -, -, -,ae⟩:=ZO.1 HM.a
 obtain ⟨c0,c1,c2,c3,c4,c5,c6,c7,c8,c9,ca,cb,cc,cd,ce⟩:=ZO.1 HM.c
 obtain ⟨b0,b1,b2,b3,b4,b5,b6,b7,b8,b9,ba,bb,bc,bd,be⟩:=ZO.1 HM.b
 have bf:=HM.bf
 have HMB:=hid HM.b
 have u0:w.heap.size < wr.heap.size:=om
 have u1:w.heap.size+1 < wr.heap.size:=om
 have u2:w.heap.size+1+1 < wr.heap.size:=om
 have hs1:b < wr.heap.size:=om
 have hb5:¬b=w.heap.size+1:=om
 clear HM
 refine Z0 5 kr kr ?_
 simp only [List.take_succ_cons,List.take_zero,List.drop_succ_cons,List.drop_zero]
 repeat still_step
 refine wpStill_nil ?_
 go_wp2_with (go_at_call 184;refine (HC.out _ mj' ⟨ma,mb,mc,md,me,mf,mg,mh,mi,mj,some ⟨b,o,none⟩,ml⟩ (by exact Zt2 ar _ _ gx) (by exact ZiU (Zt2 ar _ _ HT.out))).mono ?_;rintro e w2 ⟨hb2,m2,rfl,hrt⟩;dsimp only [TV];have HRT:Hid (RT w2 (fun c=>(A c∧c < w.heap.size)∨wr.heap.size≤c) X m2):=hid hrt;clear hrt;obtain ⟨hc2,hf2⟩:=Za hb2;have hz2:=hb2.size;(try simp at hz2);have hbr2:Below wr.heap.size wr w2:=ZtZ;have yb:∀k,w2.cell? ⟨b,k,none⟩=wr.cell? ⟨b,k,none⟩:=(fun k=>hbr2.cell (p:=⟨b,k,none⟩) hs1);have vb:b < w2.heap.size:=om;have v1:w.heap.size+1 < w2.heap.size:=om)
 obtain ⟨d0,d1,d2,d3,d4,d5,d6,d7,d8,d9,da,db,dc,dd,de⟩:=ZO.1 (At.eq (fun o=>hc2 _ o u1) _ _ HMB.out)
 refine bodyPost_ret (v:=TV X m2) (by simp [results,Tryz.f114,go_sem,d0,d1,d2,d3,d4,d5,d6,d7,d8,d9,da,db,dc,dd,de,v1]) rfl ?_
 exact ⟨ZtZ,m2,rfl,Zud (fun b h _=>by rcases h with h|h;exact .inl h.1;exact .inr om) _ _ (Zt2 (fun p v hA hc=>Zt0 (c:=w.heap.size+1) ZxG p v (fun e=>by rcases hA with h|h;have:=h.2;omega;omega) hc) _ _ HRT.out)⟩
set_option maxRecDepth 512
def ZeQ (M:Int):Prop:=∀(t:GT) (w:World) (A:Nat→Prop) (m:TA) (mo:Int),0≤mo→mo≤M→mo≤4096→Zp false t→okT t→RT w A t m →
  Calls prog 76 #[TV t m,.int .i64 mo] w (ZhB mo w)
def UF (M:Int) (t:GT):Prop:=∀(w:World) (A:Nat→Prop) (m:TA),Zp false t→okT t→RT w A t m→Calls prog 76 #[TV t m,.int .i64 M] w (ZhB M w)
theorem ZbP (x:GV) (w:World) (A:Nat→Prop) (m:VA) (hc:ZQ x=0) (ox:okV x) (hl:RV w A x m.a):
  Calls prog 113 #[VV x m] w fun e w'=>(∃r:Int,e=.returned (.int .i64 r)∧1≤r∧r≤4096)∧Below w.heap.size w w':=
 (XQ _ x w A m (Nat.le_refl _) (by have:=YE hc;omega) ox (Zl.1 hl)).mono fun e w' h=>by
  have h1:=YE hc
  have h2:=Zr x
  exact ⟨⟨_,h.1,om,om⟩,h.2⟩
set_option maxRecDepth 100000
theorem Zg4 (t:GT) (w:World) (m:TA):Calls prog 76 #[TV t m,.int .i64 0] w (ZhB 0 w):=by
 go_enter func76,ntmps76
 go_wp2_with fail
 go_ret
 exact ⟨⟨_,rfl,om,om⟩,ZtZ⟩
set_option maxRecDepth 512
theorem Zoi {p:Prop} (h:p:=by
 go_ret
 all_goals exact ⟨⟨_,rfl,by first|omega|(split<;>omega),by first|omega|(split<;>omega)⟩,ZtZ⟩):p:=h
set_option maxRecDepth 100000
theorem Zg5 (M:Int) (h1:1≤M) (hM:M≤4096) (t:GT) (hk:t.k=1):UF M t:=by
 rintro w A ⟨ma,mb,mc,md,me,mf,mg,mh,mi,mj,mk,ml⟩ hg ox hl
 obtain ⟨hn, -, -⟩:=Zk.1 hg
 obtain ⟨-,ov, -⟩:=Ze.1 ox
 have hc:=JF hk hn
 have HV:=hid (Zo.1 hl).1
 have OV:=hid ov
 have hm0:decide (M < 1)=false:=by simp;omega
 have wm:IntKind.i64.wrap (M+1)=M+1:=IntWalk.i64_in _ om
 obtain ⟨k,v,vs,lo,hi,ws,p,l⟩:=t
 dsimp only at hk hc
 subst hk
 clear hg ox hl hn ov
 go_enter func76,ntmps76
 go_wp2_with (go_at_call 113;refine (ZbP v _ A ⟨ma,mb⟩ hc OV.out (by exact Zt5 ar _ _ HV.out)).mono ?_;rintro e w1 ⟨⟨r,rfl,hr1,hr2⟩,hb1⟩)
 all_goals exact Zoi
theorem Zg6 (M:Int) (h1:1≤M) (hM:M≤4096) (t:GT) (hk:t.k=4):UF M t:=by
 rintro w A ⟨ma,mb,mc,md,me,mf,mg,mh,mi,mj,mk,ml⟩ hg ox hl
 obtain ⟨hn, -, -⟩:=Zk.1 hg
 obtain ⟨-, -,⟨ovl,ovs⟩, -⟩:=Ze.1 ox
 obtain ⟨h64,hc⟩:=Zdy hk hn
 have HVS:=hid (Zo.1 hl).2.1
 have O:=hid ovs
 have HC:=hid hc
 have hm0:decide (M < 1)=false:=by simp;omega
 have hk1:(t.k==1)=false:=by simp [hk]
 have hk4:(t.k==4)=true:=by simp [hk]
 clear hg ox hl hn ovs hc hk
 go_enter func76,ntmps76
 go_wp2_with fail
 go_loopg [5,6] (t.vs.length) (fun gk t5 t6 wr=>∃(j:Nat) (q:Int),gk+j=t.vs.length∧t5=.int .i64 q∧t6=.int .i64 j∧1≤q∧q≤1+4096*(j:Int)∧Below w.heap.size w wr∧w.heap.size < wr.heap.size∧wr.cell? ⟨w.heap.size,4,none⟩=some (.slice mc t.vs.length md))
 case atStart=>exact ⟨0,1,om,rfl,rfl,om,om,ZtZ,sm,gs⟩
 case round=>
  obtain ⟨j,q,hj,rfl,rfl,hq1,hq2,hb,hz,hcell⟩:=hrel
  by_cases hlt:j < t.vs.length
  ·obtain ⟨b,o,mj',rfl,hA,hbs,g0,gx⟩:=HVS.out.get j hlt
   obtain ⟨k0,k1,k2⟩:=At3.1 (g0.ext (ZtY hb) (A:=fun _=>True) trivial)
   have hs1:b < wr.heap.size:=om
   clear g0
   go_wp2_with (go_at_call 113;refine (ZbP t.vs[j] _ A mj' (HC.out j hlt) (O.out.get j hlt) (by exact Zt5 ar _ _ gx)).mono ?_;rintro e w2 ⟨⟨r,rfl,hr1,hr2⟩,hb2⟩;have hz2:=hb2.size;(try simp at hz2))
   go_roundg (gk - 1)
   case measure=>omega
   case rel=>exact ⟨j+1,q+r,om,by go_num,by go_num,om,om,ZtZ,om,(hb2.cell so).trans gs⟩
  go_wp2_with fail
  all_goals exact Zoi
theorem Zg8 (M:Int) (h1:1≤M) (hM:M≤4096) (ih:ZeQ (M - 1)) (t:GT) (hk:¬t.k=1∧¬t.k=4∧¬t.k=6∧¬t.k=10):UF M t:=by
 rintro w A ⟨ma,mb,mc,md,me,mf,mg,mh,mi,mj,mk,ml⟩ hg ox hl
 obtain ⟨-, -, -, -, -, -, -,oal,oa⟩:=Ze.1 ox
 have IH:=hid ih
 have HL:=hid (Zo.1 hl).2.2.2.2
 have O:=hid oa
 have HG:=hid hg
 have hm0:decide (M < 1)=false:=by simp;omega
 have hk1:(t.k==1)=false:=by simp [hk]
 have hk4:(t.k==4)=false:=by simp [hk]
 have hk6:(t.k==6)=false:=by simp [hk]
 have hk10:(t.k==10)=false:=by simp [hk]
 have HK10:=hid hk.2.2.2
 clear ih hg ox hl oa hk
 go_enter func76,ntmps76
 go_wp2_with fail
 go_loopg [5,7] (t.a.length) (fun gk t5 t7 wr=>∃(j:Nat) (q:Int),gk+j=t.a.length∧t5=.int .i64 q∧t7=.int .i64 j∧1≤q∧q≤M+1∧Below w.heap.size w wr∧w.heap.size < wr.heap.size∧wr.cell? ⟨w.heap.size,14,none⟩=some (.slice mk t.a.length ml))
 case atStart=>exact ⟨0,1,om,rfl,rfl,om,om,ZtZ,sm,gs⟩
 case round=>
  obtain ⟨j,q,hj,rfl,rfl,hq1,hq2,hb,hz,hcell⟩:=hrel
  by_cases hlt:j < t.a.length
  ·by_cases hq:q≤M
   ·obtain ⟨b,o,mj',rfl,hA,hbs,g0,gx⟩:=HL.out.get j hlt
    obtain ⟨k0,k1,k2,k3,k4,k5,k6,k7,k8,k9,ka,kb,kc,kd,ke⟩:=Yp.1 (g0.ext (ZtY hb) (A:=fun _=>True) trivial)
    have hs1:b < wr.heap.size:=om
    clear g0
    go_wp2_with (go_at_call 76;refine (IH.out t.a[j] _ A mj' (M - q) om om om (YG HG.out HK10.out (List.getElem_mem hlt)) (O.out.get j hlt) (by exact Zt2 ar _ _ gx)).mono ?_;rintro e w2 ⟨⟨r,rfl,hr1,hr2⟩,hb2⟩;have hz2:=hb2.size;(try simp at hz2))
    go_roundg (gk - 1)
    case measure=>omega
    case rel=>exact ⟨j+1,q+r,om,by go_num,by go_num,om,om,ZtZ,om,(hb2.cell so).trans gs⟩
   have hq':decide (q≤M)=false:=by simp;omega
   go_wp2_with fail
   all_goals exact Zoi
  go_wp2_with fail
  all_goals exact Zoi
theorem Zg7 (M:Int) (h1:1≤M) (hM:M≤4096) (t:GT) (ih:∀x,Zb x < Zb t→UF M x) (hk:t.k=6):UF M t:=by
 rintro w A ⟨ma,mb,mc,md,me,mf,mg,mh,mi,mj,mk,ml⟩ hg ox hl
 obtain ⟨hn, -, -⟩:=Zk.1 hg
 obtain ⟨hl1, -,hh1,hh0⟩:=Zip hk hn
 obtain ⟨-, -, -, -, -, -, -,oal,oa⟩:=Ze.1 ox
 have HL:=hid (Zo.1 hl).2.2.2.2
 have h0l:0 < t.a.length:=om
 obtain ⟨b,o,mj',rfl,hA,hbs,g0,gx⟩:=HL.out.get 0 h0l
 have hsz:=ZD t.a 0 h0l
 have hse:=Zq t
 have HC:=hid (fun (W:World) (h:RT W A (t.a[0]'h0l) mj')=>ih (t.a[0]'h0l) om W A mj' (YG hg om (List.getElem_mem h0l)) (oa.get 0 h0l) h)
 obtain ⟨k0,k1,k2,k3,k4,k5,k6,k7,k8,k9,ka,kb,kc,kd,ke⟩:=Yp.1 (show At w b o _ by simpa using g0)
 have hI0:(0:Int) < (t.a.length:Int):=om
 have hm0:decide (M < 1)=false:=by simp;omega
 have hk1:(t.k==1)=false:=by simp [hk]
 have hk4:(t.k==4)=false:=by simp [hk]
 have hk6:(t.k==6)=true:=by simp [hk]
 have hs1:b < w.heap.size+1:=om
 clear hg ox hl hn oa ih hk g0 hl1 hsz hse
 go_enter func76,ntmps76
 go_wp2_with fail
 refine ZT (fun W=>Below w.heap.size w W∧w.heap.size < W.heap.size∧W.cell? ⟨w.heap.size,6,none⟩=some (.int .i64 t.hi)∧W.cell? ⟨w.heap.size,14,none⟩=some (.slice (some ⟨b,o,none⟩) t.a.length ml)) ⟨ZtZ,sm,gs,gs⟩ ?_
 intro wr ⟨hb,hz,c6,c14⟩
 have hs2:b < wr.heap.size:=om
 obtain ⟨k0,k1,k2,k3,k4,k5,k6,k7,k8,k9,ka,kb,kc,kd,ke⟩:=Yp.1 (Zuf (ZtY hb) (A:=fun _=>True) trivial _ _ (Yp.2 ⟨k0,k1,k2,k3,k4,k5,k6,k7,k8,k9,ka,kb,kc,kd,ke⟩))
 rcases (by omega:t.hi=0∨t.hi=1∨2≤t.hi) with hh|hh|hh
 ·rw [hh] at c6
  clear hh hh1 hh0
  go_region_held3 (fun W=>W.cell? ⟨w.heap.size,6,none⟩=some (.int .i64 0)∧W.cell? ⟨w.heap.size,14,none⟩=some (.slice (some ⟨b,o,none⟩) t.a.length ml)∧∀k,W.cell? ⟨b,k,none⟩=wr.cell? ⟨b,k,none⟩) ((refine ⟨gs,gs,fun k=>gs⟩)) ((go_at_call 76;refine (HC.out _ (by exact Zt2 ar _ _ gx)).mono ?_;rintro e w2 ⟨⟨r,rfl,hr1,hr2⟩,hb2⟩;have hz2:=hb2.size;(try simp at hz2);have hbr2:Below wr.heap.size wr w2:=ZtZ;have y6:=(hbr2.cell (p:=⟨w.heap.size,6,none⟩) hz).trans c6;have y14:=(hbr2.cell (p:=⟨w.heap.size,14,none⟩) hz).trans c14;have yb:∀k,w2.cell? ⟨b,k,none⟩=wr.cell? ⟨b,k,none⟩:=(fun k=>hbr2.cell (p:=⟨b,k,none⟩) hs2)))
  all_goals go_wp2_with fail
  all_goals exact Zoi
 ·rw [hh] at c6
  clear hh hh1 hh0
  go_region_held3 (fun W=>W.cell? ⟨w.heap.size,6,none⟩=some (.int .i64 1)∧W.cell? ⟨w.heap.size,14,none⟩=some (.slice (some ⟨b,o,none⟩) t.a.length ml)∧∀k,W.cell? ⟨b,k,none⟩=wr.cell? ⟨b,k,none⟩) ((refine ⟨gs,gs,fun k=>gs⟩)) ((go_at_call 76;refine (HC.out _ (by exact Zt2 ar _ _ gx)).mono ?_;rintro e w2 ⟨⟨r,rfl,hr1,hr2⟩,hb2⟩;have hz2:=hb2.size;(try simp at hz2);have hbr2:Below wr.heap.size wr w2:=ZtZ;have y6:=(hbr2.cell (p:=⟨w.heap.size,6,none⟩) hz).trans c6;have y14:=(hbr2.cell (p:=⟨w.heap.size,14,none⟩) hz).trans c14;have yb:∀k,w2.cell? ⟨b,k,none⟩=wr.cell? ⟨b,k,none⟩:=(fun k=>hbr2.cell (p:=⟨b,k,none⟩) hs2)))
  all_goals go_wp2_with fail
  all_goals exact Zoi
 have m1:(1:Int)≤t.hi:=om
 have m2:(1:Int) < t.hi:=om
 have m3:¬t.hi≤1:=om
 have m4:¬t.hi < 1:=om
 have m5:decide ((1:Int)≤t.hi)=true:=by simp;omega
 have m6:decide ((1:Int) < t.hi)=true:=by simp;omega
 have m7:decide (t.hi≤(1:Int))=false:=by simp;omega
 have m8:decide (t.hi < (1:Int))=false:=by simp;omega
 have m9:max (1:Int) t.hi=t.hi:=om
 go_region_held3 (fun W=>W.cell? ⟨w.heap.size,6,none⟩=some (.int .i64 t.hi)∧W.cell? ⟨w.heap.size,14,none⟩=some (.slice (some ⟨b,o,none⟩) t.a.length ml)∧∀k,W.cell? ⟨b,k,none⟩=wr.cell? ⟨b,k,none⟩) ((refine ⟨gs,gs,fun k=>gs⟩)) ((go_at_call 76;refine (HC.out _ (by exact Zt2 ar _ _ gx)).mono ?_;rintro e w2 ⟨⟨r,rfl,hr1,hr2⟩,hb2⟩;have hz2:=hb2.size;(try simp at hz2);have hbr2:Below wr.heap.size wr w2:=ZtZ;have y6:=(hbr2.cell (p:=⟨w.heap.size,6,none⟩) hz).trans c6;have y14:=(hbr2.cell (p:=⟨w.heap.size,14,none⟩) hz).trans c14;have yb:∀k,w2.cell? ⟨b,k,none⟩=wr.cell? ⟨b,k,none⟩:=(fun k=>hbr2.cell (p:=⟨b,k,none⟩) hs2);have hm0:0≤t.hi*r:=Int.mul_nonneg om om;have hm1:t.hi*r≤16*4097:=Int.mul_le_mul hh1 om om om;have wm:IntKind.i64.wrap (t.hi*r)=t.hi*r:=IntWalk.i64_in _ om;have wn:IntKind.i64.wrap (1+t.hi*r)=1+t.hi*r:=IntWalk.i64_in _ om))
 all_goals go_wp2_with fail
 all_goals exact Zoi
theorem ZfC (M:Int) (h1:1≤M) (hM:M≤4096) (ih:ZeQ (M - 1)) (t:GT) (hk:t.k=10):UF M t:=by
 rintro w A ⟨ma,mb,mc,md,me,mf,mg,mh,mi,mj,mk,ml⟩ hg ox hl
 obtain ⟨hn, -, -⟩:=Zk.1 hg
 obtain ⟨h0,h8,hl2⟩:=KP hk hn
 obtain ⟨-, -, -, -, -, -, -,oal,oa⟩:=Ze.1 ox
 have HT:=hid hl
 have OX:=hid ox
 have h1l:1 < t.a.length:=om
 have hgs:=UE hk hg h1l
 have hos:okT (YY t t.a[0] t.a[1]):=by
  unfold YY
  split
  ·exact oa.get 0 om
  exact Jp (ZaL om ox) _ (oa.get 1 om)
 have HS:=hid (fun (W:World) (h:RT W A t ⟨ma,mb,mc,md,me,mf,mg,mh,mi,mj,mk,ml⟩)=>Ul t W A ⟨ma,mb,mc,md,me,mf,mg,mh,mi,mj,mk,ml⟩ ox h1l h0 h)
 generalize YY t t.a[0] t.a[1]=X at hgs hos HS
 have HC:=hid (fun (W:World) (A':Nat→Prop) (m':TA) (h:RT W A' X m')=>ih X W A' m' (M - 1) om om om hgs hos h)
 have hm0:decide (M < 1)=false:=by simp;omega
 have hk1:(t.k==1)=false:=by simp [hk]
 have hk4:(t.k==4)=false:=by simp [hk]
 have hk6:(t.k==6)=false:=by simp [hk]
 have hk10:(t.k==10)=true:=by simp [hk]
 have wm1:IntKind.i64.wrap (M - 1)=M - 1:=IntWalk.i64_in _ om
 clear hg ox hl hn oa ih hk hgs hos hl2 h0 h8 h1l
 go_enter func76,ntmps76
 go_wp2_with (first
  | (go_at_call 114;refine (HS.out _ (by exact Zt2 ar _ _ HT.out)).mono ?_;rintro e w1 ⟨hb1,m1,rfl,hrt⟩;have HRT:=hid (Zud (A':=fun _=>True) (fun _ _ _=>trivial) _ _ hrt);clear hrt;have hz1:=hb1.size;(try simp at hz1))
  | (go_at_call 76;(with_reducible refine (HC.out _ (fun _=>True) m1 (by exact HRT.out)).mono ?_);rintro e w2 ⟨⟨r,rfl,hr1,hr2⟩,hb2⟩))
 all_goals exact Zoi
set_option maxRecDepth 512
theorem Zer (M:Nat):ZeQ M:=by
 induction M with
 | zero=>
  intro t w A m mo h0 h1 _ _ _ _
  obtain rfl:mo=0:=om
  exact Zg4 t w m
 | succ M ih=>
  intro t w A m mo h0 h1 h4 hg ox hl
  by_cases hlt:mo≤M
  ·exact ih t w A m mo h0 hlt h4 hg ox hl
  obtain rfl:mo=(M:Int)+1:=om
  have hM:(M:Int)+1 - 1=M:=om
  have all:∀(N:Nat) (x:GT),Zb x≤N→UF ((M:Int)+1) x:=by
   intro N
   induction N with
   | zero=>intro x hx;have:=X8 x;omega
   | succ N ihN=>
    intro x hx
    by_cases k1:x.k=1
    ·exact Zg5 _ om h4 x k1
    by_cases k4:x.k=4
    ·exact Zg6 _ om h4 x k4
    by_cases k6:x.k=6
    ·exact Zg7 _ om h4 x (fun y hy=>ihN y om) k6
    by_cases k10:x.k=10
    ·exact ZfC _ om h4 (by rw [hM];exact ih) x k10
    exact Zg8 _ om h4 (by rw [hM];exact ih) x ⟨k1,k4,k6,k10⟩
  exact all _ t (Nat.le_refl _) w A m hg ox hl
set_option maxRecDepth 100000
theorem QC (t:GT) (w:World) (A:Nat→Prop) (m:TA) (ox:okT t) (hs:Zb t≤4194304) (hl:RT w A t m):
  Calls prog 45 #[TV t m] w (Zgd w):=by
 obtain ⟨ma,mb,mc,md,me,mf,mg,mh,mi,mj,mk,ml⟩:=m
 have HT:=hid hl
 have OX:=hid ox
 clear hl ox
 by_cases hE:(ZF 0 1 1099511627776 false t).2=0
 case neg=>
  have hE':((ZF 0 1 1099511627776 false t).2 != 0)=true:=by simp [hE]
  clear hE
  go_enter func45,ntmps45
  go_wp2_with (go_at_call 75;refine (Y5 (Zb t) 1099511627776 ⟨om,om⟩ t _ A ⟨ma,mb,mc,md,me,mf,mg,mh,mi,mj,mk,ml⟩ 0 1 false (Nat.le_refl _) OX.out om om om om (by exact Zt2 ar _ _ HT.out)).mono ?_;rintro e w1 ⟨rfl,hb1⟩)
  go_ret
  exact ⟨⟨_,rfl⟩,ZtZ⟩
 have hE':((ZF 0 1 1099511627776 false t).2 != 0)=false:=by simp [hE]
 have HG:=hid (XL 1099511627776 t 0 1 false hE)
 clear hE
 go_enter func45,ntmps45
 go_wp2_with (first
  | (go_at_call 75;refine (Y5 (Zb t) 1099511627776 ⟨om,om⟩ t _ A ⟨ma,mb,mc,md,me,mf,mg,mh,mi,mj,mk,ml⟩ 0 1 false (Nat.le_refl _) OX.out om om om om (by exact Zt2 ar _ _ HT.out)).mono ?_;rintro e w1 ⟨rfl,hb1⟩;obtain ⟨hc1,hf1⟩:=Za hb1;have hz1:=hb1.size;(try simp at hz1))
  | (go_at_call 76;refine (Zer 4096 t _ A ⟨ma,mb,mc,md,me,mf,mg,mh,mi,mj,mk,ml⟩ 4096 om om om HG.out OX.out (by exact Zt2 ar _ _ HT.out)).mono ?_;rintro e w2 ⟨⟨r,rfl,hr1,hr2⟩,hb2⟩))
 go_ret
 exact ⟨⟨_,rfl⟩,ZtZ⟩
set_option maxRecDepth 512
theorem Zfd (x:GT) (w:World) (A:Nat→Prop) (b:Nat) (m:TA) (ox:okT x) (hc:At w b 0 [.int .u8 x.k,.int .u8 x.v.k,.int .i64 x.v.n,.slice m.va x.v.l.length m.vc,.slice m.vsa x.vs.length m.vsc,.int .i64 x.lo,.int .i64 x.hi,.slice m.wa x.w.length m.wc,.int .u8 x.p.k,.int .u8 x.p.v.k,.int .i64 x.p.v.n,.slice m.pva x.p.v.l.length m.pvc,.int .i64 x.p.n,.slice m.pa x.p.a.length m.pc,.slice m.a x.a.length m.c]) (hr:RT w A x m):
  Calls prog 44 #[.slice (some ⟨b,0,none⟩) 1 1] w (KY w):=
 Zfc [x] w (fun _=>True) (some ⟨b,0,none⟩) 1 sm ⟨ox,trivial⟩ (ZiV trivial hc (Zud (fun _ _ _=>trivial) _ _ hr))
set_option maxRecDepth 100000
theorem ZrA (t:GT) (n:Int) (w:World) (A:Nat→Prop) (m:TA) (ox:okT t) (hs:Zb t≤4194304) (hl:RT w A t m):
  Calls prog 10 #[TV t m,.int .i64 n] w (KY w):=by
 obtain ⟨ma,mb,mc,md,me,mf,mg,mh,mi,mj,mk,ml⟩:=m
 have HT:=hid hl
 have OX:=hid ox
 clear hl ox
 by_cases h0:n < 0
 ·have hn1:decide ((0:Int)≤n)=false:=by simp;omega
  go_enter func10,ntmps10
  go_wp2_with (first
   | (go_at_call 44;(with_reducible refine (Zfd t _ A (w.heap.size+1) ⟨ma,mb,mc,md,me,mf,mg,mh,mi,mj,mk,ml⟩ OX.out (by exact ZO.2 ⟨gs,gs,gs,gs,gs,gs,gs,gs,gs,gs,gs,gs,gs,gs,gs⟩) (by exact Zt2 ar _ _ HT.out)).mono ?_);rintro e w1 ⟨⟨b1,rfl⟩,hb1⟩;obtain ⟨hc1,hf1⟩:=Za hb1;have hz1:=hb1.size;(try simp at hz1);have y1:w.heap.size < w1.heap.size:=om;cases b1)
   | (go_at_call 45;(with_reducible refine (QC t _ A ⟨ma,mb,mc,md,me,mf,mg,mh,mi,mj,mk,ml⟩ OX.out hs (by exact Zt2 ar _ _ HT.out)).mono ?_);rintro e w2 ⟨⟨r,rfl⟩,hb2⟩))
  all_goals go_ret
  all_goals exact ⟨⟨_,rfl⟩,ZtZ⟩
 obtain ⟨k,rfl⟩:∃k:Nat,n=k:=⟨n.toNat,om⟩
 have hn1:decide ((0:Int)≤(k:Int))=true:=sm
 cases hn2:decide ((k:Int)≤12)
 all_goals
  go_enter func10,ntmps10
  go_wp2_with (first
   | (go_at_call 44;(with_reducible refine (Zfd t _ A (w.heap.size+1) ⟨ma,mb,mc,md,me,mf,mg,mh,mi,mj,mk,ml⟩ OX.out (by exact ZO.2 ⟨gs,gs,gs,gs,gs,gs,gs,gs,gs,gs,gs,gs,gs,gs,gs⟩) (by exact Zt2 ar _ _ HT.out)).mono ?_);rintro e w1 ⟨⟨b1,rfl⟩,hb1⟩;obtain ⟨hc1,hf1⟩:=Za hb1;have hz1:=hb1.size;(try simp at hz1);have y1:w.heap.size < w1.heap.size:=om;cases b1)
   | (go_at_call 45;(with_reducible refine (QC t _ A ⟨ma,mb,mc,md,me,mf,mg,mh,mi,mj,mk,ml⟩ OX.out hs (by exact Zt2 ar _ _ HT.out)).mono ?_);rintro e w2 ⟨⟨r,rfl⟩,hb2⟩))
  all_goals go_ret
  all_goals exact ⟨⟨_,rfl⟩,ZtZ⟩
end Go.Proofs.YtkdffbdnjfgpeaaGreat
