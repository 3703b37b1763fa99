/- What the proofs of the Trial statements need: part 45. -/
import Derived.Test.YtojjdneicmbfjaaGreatDoorQ35
import Derived.Test.YtojjdneicmbfjaaGreatDoorQ36
import Derived.Test.YtojjdneicmbfjaaGreatDoorQ38
import Derived.Test.YtojjdneicmbfjaaGreatDoorQTk
set_option linter.unusedVariables false
set_option linter.unusedSimpArgs false
namespace Go.Proofs.YtojjdneicmbfjaaGreatDoor
open Go.Lib (hid)
open Go Go.RowKit
set_option maxRecDepth 100000 in
set_option maxHeartbeats 64000000 in
theorem cpasses_err (t:GT) (p:GP) (s:ByteArray) (n:Int) (w:World) (A A2:Nat→Prop) (m:TA) (mp:PA) (ox:okT t) (hs1:sizeT t≤1048576) (hl:RT w A t m) (op:okP p) (hp1:sizeP p≤1048576) (hr:RP w A2 p mp) (hss:s.size≤1048576) (hG:GW w) (hE:cutE t p s n≠0):
  Calls Tryz.prog 9 #[TV t m,PV p mp,.string s,.int .i64 n] w fun e w'=>e=.returned (.bool true)∧Below w.heap.size w w':=by
 obtain ⟨ma,mb,mc,md,me,mf,mg,mh,mi,mj,mk,ml⟩:=m
 obtain ⟨na,nb,nc,nd⟩:=mp
 have HL:=hid hl
 have HR:=hid hr
 have OX:=hid ox
 have OP:=hid op
 have HG:=hid hG
 have hs:sizeT t≤1099511627776:=by omega
 have hp:sizeP p≤1099511627776:=by omega
 have HE:=hid hE
 clear hl hr ox op hG hE
 go_enter Tryz.func9,Tryz.ntmps9
 go_wp2_with (first
  | (go_at_call 11;(with_reducible refine (long31_any t p s _ _ A A2 ⟨ma,mb,mc,md,me,mf,mg,mh,mi,mj,mk,ml⟩ ⟨na,nb,nc,nd⟩ OX.out hs1 (by exact RT.ext (Agree.below Below.r) _ _ HL.out) OP.out (by exact RP.ext (Agree.below Below.r) _ _ HR.out)).mono ?_);rintro e w1 ⟨⟨b1,rfl⟩,hb1⟩;obtain ⟨hc1,hf1⟩:=bcells hb1;have hz1:=hb1.size;(try simp at hz1);have y1:w.heap.size < w1.heap.size:=(by omega);have y2:w.heap.size+1 < w1.heap.size:=(by omega);cases b1)
  | (go_at_call 12;(with_reducible refine (cawake_any _ (HG.out.below Below.r)).mono ?_);rintro e wa ⟨rfl,hba⟩;obtain ⟨hca,hfa⟩:=bcells hba;have hza:=hba.size;(try simp at hza);have y3:w.heap.size < wa.heap.size:=(by omega);have y4:w.heap.size+1 < wa.heap.size:=(by omega))
  | (go_at_call 18;(with_reducible refine (crun_err t p s n _ A A2 ⟨ma,mb,mc,md,me,mf,mg,mh,mi,mj,mk,ml⟩ ⟨na,nb,nc,nd⟩ OX.out hs (by exact RT.ext (Agree.below Below.r) _ _ HL.out) OP.out hp (by exact RP.ext (Agree.below Below.r) _ _ HR.out) (by omega) HE.out).mono ?_);rintro e w3 ⟨rfl,hb3⟩;obtain ⟨hc3,hf3⟩:=bcells hb3;have hz3:=hb3.size;(try simp at hz3);have y5:w.heap.size < w3.heap.size:=(by omega);have y6:w.heap.size+1 < w3.heap.size:=(by omega))
  | (go_at_call 34;(with_reducible refine (cut_err t p s n _ A A2 ⟨ma,mb,mc,md,me,mf,mg,mh,mi,mj,mk,ml⟩ ⟨na,nb,nc,nd⟩ OX.out hs (by exact RT.ext (Agree.below Below.r) _ _ HL.out) OP.out hp (by exact RP.ext (Agree.below Below.r) _ _ HR.out) (by omega) HE.out).mono ?_);rintro e w4 ⟨rfl,hb4⟩;obtain ⟨hc4,hf4⟩:=bcells hb4;have hz4:=hb4.size;(try simp at hz4);have y7:w3.heap.size < w4.heap.size:=(by omega)))
 rotate_left
 ·go_ret
  exact ⟨rfl,Below.r⟩
 go_loopg [14] 0 (fun gk i wr=>i=.int .i64 0∧wr=w4)
 case atStart=>exact ⟨rfl,rfl⟩
 case round=>
  obtain ⟨rfl,rfl⟩:=hrel
  go_wp2_with (go_at_call 26;(with_reducible refine (same_zero _).mono ?_);rintro e w6 ⟨rfl,hb6⟩)
  go_ret
  exact ⟨rfl,Below.r⟩
set_option maxRecDepth 100000 in
set_option maxHeartbeats 64000000 in
theorem cpasses_no (t:GT) (p:GP) (s:ByteArray) (N:Nat) (w:World) (A A2:Nat→Prop) (m:TA) (mp:PA) (ox:okT t) (hs1:sizeT t≤1048576) (hl:RT w A t m) (op:okP p) (hp1:sizeP p≤1048576) (hr:RP w A2 p mp) (hss:s.size≤1048576) (hG:GW w) (hE:cutE t p s N=0) (hmay:mayP p=true) (l:List GR) (K:Int) (hk:(K==1)=false) (hk2:(K != 1)=true) (hR:cutT s t p N 0=(l,K)) (hall:∀j (h:j < l.length),holdsP p (l[j]).v=true∧okV (l[j]).v) (hln:l.length≤1000):
  Calls Tryz.prog 9 #[TV t m,PV p mp,.string s,.int .i64 N] w fun e w'=>e=.returned (.bool true)∧Below w.heap.size w w':=by
 obtain ⟨ma,mb,mc,md,me,mf,mg,mh,mi,mj,mk,ml⟩:=m
 obtain ⟨na,nb,nc,nd⟩:=mp
 have HL:=hid hl
 have HR:=hid hr
 have OX:=hid ox
 have OP:=hid op
 have HG:=hid hG
 have hs:sizeT t≤1099511627776:=by omega
 have hp:sizeP p≤1099511627776:=by omega
 have hne:(cutT s t p N 0).2≠1:=by rw [hR];simpa using hk
 have HRUN:Hid (∀W,RT W A t ⟨ma,mb,mc,md,me,mf,mg,mh,mi,mj,mk,ml⟩→RP W A2 p ⟨na,nb,nc,nd⟩→Calls Tryz.prog 18 #[TV t ⟨ma,mb,mc,md,me,mf,mg,mh,mi,mj,mk,ml⟩,PV p ⟨na,nb,nc,nd⟩,.string s,.int .i64 N] W fun e w'=>Below W.heap.size W w'∧∃my:VA,e=.returned (.tuple #[.agg #[.int .u8 K,.int .i64 l.length,.int .i64 0,.string ⟨#[]⟩,.int .u8 0,.int .i64 0,.slice my.a 0 my.c],.int .i64 0])):=
  hid (fun W h1 h2=>(crun_no t p s N W A A2 ⟨ma,mb,mc,md,me,mf,mg,mh,mi,mj,mk,ml⟩ ⟨na,nb,nc,nd⟩ ox hs h1 op hp h2 hE hne).mono fun e w' ⟨hb,my,h,_⟩=>⟨hb,my,by rw [h,repT_no hne,hR];rfl⟩)
 have HCUT:Hid (∀W,RT W A t ⟨ma,mb,mc,md,me,mf,mg,mh,mi,mj,mk,ml⟩→RP W A2 p ⟨na,nb,nc,nd⟩→Calls Tryz.prog 34 #[TV t ⟨ma,mb,mc,md,me,mf,mg,mh,mi,mj,mk,ml⟩,PV p ⟨na,nb,nc,nd⟩,.string s,.int .i64 N] W fun e w'=>Below W.heap.size W w'∧∃a c,e=.returned (.tuple #[.slice a l.length c,.int .u8 K,.int .i64 0])∧RRs w' (fun b=>W.heap.size≤b) l a):=
  hid (fun W h1 h2=>(cut_ok t p s N W A A2 ⟨ma,mb,mc,md,me,mf,mg,mh,mi,mj,mk,ml⟩ ⟨na,nb,nc,nd⟩ ox hs h1 op hp h2 hE).mono fun e w' h=>by rw [hR] at h;exact h)
 have HALL:=hid hall
 have HM:=hid hmay
 clear hl hr ox op hG hE hR hne hall hmay
 go_enter Tryz.func9,Tryz.ntmps9
 go_wp2_with (first
  | (go_at_call 11;(with_reducible refine (long31_any t p s _ _ A A2 ⟨ma,mb,mc,md,me,mf,mg,mh,mi,mj,mk,ml⟩ ⟨na,nb,nc,nd⟩ OX.out hs1 (by exact RT.ext (Agree.below Below.r) _ _ HL.out) OP.out (by exact RP.ext (Agree.below Below.r) _ _ HR.out)).mono ?_);rintro e w1 ⟨⟨b1,rfl⟩,hb1⟩;obtain ⟨hc1,hf1⟩:=bcells hb1;have hz1:=hb1.size;(try simp at hz1);have y1:w.heap.size < w1.heap.size:=(by omega);have y2:w.heap.size+1 < w1.heap.size:=(by omega);cases b1)
  | (go_at_call 12;(with_reducible refine (cawake_any _ (HG.out.below Below.r)).mono ?_);rintro e wa ⟨rfl,hba⟩;obtain ⟨hca,hfa⟩:=bcells hba;have hza:=hba.size;(try simp at hza);have y3:w.heap.size < wa.heap.size:=(by omega);have y4:w.heap.size+1 < wa.heap.size:=(by omega))
  | (go_at_call 18;(with_reducible refine (HRUN.out _ (by exact RT.ext (Agree.below Below.r) _ _ HL.out) (by exact RP.ext (Agree.below Below.r) _ _ HR.out)).mono ?_);rintro e w3 ⟨hb3,my,rfl⟩;obtain ⟨hc3,hf3⟩:=bcells hb3;have hz3:=hb3.size;(try simp at hz3);have y5:w.heap.size < w3.heap.size:=(by omega);have y6:w.heap.size+1 < w3.heap.size:=(by omega))
  | (go_at_call 34;(with_reducible refine (HCUT.out _ (by exact RT.ext (Agree.below Below.r) _ _ HL.out) (by exact RP.ext (Agree.below Below.r) _ _ HR.out)).mono ?_);rintro e w4 ⟨hb4,a,c,rfl,hrr⟩;have HRR:=hid (RRs.mono (A':=fun _=>True) (fun _ _ _=>trivial) _ _ hrr);clear hrr;obtain ⟨hc4,hf4⟩:=bcells hb4;have hz4:=hb4.size;(try simp at hz4);have y7:w3.heap.size < w4.heap.size:=(by omega);have y8:w.heap.size+1 < w4.heap.size:=(by omega)))
 rotate_left
 ·go_ret
  exact ⟨rfl,Below.r⟩
 have q0:w4.cell? ⟨w.heap.size+1,0,none⟩=some (.int .u8 p.k):=by go_simp
 have q1:w4.cell? ⟨w.heap.size+1,1,none⟩=some (.int .u8 p.v.k):=by go_simp
 have q2:w4.cell? ⟨w.heap.size+1,2,none⟩=some (.int .i64 p.v.n):=by go_simp
 have q3:w4.cell? ⟨w.heap.size+1,3,none⟩=some (.slice na p.v.l.length nb):=by go_simp
 have q4:w4.cell? ⟨w.heap.size+1,4,none⟩=some (.int .i64 p.n):=by go_simp
 have q5:w4.cell? ⟨w.heap.size+1,5,none⟩=some (.slice nc p.a.length nd):=by go_simp
 have r2:w4.cell? ⟨w3.heap.size,2,none⟩=some (.int .i64 0):=by go_simp
 have r3:w4.cell? ⟨w3.heap.size,3,none⟩=some (.string ⟨#[]⟩):=by go_simp
 have r4:w4.cell? ⟨w3.heap.size,4,none⟩=some (.int .u8 0):=by go_simp
 have r5:w4.cell? ⟨w3.heap.size,5,none⟩=some (.int .i64 0):=by go_simp
 have r6:w4.cell? ⟨w3.heap.size,6,none⟩=some (.slice my.a 0 my.c):=by go_simp
 have hbw:Below w.heap.size w w4:=Below.r
 have hz0:=hbw.size
 clear hc1 hf1 hca hfa hc3 hf3 hc4 hf4 hb1 hba hb3 hb4
 go_loopg [14] (l.length) (fun gk i wr=>∃j:Nat,gk+j=l.length∧i=.int .i64 j∧Below w4.heap.size w4 wr)
 case atStart=>exact ⟨0,by omega,rfl,Below.refl _ _⟩
 case round=>
  obtain ⟨j,hj,rfl,hbr⟩:=hrel
  have hzr:=hbr.size
  obtain ⟨hcr,hfr⟩:=bcells hbr
  have v0:w.heap.size+1 < wr.heap.size:=by omega
  by_cases hlt:j < l.length
  ·obtain ⟨b,o,mj,rfl,hA,hbs,g0,gx⟩:=HRR.out.get j hlt
   obtain ⟨k0,k1,k2,k3,k4⟩:=At5.1 g0
   have GX:=hid gx
   obtain ⟨hv,hov⟩:=HALL.out j hlt
   have HOV:=hid hov
   have HB:Hid ((mayP p&&holdsP p (l[j]).v)=true):=hid (by rw [HM.out,hv];rfl)
   have hbs2:b < wr.heap.size:=by omega
   clear g0 gx hov hv
   as_aux_lemma=>
    (try dsimp only [List.append])
    go_wp2_with fail
    refine wp_region_noPanic ?_
    refine wp_region_held_drew (S:=(fun W=>∀c k,c < wr.heap.size→W.cell? ⟨c,k,none⟩=wr.cell? ⟨c,k,none⟩)) (by kernel_rfl) ?_ (fun hHeld=>?_)
    ·((try dsimp only);(refine keepA ?_;(exact Below.r)))
    refine tzh 0 ?_
    try simp only [Act.put,sl,s0,ss]
    refine tzh 1 ?_
    try simp only [Act.put,sl,s0,ss]
    refine tzh 2 ?_
    try simp only [Act.put,sl,s0,ss]
    refine tzh 3 ?_
    try simp only [Act.put,sl,s0,ss]
    refine tzh 4 ?_
    try simp only [Act.put,sl,s0,ss]
    refine tzh 5 ?_
    try simp only [Act.put,sl,s0,ss]
    refine wpAnyH_ready (rs:=[6]) (by kernel_rfl) (by simp) ?_
    refine rch (fun K hK=>?_) ?_
    ·go_simp
     go_wp2_with (go_at_call 31;(refine (Holds_at p (l[j]).v true HB.out A2 (fun _=>True) ⟨na,nb,nc,nd⟩ mj _ OP.out hp (by exact RP.ext (Agree.below Below.r) _ _ HR.out) HOV.out (by exact RV.ext (Agree.below Below.r) _ _ GX.out)).mono ?_);rintro e w6 ⟨rfl,hb6⟩;have hz6:=hb6.size;(try simp at hz6))
     refine hK.out _ _ ?_ (fun hHeld=>?_)
     ·((try dsimp only);(refine keepA ?_;(exact Below.r)))
     clear hK K
     refine tzh 7 ?_
     try simp only [Act.put,sl,s0,ss]
     refine wpAnyH_done (by kernel_rfl) ?_ _
     (refine NoPanic.normal ?_;go_wp2_with fail;go_roundg (gk - 1);(case measure=>omega);(case rel=>exact ⟨j+1,by omega,by go_num,Below.r⟩))
    exact AllReadyH.nil
  ·obtain rfl:j=l.length:=by omega
   go_wp2_with (go_at_call 26;(refine (same_self ⟨0,0,[]⟩ _ (fun _=>True) (fun _=>True) my ⟨none,0⟩ (okV_leaf (by unfold isU8;omega) (by unfold isI64;omega)) (by simp [RV,RVs]) (by simp [RV,RVs])).mono ?_);rintro e w6 ⟨rfl,hb6⟩)
   go_ret
   exact ⟨rfl,Below.r⟩
set_option maxRecDepth 100000 in
set_option maxHeartbeats 64000000 in
theorem cpasses_w (t:GT) (p:GP) (s:ByteArray) (N:Int) (w:World) (A A2:Nat→Prop) (m:TA) (mp:PA) (ox:okT t) (hs1:sizeT t≤1048576) (hl:RT w A t m) (op:okP p) (hp1:sizeP p≤1048576) (hr:RP w A2 p mp) (hss:s.size≤1048576) (hG:GW w)
  (l:List GR) (j f g:Nat) (vk vn:Int) (vl:List GV) (hj:l.length=j+1) (hj2:j≤4096) (hlj:∀h:j < l.length,l[j]=⟨f,g,⟨vk,vn,vl⟩⟩) (hfg:f≤g) (hgs:g≤s.size) (x:ByteArray) (yk yn:Int) (yl:List GV) (n c:Int) (oy:okV ⟨yk,yn,yl⟩) (hxs:x.size≤1048576)
  (hRUN:∀W,RT W A t m→RP W A2 p mp→GW W→Calls Tryz.prog 18 #[TV t m,PV p mp,.string s,.int .i64 N] W fun e w'=>Below W.heap.size W w'∧∃my:VA,e=.returned (.tuple #[.agg #[.int .u8 1,.int .i64 ((j:Int)+1),.int .i64 n,.string x,.int .u8 yk,.int .i64 yn,.slice my.a yl.length my.c],.int .i64 0])∧RV w' (fun b=>W.heap.size≤b) ⟨yk,yn,yl⟩ my.a)
  (hCUT:∀W,RT W A t m→RP W A2 p mp→Calls Tryz.prog 34 #[TV t m,PV p mp,.string s,.int .i64 N] W fun e w'=>Below W.heap.size W w'∧∃a c,e=.returned (.tuple #[.slice a l.length c,.int .u8 1,.int .i64 0])∧RRs w' (fun b=>W.heap.size≤b) l a)
  (hSHR:∀W,RT W A t m→RP W A2 p mp→GW W→Calls Tryz.prog 14 #[TV t m,PV p mp,.string (s.extract f g)] W fun e w'=>Below W.heap.size W w'∧∃my:VA,e=.returned (.tuple #[.string x,.agg #[.int .u8 yk,.int .i64 yn,.slice my.a yl.length my.c],.int .i64 n,.int .i64 0])∧RV w' (fun b=>W.heap.size≤b) ⟨yk,yn,yl⟩ my.a)
  (hB:(mayP p&&holdsP p ⟨yk,yn,yl⟩)=false) (hC:cmpS x (s.extract f g)=c) (hc0:decide (c≤0)=true):
  Calls Tryz.prog 9 #[TV t m,PV p mp,.string s,.int .i64 N] w fun e w'=>e=.returned (.bool true)∧Below w.heap.size w w':=by
 obtain ⟨ma,mb,mc,md,me,mf,mg,mh,mi,mj,mk,ml⟩:=m
 obtain ⟨na,nb,nc,nd⟩:=mp
 have HL:=hid hl
 have HR:=hid hr
 have OX:=hid ox
 have OP:=hid op
 have HG:=hid hG
 have hs:sizeT t≤1099511627776:=by omega
 have hp:sizeP p≤1099511627776:=by omega
 have HRUN:=hid hRUN
 have HCUT:=hid hCUT
 have HSHR:=hid hSHR
 have HB:=hid hB
 have HC:=hid hC
 have OY:=hid oy
 have HJ:=hid hj
 have HLJ:=hid hlj
 clear hl hr ox op hG hRUN hCUT hSHR hB hC oy hj hlj
 have hw1:IntKind.i64.wrap ((j:Int)+1 - 1)=(j:Int):=by rw [IntWalk.i64_in _ (by omega)];omega
 have hw2:IntKind.i64.wrap (j:Int)=(j:Int):=IntWalk.i64_in _ (by omega)
 have hjl:(j:Int) < (j:Int)+1:=by omega
 have hj0:((j:Int)+1==0)=false:=beq_eq_false_iff_ne.2 (by omega)
 have e1:decide ((f:Int) < 0)=false:=decide_eq_false (by omega)
 have e2:decide ((g:Int) < (f:Int))=false:=decide_eq_false (by omega)
 have e3:decide ((s.size:Int) < (g:Int))=false:=decide_eq_false (by omega)
 have e4:decide (g < f)=false:=decide_eq_false (by omega)
 have e5:decide (s.size < g)=false:=decide_eq_false (by omega)
 go_enter Tryz.func9,Tryz.ntmps9
 go_wp2_with (first
  | (go_at_call 11;(with_reducible refine (long31_any t p s _ _ A A2 ⟨ma,mb,mc,md,me,mf,mg,mh,mi,mj,mk,ml⟩ ⟨na,nb,nc,nd⟩ OX.out hs1 (by exact RT.ext (Agree.below Below.r) _ _ HL.out) OP.out (by exact RP.ext (Agree.below Below.r) _ _ HR.out)).mono ?_);rintro e w1 ⟨⟨b1,rfl⟩,hb1⟩;obtain ⟨hc1,hf1⟩:=bcells hb1;have hz1:=hb1.size;(try simp at hz1);have y1:w.heap.size < w1.heap.size:=(by omega);have y2:w.heap.size+1 < w1.heap.size:=(by omega);cases b1)
  | (go_at_call 12;(with_reducible refine (cawake_any _ (HG.out.below Below.r)).mono ?_);rintro e wa ⟨rfl,hba⟩;obtain ⟨hca,hfa⟩:=bcells hba;have hza:=hba.size;(try simp at hza);have y3:w.heap.size < wa.heap.size:=(by omega);have y4:w.heap.size+1 < wa.heap.size:=(by omega))
  | (go_at_call 18;(with_reducible refine (HRUN.out _ (by exact RT.ext (Agree.below Below.r) _ _ HL.out) (by exact RP.ext (Agree.below Below.r) _ _ HR.out) (HG.out.below Below.r)).mono ?_);rintro e w3 ⟨hb3,my,rfl,hrv⟩;have HRV:=hid (RV.mono (A':=fun b=>b < w3.heap.size) (fun b _ h=>h) _ _ hrv);clear hrv;obtain ⟨hc3,hf3⟩:=bcells hb3;have hz3:=hb3.size;(try simp at hz3);have y5:w.heap.size < w3.heap.size:=(by omega);have y6:w.heap.size+1 < w3.heap.size:=(by omega))
  | (go_at_call 34;(with_reducible refine (HCUT.out _ (by exact RT.ext (Agree.below Below.r) _ _ HL.out) (by exact RP.ext (Agree.below Below.r) _ _ HR.out)).mono ?_);rintro e w4 ⟨hb4,a,cc,rfl,hrr⟩;obtain ⟨b,o,⟨xa,xc⟩,rfl,hA,hbs0,g0,gx⟩:=hrr.get j (by rw [HJ.out];omega);rw [HLJ.out] at g0 gx;obtain ⟨k0,k1,k2,k3,k4⟩:=At5.1 g0;clear hrr g0 gx;dsimp only at k0 k1 k2 k3 k4;rw [HJ.out];obtain ⟨hc4,hf4⟩:=bcells hb4;have hz4:=hb4.size;(try simp at hz4);have y7:w3.heap.size < w4.heap.size:=(by omega);have y8:w.heap.size+1 < w4.heap.size:=(by omega);have y9:w.heap.size < w4.heap.size:=(by omega)))
 rotate_left
 ·go_ret
  exact ⟨rfl,Below.r⟩
 refine wp_named (fun W=>Below w.heap.size w W∧W.heap.size=w4.heap.size+1∧Hid (At W w.heap.size 0 [.int .u8 t.k,.int .u8 t.v.k,.int .i64 t.v.n,.slice ma t.v.l.length mb,.slice mc t.vs.length md,.int .i64 t.lo,.int .i64 t.hi,.slice me t.w.length mf,.int .u8 t.p.k,.int .u8 t.p.v.k,.int .i64 t.p.v.n,.slice mg t.p.v.l.length mh,.int .i64 t.p.n,.slice mi t.p.a.length mj,.slice mk t.a.length ml])∧Hid (At W (w.heap.size+1) 0 [.int .u8 p.k,.int .u8 p.v.k,.int .i64 p.v.n,.slice na p.v.l.length nb,.int .i64 p.n,.slice nc p.a.length nd])∧Hid (At W w3.heap.size 0 [.int .u8 1,.int .i64 ((j:Int)+1),.int .i64 n,.string x,.int .u8 yk,.int .i64 yn,.slice my.a yl.length my.c])∧Hid (At W w4.heap.size 0 [.int .i64 (f:Int),.int .i64 (g:Int),.int .u8 vk,.int .i64 vn,.slice xa vl.length xc])∧Hid (RV W (fun _=>True) ⟨yk,yn,yl⟩ my.a))
  ⟨Below.r,by simp,hid (At15z.2 ⟨by go_simp,by go_simp,by go_simp,by go_simp,by go_simp,by go_simp,by go_simp,by go_simp,by go_simp,by go_simp,by go_simp,by go_simp,by go_simp,by go_simp,by go_simp⟩),hid (At6z.2 ⟨by go_simp,by go_simp,by go_simp,by go_simp,by go_simp,by go_simp⟩),hid (At7z.2 ⟨by go_simp,by go_simp,by go_simp,by go_simp,by go_simp,by go_simp,by go_simp⟩),hid (At5z.2 ⟨by go_simp,by go_simp,by go_simp,by go_simp,by go_simp⟩),hid (RV.mono (fun _ _ _=>trivial) _ _ (RV.ext (Agree.below (show Below w3.heap.size w3 _ from Below.r)) _ _ HRV.out))⟩ ?_
 clear hc1 hf1 hca hfa hc3 hf3 hc4 hf4 k0 k1 k2 k3 k4 hb1 hba hb3 hb4 HRV
 intro W7 ⟨hb7,hz7,HA,HP,HX,HT,HV⟩
 have h1:(f:Int)≤(g:Int):=by omega
 have h2:(g:Int)≤(s.size:Int):=by omega
 have v0:w.heap.size < W7.heap.size:=by omega
 have v1:w.heap.size+1 < W7.heap.size:=by omega
 have v2:w3.heap.size < W7.heap.size:=by omega
 have v3:w4.heap.size < W7.heap.size:=by omega
 have hzB:=hb7.size
 clear hz7
 go_cut [16,17,18,19] from 119 to 132 (fun p1 p2 p3 p4 wx=>∃(D:Nat) (mz:VA),p1=.string x∧p2=.pointer (some ⟨D,0,none⟩)∧p3=.int .i64 n∧p4=.int .i64 0∧W7.heap.size≤D∧D < wx.heap.size∧Below W7.heap.size W7 wx∧Hid (At wx D 0 [.int .u8 yk,.int .i64 yn,.slice mz.a yl.length mz.c])∧Hid (RV wx (fun _=>True) ⟨yk,yn,yl⟩ mz.a))
 case first=>
  obtain ⟨n0,n1,n2,n3,n4,n5,n6,n7,n8,n9,na',nb',nc',nd',ne⟩:=At15z.1 HA.out
  obtain ⟨p0,p1,p2,p3,p4,p5⟩:=At6z.1 HP.out
  obtain ⟨t0,t1,t2,t3,t4⟩:=At5z.1 HT.out
  as_aux_lemma=>
   (try dsimp only [List.append])
   refine wp_region_noPanic ?_
   refine wp_region_held_drew (S:=(fun W=>∀c k,c < W7.heap.size→W.cell? ⟨c,k,none⟩=W7.cell? ⟨c,k,none⟩)) (by kernel_rfl) ?_ (fun hHeld=>?_)
   ·((try dsimp only);(refine keepA ?_;(exact Below.r)))
   refine tz 0 ?_
   try simp only [Act.put,sl,s0,ss]
   refine tz 1 ?_
   try simp only [Act.put,sl,s0,ss]
   refine tz 2 ?_
   try simp only [Act.put,sl,s0,ss]
   as_aux_lemma=>
    refine tz 3 ?_
    try simp only [Act.put,sl,s0,ss]
    refine tz 4 ?_
    try simp only [Act.put,sl,s0,ss]
    refine tz 5 ?_
    try simp only [Act.put,sl,s0,ss]
    refine tz 6 ?_
    try simp only [Act.put,sl,s0,ss]
    as_aux_lemma=>
     refine tz 7 ?_
     try simp only [Act.put,sl,s0,ss]
     refine wpAnyH_ready (rs:=[8,14]) (by kernel_rfl) (by simp) ?_
     refine rch (fun K hK=>?_) ?_
     ·go_simp
      go_wp2_with (go_at_call 14;(refine (HSHR.out _ (by exact RT.ext (Agree.below Below.r) _ _ HL.out) (by exact RP.ext (Agree.below Below.r) _ _ HR.out) (HG.out.below Below.r)).mono ?_);rintro e w6 ⟨hb6,mz,rfl,hrv⟩;have HRV:=hid hrv;clear hrv;have hz6:=hb6.size;(try simp at hz6))
      refine hK.out _ _ ?_ (fun hHeld=>?_)
      ·((try dsimp only);(refine keepA ?_;(exact Below.r)))
      clear hK K
      refine tz 9 ?_
      try simp only [Act.put,sl,s0,ss]
      refine tz 10 ?_
      try simp only [Act.put,sl,s0,ss]
      as_aux_lemma=>
       refine tz 11 ?_
       try simp only [Act.put,sl,s0,ss]
       refine tz 12 ?_
       try simp only [Act.put,sl,s0,ss]
       refine tz 13 ?_
       try simp only [Act.put,sl,s0,ss]
       refine wpAnyH_ready (rs:=[14]) (by kernel_rfl) (by simp) ?_
       refine rch (fun K hK=>?_) ?_
       ·go_simp
        refine hK.out _ _ ?_ (fun hHeld=>?_)
        ·((try dsimp only);(refine keepA ?_;(exact Below.r)))
        clear hK K
        as_aux_lemma=>
         refine tz 15 ?_
         try simp only [Act.put,sl,s0,ss]
         refine wpAnyH_ready (rs:=[16]) (by kernel_rfl) (by simp) ?_
         refine rch (fun K hK=>?_) ?_
         ·(rw [if_pos (wanted_none rfl _)];refine wp_store_mid 24 _ _ rfl _ 0 _ rfl rfl thz (by kernel_rfl) (by simp [Value.oneCell']) ?_;simp only [Act.put,sl,s0,ss])
          refine hK.out _ _ ?_ (fun hHeld=>?_)
          ·((try dsimp only);(refine keepA (belowM_set sz ?_);(exact Below.r)))
          clear hK K
          refine tz 17 ?_
          try simp only [Act.put,sl,s0,ss]
          refine tz 18 ?_
          try simp only [Act.put,sl,s0,ss]
          as_aux_lemma=>
           refine wpAnyH_done (by kernel_rfl) ?_ _
           as_aux_lemma=>
            (go_wp2_with fail;(first|go_meet|(refine Met.intro ?_;go_step;go_meet));exact ⟨_,mz,rfl,rfl,rfl,rfl,sz,(by rw [sizeM_set];first|omega|(simp;done)|(simp;omega)),belowM_set sz Below.r,hid (AtM_same thz),hid (RV.mono (A:=fun b=>b≠_) (fun _ _ _=>trivial) _ _ (RV.ext (Agree.trans (Agree.below (show Below w6.heap.size w6 _ from Below.r)) (agreeM_set (fun h=>h rfl))) _ _ (RV.mono (fun b h hb=>by first|omega|(simp at h;omega)|(simp at h hb ⊢;omega)) _ _ HRV.out)))⟩)
         exact AllReadyH.nil
       exact AllReadyH.nil
     refine rch (fun K hK=>?_) ?_
     ·go_simp
      refine hK.out _ _ ?_ (fun hHeld=>?_)
      ·((try dsimp only);(refine keepA ?_;(exact Below.r)))
      clear hK K
      refine wpAnyH_ready (rs:=[8]) (by kernel_rfl) (by simp) ?_
      refine rch (fun K hK=>?_) ?_
      ·go_simp
       go_wp2_with (go_at_call 14;(refine (HSHR.out _ (by exact RT.ext (Agree.below Below.r) _ _ HL.out) (by exact RP.ext (Agree.below Below.r) _ _ HR.out) (HG.out.below Below.r)).mono ?_);rintro e w6 ⟨hb6,mz,rfl,hrv⟩;have HRV:=hid hrv;clear hrv;have hz6:=hb6.size;(try simp at hz6))
       refine hK.out _ _ ?_ (fun hHeld=>?_)
       ·((try dsimp only);(refine keepA ?_;(exact Below.r)))
       clear hK K
       refine tz 9 ?_
       try simp only [Act.put,sl,s0,ss]
       refine tz 10 ?_
       try simp only [Act.put,sl,s0,ss]
       as_aux_lemma=>
        refine tz 11 ?_
        try simp only [Act.put,sl,s0,ss]
        refine tz 12 ?_
        try simp only [Act.put,sl,s0,ss]
        refine tz 13 ?_
        try simp only [Act.put,sl,s0,ss]
        refine tz 15 ?_
        try simp only [Act.put,sl,s0,ss]
        as_aux_lemma=>
         refine wpAnyH_ready (rs:=[16]) (by kernel_rfl) (by simp) ?_
         refine rch (fun K hK=>?_) ?_
         ·(rw [if_pos (wanted_none rfl _)];refine wp_store_mid 24 _ _ rfl _ 0 _ rfl rfl thz (by kernel_rfl) (by simp [Value.oneCell']) ?_;simp only [Act.put,sl,s0,ss])
          refine hK.out _ _ ?_ (fun hHeld=>?_)
          ·((try dsimp only);(refine keepA (belowM_set sz ?_);(exact Below.r)))
          clear hK K
          refine tz 17 ?_
          try simp only [Act.put,sl,s0,ss]
          refine tz 18 ?_
          try simp only [Act.put,sl,s0,ss]
          refine wpAnyH_done (by kernel_rfl) ?_ _
          as_aux_lemma=>
           (go_wp2_with fail;(first|go_meet|(refine Met.intro ?_;go_step;go_meet));exact ⟨_,mz,rfl,rfl,rfl,rfl,sz,(by rw [sizeM_set];first|omega|(simp;done)|(simp;omega)),belowM_set sz Below.r,hid (AtM_same thz),hid (RV.mono (A:=fun b=>b≠_) (fun _ _ _=>trivial) _ _ (RV.ext (Agree.trans (Agree.below (show Below w6.heap.size w6 _ from Below.r)) (agreeM_set (fun h=>h rfl))) _ _ (RV.mono (fun b h hb=>by first|omega|(simp at h;omega)|(simp at h hb ⊢;omega)) _ _ HRV.out)))⟩)
         exact AllReadyH.nil
      exact AllReadyH.nil
     exact AllReadyH.nil
 case rest=>
  obtain ⟨D,mz,rfl,rfl,rfl,rfl,d0,d1,hbc,HZ,HVZ⟩:=hcut
  have hzc:=hbc.size
  obtain ⟨p0,p1,p2,p3,p4,p5⟩:=At6z.1 (At_below HP.out hbc)
  obtain ⟨x0,x1,x2,x3,x4,x5,x6⟩:=At7z.1 (At_below HX.out hbc)
  obtain ⟨t0,t1,t2,t3,t4⟩:=At5z.1 (At_below HT.out hbc)
  obtain ⟨z0,z1,z2⟩:=At3z.1 HZ.out
  have HV2:=hid (RV.ext (Agree.below hbc) _ _ HV.out)
  have hbd:Below w.heap.size w wc:=Below.trans hb7 (Below.mono hbc hzB)
  have u0:w.heap.size < wc.heap.size:=by omega
  have u1:w.heap.size+1 < wc.heap.size:=by omega
  have u2:w3.heap.size < wc.heap.size:=by omega
  have u3:w4.heap.size < wc.heap.size:=by omega
  clear hbc hb7 HA HP HX HT HZ HV hw1 hw2 hjl e1 e2 e3 e4 e5 hj0
  go_wp2_with fail
  as_aux_lemma=>
   (try dsimp only [List.append])
   refine wp_region_noPanic ?_
   refine wp_region_held_drew (S:=(fun W=>∀c k,c < wc.heap.size→W.cell? ⟨c,k,none⟩=wc.cell? ⟨c,k,none⟩)) (by kernel_rfl) ?_ (fun hHeld=>?_)
   ·((try dsimp only);(refine keepA ?_;(exact Below.r)))
   refine tz 0 ?_
   try simp only [Act.put,sl,s0,ss]
   refine tz 1 ?_
   try simp only [Act.put,sl,s0,ss]
   refine tz 2 ?_
   try simp only [Act.put,sl,s0,ss]
   refine tz 3 ?_
   try simp only [Act.put,sl,s0,ss]
   refine tz 4 ?_
   try simp only [Act.put,sl,s0,ss]
   refine tz 5 ?_
   try simp only [Act.put,sl,s0,ss]
   refine tz 6 ?_
   try simp only [Act.put,sl,s0,ss]
   as_aux_lemma=>
    refine tz 7 ?_
    try simp only [Act.put,sl,s0,ss]
    refine tz 8 ?_
    try simp only [Act.put,sl,s0,ss]
    refine tz 9 ?_
    try simp only [Act.put,sl,s0,ss]
    refine tz 10 ?_
    try simp only [Act.put,sl,s0,ss]
    refine tz 11 ?_
    try simp only [Act.put,sl,s0,ss]
    refine tz 12 ?_
    try simp only [Act.put,sl,s0,ss]
    refine tz 13 ?_
    try simp only [Act.put,sl,s0,ss]
    refine tz 14 ?_
    try simp only [Act.put,sl,s0,ss]
    as_aux_lemma=>
     refine tz 15 ?_
     try simp only [Act.put,sl,s0,ss]
     refine tz 16 ?_
     try simp only [Act.put,sl,s0,ss]
     refine tz 17 ?_
     try simp only [Act.put,sl,s0,ss]
     refine wpAnyH_ready (rs:=[18]) (by kernel_rfl) (by simp) ?_
     refine rch (fun K hK=>?_) ?_
     ·go_simp
      go_wp2_with (go_at_call 26;(refine (same_self ⟨yk,yn,yl⟩ _ (fun _=>True) (fun _=>True) my mz OY.out (by exact RV.ext (Agree.below Below.r) _ _ HV2.out) (by exact RV.ext (Agree.below Below.r) _ _ HVZ.out)).mono ?_);rintro e w6 ⟨rfl,hb6⟩;have hz6:=hb6.size;(try simp at hz6))
      refine hK.out _ _ ?_ (fun hHeld=>?_)
      ·((try dsimp only);(refine keepA ?_;(exact Below.r)))
      clear hK K
      refine tz 19 ?_
      try simp only [Act.put,sl,s0,ss]
      refine tz 20 ?_
      try simp only [Act.put,sl,s0,ss]
      refine tz 21 ?_
      try simp only [Act.put,sl,s0,ss]
      refine tz 22 ?_
      try simp only [Act.put,sl,s0,ss]
      as_aux_lemma=>
       refine tz 23 ?_
       try simp only [Act.put,sl,s0,ss]
       refine wpAnyH_ready (rs:=[24]) (by kernel_rfl) (by simp) ?_
       refine rch (fun K hK=>?_) ?_
       ·go_simp
        go_wp2_with (go_at_call 31;(refine (Holds_at p ⟨yk,yn,yl⟩ false HB.out A2 (fun _=>True) ⟨na,nb,nc,nd⟩ my _ OP.out hp (by exact RP.ext (Agree.below Below.r) _ _ HR.out) OY.out (by exact RV.ext (Agree.below Below.r) _ _ HV2.out)).mono ?_);rintro e w8 ⟨rfl,hb8⟩;have hz8:=hb8.size;(try simp at hz8))
        refine hK.out _ _ ?_ (fun hHeld=>?_)
        ·((try dsimp only);(refine keepA ?_;(exact Below.r)))
        clear hK K
        refine tz 25 ?_
        try simp only [Act.put,sl,s0,ss]
        refine tz 26 ?_
        try simp only [Act.put,sl,s0,ss]
        refine tz 27 ?_
        try simp only [Act.put,sl,s0,ss]
        refine tz 28 ?_
        try simp only [Act.put,sl,s0,ss]
        refine tz 29 ?_
        try simp only [Act.put,sl,s0,ss]
        refine tz 30 ?_
        try simp only [Act.put,sl,s0,ss]
        as_aux_lemma=>
         refine tz 31 ?_
         try simp only [Act.put,sl,s0,ss]
         refine tz 32 ?_
         try simp only [Act.put,sl,s0,ss]
         refine tz 33 ?_
         try simp only [Act.put,sl,s0,ss]
         refine tz 34 ?_
         try simp only [Act.put,sl,s0,ss]
         refine tz 35 ?_
         try simp only [Act.put,sl,s0,ss]
         refine wpAnyH_ready (rs:=[36]) (by kernel_rfl) (by simp) ?_
         refine rch (fun K hK=>?_) ?_
         ·go_simp
          go_wp2_with (go_at_call 32;(refine (cmpB_any x (s.extract f g) _ (by omega) (by simp;omega)).mono ?_);rw [HC.out];rintro e w9 ⟨rfl,hb9⟩;have hz9:=hb9.size;(try simp at hz9))
          refine hK.out _ _ ?_ (fun hHeld=>?_)
          ·((try dsimp only);(refine keepA ?_;(exact Below.r)))
          clear hK K
          refine tz 37 ?_
          try simp only [Act.put,sl,s0,ss]
          refine tz 38 ?_
          try simp only [Act.put,sl,s0,ss]
          as_aux_lemma=>
           refine tz 39 ?_
           try simp only [Act.put,sl,s0,ss]
           refine wpAnyH_done (by kernel_rfl) ?_ _
           as_aux_lemma=>
            (refine NoPanic.normal ?_;go_wp2_with fail;go_ret;exact ⟨rfl,Below.r⟩)
         exact AllReadyH.nil
       exact AllReadyH.nil
     exact AllReadyH.nil
theorem shrE_whole {t:GT} {p:GP} {s:ByteArray} {y:GV} (hp:(checkPE p).2=0) (hF:failT t p s=some (s,y)):shrE t p s=0:=by
 have hr:runE t s=0:=by
  have h:=hF
  unfold failT at h
  split at h
  ·cases h
  ·rename_i h;omega
 unfold shrE
 rw [if_neg (by omega),if_neg (by omega),hF]
 simp
set_option maxRecDepth 100000 in
theorem cpasses_any (w:World) (t:GT) (A:Nat→Prop) (m:TA) (ox:okT t) (hs1:sizeT t≤1048576) (hl:RT w A t m) (p:GP) (A2:Nat→Prop) (mp:PA) (op:okP p) (hp1:sizeP p≤1048576) (hr:RP w A2 p mp) (s:ByteArray) (hss:s.size≤1048576) (n:Int) (hG:GW w):
  Calls Tryz.prog 9 #[TV t m,PV p mp,.string s,.int .i64 n] w fun e w'=>e=.returned (.bool true)∧Below w.heap.size w w':=by
 by_cases hE:cutE t p s n=0
 case neg=>exact cpasses_err t p s n w A A2 m mp ox hs1 hl op hp1 hr hss hG hE
 have hn:0≤n∧n≤1000:=by
  have h:=hE
  unfold cutE at h
  split at h
  ·omega
  ·split at h
   ·omega
   ·split at h
    ·omega
    ·omega
 obtain ⟨N,rfl⟩:∃N:Nat,n=N:=⟨n.toNat,by omega⟩
 obtain ⟨e1,e2,e3⟩:=cutE_zero hE
 have hmay:mayP p=true:=may_iff.2 e2
 have hs:sizeT t≤1099511627776:=by omega
 have hp:sizeP p≤1099511627776:=by omega
 by_cases hK:(cutT s t p N 0).2=1
 ·obtain ⟨r,g1,f,k,g2,g3,g4,g5,g6,g7,g8⟩:=cut_last ox e1 hK
  obtain ⟨rf,rt,vk,vn,vl⟩:=r
  dsimp only at g2 g3
  subst g2 g3
  rw [g5] at g6 g7
  generalize hR:cutT s t p N 0=R at *
  obtain ⟨l,K⟩:=R
  obtain rfl:K=1:=hK
  obtain ⟨hlen, -⟩:=cut_len s t p N 0 l 1 hR
  obtain ⟨ys,rfl⟩:=List.getLast?_eq_some_iff.1 g1
  dsimp only at g7
  have hlen':(ys++[(⟨(f:Int),((f+k:Nat):Int),⟨vk,vn,vl⟩⟩:GR)]).length=ys.length+1:=by simp
  generalize hT:shrT t p 1024 (s.extract f (f+k)) ⟨vk,vn,vl⟩ 0=T
  obtain ⟨x,⟨yk,yn,yl⟩,q⟩:=T
  obtain ⟨i1,i2,i3,i4,i5,i6,i7⟩:=shr_all ox 1024 (s.extract f (f+k)) ⟨vk,vn,vl⟩ 0 g7
  rw [hT] at i1 i2 i3 i4 i5 i6 i7
  dsimp only at i1 i2 i3 i4 i5 i6 i7
  have hw:=fail_whole ox i1
  have hsz:(s.extract f (f+k)).size≤s.size:=by rw [ByteArray.size_extract];omega
  have hkey:keyS x≤keyS (s.extract f (f+k)):=by
   rcases Nat.eq_zero_or_pos q with h|h
   ·rw [(i4 h).1];exact Nat.le_refl _
   ·have:=i5 h;omega
  refine cpasses_w t p s N w A A2 m mp ox hs1 hl op hp1 hr hss hG _ ys.length f (f+k) vk vn vl hlen' (by rw [hlen'] at hlen;omega) (fun h=>by simp) (by omega) g4 x yk yn yl (q:Int) (cmpS x (s.extract f (f+k))) hw.2.2.2.2.2.2.1 (by omega) (fun W a1 a2 a3=>?_) (fun W a1 a2=>?_) (fun W a1 a2 a3=>?_) ?_ rfl ?_
  ·exact crun_oneA t p s N W A A2 m mp ox hs a1 op hp a2 a3 hE hmay _ hR ys.length f (f+k) hlen' (by rw [hlen'] at hlen;omega) vk vn vl (fun h=>by simp) (by omega) g4 g6 x yk yn yl q hT
  ·have:=cut_ok t p s N W A A2 m mp ox hs a1 op hp a2 hE
   rw [hR] at this
   exact this
  ·have:=shrink_ok t p (s.extract f (f+k)) W A A2 m mp ox hs a1 op hp a2 (shrE_whole e2 g7) ⟨vk,vn,vl⟩ g7 a3
   rw [hT] at this
   exact this
  ·rw [hw.2.2.2.2.2.2.2,Bool.and_false]
  ·rw [cmpS_key]
   unfold cmpI
   refine decide_eq_true ?_
   split
   ·omega
   ·split
    ·omega
    ·omega
 ·generalize hR:cutT s t p N 0=R at *
  obtain ⟨l,K⟩:=R
  obtain ⟨hlen, -⟩:=cut_len s t p N 0 l K hR
  have hf:=(cut_fail s t p N 0).2.1 (by rw [hR];exact hK)
  rw [hR] at hf
  have hm:=cut_mem p e1 ox N 0 (Nat.zero_le _)
  rw [hR] at hm
  exact cpasses_no t p s N w A A2 m mp ox hs1 hl op hp1 hr hss hG hE hmay l K (beq_eq_false_iff_ne.2 hK) (bne_iff_ne.2 hK) hR (fun j h=>⟨hf _ (List.getElem_mem h),(hm _ (List.getElem_mem h)).2.2⟩) (by omega)
end Go.Proofs.YtojjdneicmbfjaaGreatDoor
