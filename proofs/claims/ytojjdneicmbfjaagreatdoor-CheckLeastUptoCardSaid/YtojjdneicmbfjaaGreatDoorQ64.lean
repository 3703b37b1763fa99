/- What the proofs of the Trial statements need: part 45. -/
import Derived.Test.YtojjdneicmbfjaaGreatDoorQ38
import Derived.Test.YtojjdneicmbfjaaGreatDoorQTk
set_option linter.unusedVariables false
set_option linter.unusedSimpArgs false
namespace Go.Proofs.YtojjdneicmbfjaaGreatDoor
open Go.Lib (hid)
open Go Go.RowKit
def LFailR (t:GT) (p:GP) (u:ByteArray) (w:World):Ending→World→Prop:=fun e w'=>Below w.heap.size w w'∧∃(n:Int) (b:Bool),e=.returned (.tuple #[.int .i64 n,.bool b]) ∧
 Hid (b=true→runE t u=0∧∃(v:GV) (k:Nat),runT u t=.ok v k∧n=(k:Int)∧(mayP p&&holdsP p v)=false)
set_option maxRecDepth 100000 in
set_option maxHeartbeats 64000000 in
theorem lfails_any (t:GT) (p:GP) (u:ByteArray) (w:World) (A A2:Nat→Prop) (m:TA) (mp:PA) (ox:okT t) (hs:sizeT t≤1099511627776) (hl:RT w A t m) (op:okP p) (hp:sizeP p≤1099511627776) (hr:RP w A2 p mp) (hus:u.size≤1048576):
  Calls Tryz.prog 28 #[TV t m,PV p mp,.string u] w (LFailR t p u w):=by
 obtain ⟨ma,mb,mc,md,me,mf,mg,mh,mi,mj,mk,ml⟩:=m
 obtain ⟨na,nb,nc,nd⟩:=mp
 have HL:=hid hl
 have HR:=hid hr
 have OX:=hid ox
 have OP:=hid op
 clear hl hr ox op
 by_cases hE:runE t u=0
 case neg=>
  have HE:=hid hE
  have hE':(runE t u==0)=false:=by simpa using hE
  generalize hX:runE t u=X at hE'
  have HX:=hid hX
  clear hE hX
  go_enter Tryz.func28,Tryz.ntmps28
  go_wp2_with (go_at_call 30;(with_reducible refine (run_err t u _ A ⟨ma,mb,mc,md,me,mf,mg,mh,mi,mj,mk,ml⟩ OX.out hs (by exact RT.ext (Agree.below Below.r) _ _ HL.out) (by omega)).mono ?_);rw [HX.out];rintro e w1 ⟨hb1,k,⟨vk,vn,vl⟩,⟨va,vc⟩,n1,rfl⟩;have hz1:=hb1.size;(try simp at hz1);obtain ⟨hc1,hf1⟩:=bcells hb1;have y0:w.heap.size < w1.heap.size:=(by omega);have y1:w.heap.size+1 < w1.heap.size:=(by omega))
  refine wp_named (fun W=>Below w.heap.size w W∧W.heap.size=w1.heap.size+1∧W.cell? ⟨w1.heap.size,4,none⟩=some (.int .i64 n1)) ⟨Below.r,by simp,by go_simp⟩ ?_
  clear hc1 hf1 hb1
  intro W8 ⟨hb8,hz8,b4⟩
  as_aux_lemma=>
   (try dsimp only [List.append])
   refine wp_region_noPanic ?_
   refine wp_region_held_drew (S:=(fun W=>∀c k,c < W8.heap.size→W.cell? ⟨c,k,none⟩=W8.cell? ⟨c,k,none⟩)) (by kernel_rfl) ?_ (fun hHeld=>?_)
   ·((try dsimp only);(refine keepA ?_;(exact Below.r)))
   refine tz 0 ?_
   try simp only [Act.put,sl,s0,ss]
   refine tz 1 ?_
   try simp only [Act.put,sl,s0,ss]
   refine tz 2 ?_
   try simp only [Act.put,sl,s0,ss]
   refine tz 3 ?_
   try simp only [Act.put,sl,s0,ss]
   refine tz 4 ?_
   try simp only [Act.put,sl,s0,ss]
   refine th 5 ?_
   try simp only [Act.put,sl,s0,ss]
   refine th 6 ?_
   try simp only [Act.put,sl,s0,ss]
   as_aux_lemma=>
    refine th 7 ?_
    try simp only [Act.put,sl,s0,ss]
    refine tz 8 ?_
    try simp only [Act.put,sl,s0,ss]
    refine tz 9 ?_
    try simp only [Act.put,sl,s0,ss]
    refine th 10 ?_
    try simp only [Act.put,sl,s0,ss]
    refine th 11 ?_
    try simp only [Act.put,sl,s0,ss]
    refine th 12 ?_
    try simp only [Act.put,sl,s0,ss]
    refine th 13 ?_
    try simp only [Act.put,sl,s0,ss]
    refine th 14 ?_
    try simp only [Act.put,sl,s0,ss]
    as_aux_lemma=>
     refine tz 15 ?_
     try simp only [Act.put,sl,s0,ss]
     refine tz 16 ?_
     try simp only [Act.put,sl,s0,ss]
     refine tz 17 ?_
     try simp only [Act.put,sl,s0,ss]
     refine wpAnyH_done (by kernel_rfl) ?_ _
     as_aux_lemma=>
      (refine NoPanic.normal ?_;go_wp2_with fail;go_ret2;exact ⟨Below.r,_,_,rfl,hid (fun h=>by cases h)⟩)
 have HE:=hid hE
 have hin:=runT_in hE OX.out
 clear hE
 rcases hR:runT u t with ⟨v,k⟩|⟨k⟩
 case no=>
  rw [hR] at hin
  have HRR:=hid hR
  have hk:((k:Int)==1)=false:=by rcases hin with rfl|rfl<;>rfl
  clear hR hin
  go_enter Tryz.func28,Tryz.ntmps28
  go_wp2_with (go_at_call 30;(with_reducible refine (run_no t u _ A ⟨ma,mb,mc,md,me,mf,mg,mh,mi,mj,mk,ml⟩ OX.out hs (by exact RT.ext (Agree.below Below.r) _ _ HL.out) (by omega) HE.out k HRR.out).mono ?_);rintro e w1 ⟨hb1,rfl⟩;have hz1:=hb1.size;(try simp at hz1);obtain ⟨hc1,hf1⟩:=bcells hb1;have y0:w.heap.size < w1.heap.size:=(by omega);have y1:w.heap.size+1 < w1.heap.size:=(by omega))
  refine wp_named (fun W=>Below w.heap.size w W∧W.heap.size=w1.heap.size+1∧W.cell? ⟨w1.heap.size,0,none⟩=some (.int .u8 k)∧W.cell? ⟨w1.heap.size,4,none⟩=some (.int .i64 0)) ⟨Below.r,by simp,by go_simp,by go_simp⟩ ?_
  clear hc1 hf1 hb1
  intro W8 ⟨hb8,hz8,b0,b4⟩
  as_aux_lemma=>
   (try dsimp only [List.append])
   refine wp_region_noPanic ?_
   refine wp_region_held_drew (S:=(fun W=>∀c k,c < W8.heap.size→W.cell? ⟨c,k,none⟩=W8.cell? ⟨c,k,none⟩)) (by kernel_rfl) ?_ (fun hHeld=>?_)
   ·((try dsimp only);(refine keepA ?_;(exact Below.r)))
   refine tz 0 ?_
   try simp only [Act.put,sl,s0,ss]
   refine tz 1 ?_
   try simp only [Act.put,sl,s0,ss]
   refine tz 2 ?_
   try simp only [Act.put,sl,s0,ss]
   refine tz 3 ?_
   try simp only [Act.put,sl,s0,ss]
   refine tz 4 ?_
   try simp only [Act.put,sl,s0,ss]
   refine tz 5 ?_
   try simp only [Act.put,sl,s0,ss]
   refine tz 6 ?_
   try simp only [Act.put,sl,s0,ss]
   as_aux_lemma=>
    refine tz 7 ?_
    try simp only [Act.put,sl,s0,ss]
    refine tz 8 ?_
    try simp only [Act.put,sl,s0,ss]
    refine tz 9 ?_
    try simp only [Act.put,sl,s0,ss]
    refine th 10 ?_
    try simp only [Act.put,sl,s0,ss]
    refine th 11 ?_
    try simp only [Act.put,sl,s0,ss]
    refine th 12 ?_
    try simp only [Act.put,sl,s0,ss]
    refine th 13 ?_
    try simp only [Act.put,sl,s0,ss]
    refine th 14 ?_
    try simp only [Act.put,sl,s0,ss]
    as_aux_lemma=>
     refine tz 15 ?_
     try simp only [Act.put,sl,s0,ss]
     refine tz 16 ?_
     try simp only [Act.put,sl,s0,ss]
     refine tz 17 ?_
     try simp only [Act.put,sl,s0,ss]
     refine wpAnyH_done (by kernel_rfl) ?_ _
     as_aux_lemma=>
      (refine NoPanic.normal ?_;go_wp2_with fail;go_ret2;exact ⟨Below.r,_,_,rfl,hid (fun h=>by cases h)⟩)
 rw [hR] at hin
 obtain ⟨i1,i2,i3⟩:=hin
 have HRR:=hid hR
 have OV3:=hid i3
 clear hR i3
 generalize hB:(mayP p&&holdsP p v)=B
 have HB:=hid hB
 clear hB
 go_enter Tryz.func28,Tryz.ntmps28
 go_wp2_with (go_at_call 30;(with_reducible refine (run_ok t u _ A ⟨ma,mb,mc,md,me,mf,mg,mh,mi,mj,mk,ml⟩ OX.out hs (by exact RT.ext (Agree.below Below.r) _ _ HL.out) (by omega) HE.out v k HRR.out).mono ?_);rintro e w1 ⟨hb1,⟨va,vc⟩,rfl,hrv⟩;have HRV:=hid hrv;clear hrv;have hz1:=hb1.size;(try simp at hz1);obtain ⟨hc1,hf1⟩:=bcells hb1;have y0:w.heap.size < w1.heap.size:=(by omega);have y1:w.heap.size+1 < w1.heap.size:=(by omega))
 refine wp_named (fun W=>Below w.heap.size w W∧W.heap.size=w1.heap.size+1∧(W.cell? ⟨w1.heap.size,0,none⟩=some (.int .u8 1)∧W.cell? ⟨w1.heap.size,1,none⟩=some (.int .u8 v.k)∧W.cell? ⟨w1.heap.size,2,none⟩=some (.int .i64 v.n)∧W.cell? ⟨w1.heap.size,3,none⟩=some (.slice va v.l.length vc)∧W.cell? ⟨w1.heap.size,4,none⟩=some (.int .i64 k)) ∧
  (W.cell? ⟨w.heap.size+1,0,none⟩=some (.int .u8 p.k)∧W.cell? ⟨w.heap.size+1,1,none⟩=some (.int .u8 p.v.k)∧W.cell? ⟨w.heap.size+1,2,none⟩=some (.int .i64 p.v.n)∧W.cell? ⟨w.heap.size+1,3,none⟩=some (.slice na p.v.l.length nb)∧W.cell? ⟨w.heap.size+1,4,none⟩=some (.int .i64 p.n)∧W.cell? ⟨w.heap.size+1,5,none⟩=some (.slice nc p.a.length nd))∧Hid (RV W (fun _=>True) v va))
  ⟨Below.r,by simp,⟨by go_simp,by go_simp,by go_simp,by go_simp,by go_simp⟩,⟨by go_simp,by go_simp,by go_simp,by go_simp,by go_simp,by go_simp⟩,hid (RV.mono (fun _ _ _=>trivial) _ _ (RV.ext (Agree.below (show Below w1.heap.size w1 _ from Below.r)) _ _ (RV.mono (A':=fun b=>b < w1.heap.size) (fun b _ h=>h) _ _ HRV.out)))⟩ ?_
 clear hc1 hf1 hb1 HRV
 intro W8 ⟨hb8,hz8,⟨b0,b1,b2,b3,b4⟩,⟨q0,q1,q2,q3,q4,q5⟩,HRV⟩
 as_aux_lemma=>
  (try dsimp only [List.append])
  refine wp_region_noPanic ?_
  refine wp_region_held_drew (S:=(fun W=>∀c k,c < W8.heap.size→W.cell? ⟨c,k,none⟩=W8.cell? ⟨c,k,none⟩)) (by kernel_rfl) ?_ (fun hHeld=>?_)
  ·((try dsimp only);(refine keepA ?_;(exact Below.r)))
  refine tz 0 ?_
  try simp only [Act.put,sl,s0,ss]
  refine tz 1 ?_
  try simp only [Act.put,sl,s0,ss]
  refine tz 2 ?_
  try simp only [Act.put,sl,s0,ss]
  refine tz 3 ?_
  try simp only [Act.put,sl,s0,ss]
  refine tz 4 ?_
  try simp only [Act.put,sl,s0,ss]
  refine tz 5 ?_
  try simp only [Act.put,sl,s0,ss]
  refine tz 6 ?_
  try simp only [Act.put,sl,s0,ss]
  as_aux_lemma=>
   refine tz 7 ?_
   try simp only [Act.put,sl,s0,ss]
   refine tz 8 ?_
   try simp only [Act.put,sl,s0,ss]
   refine tz 9 ?_
   try simp only [Act.put,sl,s0,ss]
   refine tz 10 ?_
   try simp only [Act.put,sl,s0,ss]
   refine tz 11 ?_
   try simp only [Act.put,sl,s0,ss]
   refine tz 12 ?_
   try simp only [Act.put,sl,s0,ss]
   refine wrh1 13 fun K hK=>?_
   go_simp
   go_wp2_with (go_at_call 31;(refine (Holds_at p v B HB.out A2 (fun _=>True) ⟨na,nb,nc,nd⟩ ⟨va,vc⟩ _ OP.out hp (by exact RP.ext (Agree.below Below.r) _ _ HR.out) OV3.out (by exact RV.ext (Agree.below Below.r) _ _ HRV.out)).mono ?_);rintro e w6 ⟨rfl,hb6⟩;have hz6:=hb6.size;(try simp at hz6))
   refine hK.out _ _ ?_ (fun hHeld=>?_)
   ·((try dsimp only);(refine keepA ?_;(exact Below.r)))
   clear hK K
   refine tz 14 ?_
   try simp only [Act.put,sl,s0,ss]
   as_aux_lemma=>
    refine tz 15 ?_
    try simp only [Act.put,sl,s0,ss]
    refine tz 16 ?_
    try simp only [Act.put,sl,s0,ss]
    refine tz 17 ?_
    try simp only [Act.put,sl,s0,ss]
    refine wpAnyH_done (by kernel_rfl) ?_ _
    as_aux_lemma=>
     (refine NoPanic.normal ?_;go_wp2_with fail;go_ret2;exact ⟨Below.r,_,_,rfl,hid (fun h=>⟨HE.out,v,k,HRR.out,rfl,by rw [HB.out];simpa using h⟩)⟩)
theorem preS_all (u:ByteArray):preS u u.size=u:=ByteArray.ext (Array.ext' (by rw [preS_list,size_list,List.take_length]))
theorem least_no {t:GT} {p:GP} {u:ByteArray} {n:Int} {b:Bool} (hE:shrE t p u≠0) (hF:b=true→runE t u=0∧∃(v:GV) (k:Nat),runT u t=.ok v k∧n=(k:Int)∧(mayP p&&holdsP p v)=false):
  b=false∨(b=true∧(n != (u.size:Int))=true)∨(b=true∧(n != (u.size:Int))=false∧mayP p=false):=by
 cases b with
 | false=>exact .inl rfl
 | true=>
  obtain ⟨h1,v,k,h2,rfl,h3⟩:=hF rfl
  by_cases hn:(k:Int)=(u.size:Int)
  case neg=>exact .inr (.inl ⟨rfl,by simpa using hn⟩)
  refine .inr (.inr ⟨rfl,by simpa using hn,?_⟩)
  cases hm:mayP p with
  | false=>rfl
  | true=>
   exfalso
   refine hE ?_
   rw [hm,Bool.true_and] at h3
   have hf:failT t p u=some (preS u k,v):=by
    unfold failT
    rw [if_neg (by simp [h1]),h2]
    simp [h3]
   unfold shrE
   rw [if_neg (by simp [h1]),if_neg (by simp [may_iff.1 hm]),hf]
   simp only []
   rw [show k=u.size by omega,preS_all,if_pos rfl]
set_option maxRecDepth 100000 in
set_option maxHeartbeats 64000000 in
theorem cleast_err (t:GT) (p:GP) (u:ByteArray) (w:World) (A A2:Nat→Prop) (m:TA) (mp:PA) (ox:okT t) (hs1:sizeT t≤1048576) (hl:RT w A t m) (op:okP p) (hp1:sizeP p≤1048576) (hr:RP w A2 p mp) (hss:u.size≤1048576) (hG:GW w) (hE:shrE t p u≠0):
  Calls Tryz.prog 7 #[TV t m,PV p mp,.string u] w fun e w'=>e=.returned (.bool true)∧Below w.heap.size w w':=by
 obtain ⟨ma,mb,mc,md,me,mf,mg,mh,mi,mj,mk,ml⟩:=m
 obtain ⟨na,nb,nc,nd⟩:=mp
 have HL:=hid hl
 have HR:=hid hr
 have OX:=hid ox
 have OP:=hid op
 have HG:=hid hG
 have hs:sizeT t≤1099511627776:=by omega
 have hp:sizeP p≤1099511627776:=by omega
 have HE:=hid hE
 have h1':(shrE t p u != 0)=true:=by simp [hE]
 clear hl hr ox op hG hE
 go_enter Tryz.func7,Tryz.ntmps7
 go_wp2_with (first
  | (go_at_call 11;(with_reducible refine (long31_any t p u _ _ A A2 ⟨ma,mb,mc,md,me,mf,mg,mh,mi,mj,mk,ml⟩ ⟨na,nb,nc,nd⟩ OX.out hs1 (by exact RT.ext (Agree.below Below.r) _ _ HL.out) OP.out (by exact RP.ext (Agree.below Below.r) _ _ HR.out)).mono ?_);rintro e w1 ⟨⟨b1,rfl⟩,hb1⟩;obtain ⟨hc1,hf1⟩:=bcells hb1;have hz1:=hb1.size;(try simp at hz1);have y1:w.heap.size < w1.heap.size:=(by omega);have y2:w.heap.size+1 < w1.heap.size:=(by omega);have x1:w.heap.size+1+1 < w1.heap.size:=(by omega);cases b1)
  | (go_at_call 12;(with_reducible refine (cawake_any _ (HG.out.below Below.r)).mono ?_);rintro e wa ⟨rfl,hba⟩;obtain ⟨hca,hfa⟩:=bcells hba;have hza:=hba.size;(try simp at hza);have y3:w.heap.size < wa.heap.size:=(by omega);have y4:w.heap.size+1 < wa.heap.size:=(by omega);have x2:w.heap.size+1+1 < wa.heap.size:=(by omega))
  | (go_at_call 14;(with_reducible refine (shrink_err t p u _ A A2 ⟨ma,mb,mc,md,me,mf,mg,mh,mi,mj,mk,ml⟩ ⟨na,nb,nc,nd⟩ OX.out hs (by exact RT.ext (Agree.below Below.r) _ _ HL.out) OP.out hp (by exact RP.ext (Agree.below Below.r) _ _ HR.out) (by omega) HE.out).mono ?_);rintro e w3 ⟨rfl,hb3⟩;obtain ⟨hc3,hf3⟩:=bcells hb3;have hz3:=hb3.size;(try simp at hz3);have y5:w.heap.size < w3.heap.size:=(by omega);have y6:w.heap.size+1 < w3.heap.size:=(by omega);have x3:w.heap.size+1+1 < w3.heap.size:=(by omega))
  | (go_at_call 28;(with_reducible refine (lfails_any t p u _ A A2 ⟨ma,mb,mc,md,me,mf,mg,mh,mi,mj,mk,ml⟩ ⟨na,nb,nc,nd⟩ OX.out hs (by exact RT.ext (Agree.below Below.r) _ _ HL.out) OP.out hp (by exact RP.ext (Agree.below Below.r) _ _ HR.out) hss).mono ?_);rintro e w4 ⟨hb4,n,b,rfl,HF⟩;obtain ⟨hc4,hf4⟩:=bcells hb4;have hz4:=hb4.size;(try simp at hz4);have y7:w.heap.size < w4.heap.size:=(by omega);have y8:w.heap.size+1 < w4.heap.size:=(by omega);have x4:w.heap.size+1+1 < w4.heap.size:=(by omega);rcases least_no HE.out HF.out with rfl|⟨rfl,hn⟩|⟨rfl,hn,hmay⟩)
  | (go_at_call 29;(with_reducible refine (mayP_any p _ A2 ⟨na,nb,nc,nd⟩ OP.out hp (by exact RP.ext (Agree.below Below.r) _ _ HR.out)).mono ?_);rw [hmay];rintro e w5 ⟨rfl,hb5⟩;obtain ⟨hc5,hf5⟩:=bcells hb5;have hz5:=hb5.size;(try simp at hz5);have y9:w.heap.size < w5.heap.size:=(by omega);have x5:w.heap.size+1+1 < w5.heap.size:=(by omega)))
 all_goals refine bodyPost_ret (v:=.bool true) (by first|(simp [results,Tryz.f7,go_sem];done)|(simp [results,Tryz.f7,go_sem, *];done)) rfl ?_
 all_goals exact ⟨rfl,Below.r⟩
end Go.Proofs.YtojjdneicmbfjaaGreatDoor
