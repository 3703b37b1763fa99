/- What the proofs of the Trial statements need: part 36. -/
import Derived.Deep.CutRange
import Derived.Deep.RegionHeld3
import Derived.Test.YtojjdneicmbfjaaGreatDoorQ0
import Derived.Test.YtojjdneicmbfjaaGreatDoorQ1
import Derived.Test.YtojjdneicmbfjaaGreatDoorQ11
import Derived.Test.YtojjdneicmbfjaaGreatDoorQ14
import Derived.Test.YtojjdneicmbfjaaGreatDoorQ15
import Derived.Test.YtojjdneicmbfjaaGreatDoorQ30
import Derived.Test.YtojjdneicmbfjaaGreatDoorQ33
import Derived.Test.YtojjdneicmbfjaaGreatDoorQ34
import Derived.Test.YtojjdneicmbfjaaGreatDoorQ36
import Derived.Test.YtojjdneicmbfjaaGreatDoorQTk
set_option linter.unusedVariables false
set_option linter.unusedSimpArgs false
namespace Go.Proofs.YtojjdneicmbfjaaGreatDoor
open Go.Lib (hid)
open Go Go.RowKit
theorem bA (t:GT) (m:TA) (p:GP) (q:PA) (w:World):(Instr.build 87 #[(0,TV t m),(1,PV p q)]).run Tryz.prog w=.ok (AV t m p q) w:=by
 go_simp
set_option maxRecDepth 100000 in
set_option maxHeartbeats 16000000 in
theorem shrink_e1 (t:GT) (p:GP) (u:ByteArray) (w:World) (A A2:Nat→Prop) (m:TA) (mp:PA) (ox:okT t) (hs:sizeT t≤1099511627776) (hl:RT w A t m) (op:okP p) (hp:sizeP p≤1099511627776) (hr:RP w A2 p mp) (hus:u.size≤9223372036854775807) (h1':(runE t u != 0)=true):
  Calls Tryz.prog 14 #[TV t m,PV p mp,.string u] w fun e w'=>e=.returned (.tuple #[.string ⟨#[]⟩,.agg #[.int .u8 0,.int .i64 0,.slice none 0 0],.int .i64 0,.int .i64 (runE t u)])∧Below w.heap.size w w':=by
 obtain ⟨ma,mb,mc,md,me,mf,mg,mh,mi,mj,mk,ml⟩:=m
 obtain ⟨na,nb,nc,nd⟩:=mp
 have HL:=hid hl
 have HR:=hid hr
 have OX:=hid ox
 have OP:=hid op
 clear hl hr ox op
 go_enter Tryz.func14,Tryz.ntmps14
 go_wp2_with (go_at_call 30;refine (run_err t u _ A ⟨ma,mb,mc,md,me,mf,mg,mh,mi,mj,mk,ml⟩ OX.out hs (by exact RT.ext (Agree.below Below.z) _ _ HL.out) hus).mono ?_;rintro e w1 ⟨hb1,k,v,m,n1,rfl⟩;have hz1:=hb1.size;(try simp at hz1);obtain ⟨hc1,hf1⟩:=bcells hb1;have y0:w.heap.size < w1.heap.size:=(by omega);have y1:w.heap.size+1 < w1.heap.size:=(by omega);have y2:w.heap.size+2 < w1.heap.size:=(by omega))
 refine bodyPost_ret (v:=(.tuple #[.string ⟨#[]⟩,.agg #[.int .u8 0,.int .i64 0,.slice none 0 0],.int .i64 0,.int .i64 (runE t u)])) (by first|(simp [results,Tryz.f14,go_sem];done)|(simp [results,Tryz.f14,go_sem, *];done)) rfl ?_
 exact ⟨rfl,Below.r⟩
set_option maxRecDepth 100000 in
set_option maxHeartbeats 16000000 in
theorem shrink_e2 (t:GT) (p:GP) (u:ByteArray) (w:World) (A A2:Nat→Prop) (m:TA) (mp:PA) (ox:okT t) (hs:sizeT t≤1099511627776) (hl:RT w A t m) (op:okP p) (hp:sizeP p≤1099511627776) (hr:RP w A2 p mp) (hus:u.size≤9223372036854775807) (h1':(runE t u != 0)=false) (h2':((checkPE p).2 != 0)=true):
  Calls Tryz.prog 14 #[TV t m,PV p mp,.string u] w fun e w'=>e=.returned (.tuple #[.string ⟨#[]⟩,.agg #[.int .u8 0,.int .i64 0,.slice none 0 0],.int .i64 0,.int .i64 (checkPE p).2])∧Below w.heap.size w w':=by
 obtain ⟨ma,mb,mc,md,me,mf,mg,mh,mi,mj,mk,ml⟩:=m
 obtain ⟨na,nb,nc,nd⟩:=mp
 have HL:=hid hl
 have HR:=hid hr
 have OX:=hid ox
 have OP:=hid op
 clear hl hr ox op
 go_enter Tryz.func14,Tryz.ntmps14
 go_wp2_with (first
  | (go_at_call 30;refine (run_err t u _ A ⟨ma,mb,mc,md,me,mf,mg,mh,mi,mj,mk,ml⟩ OX.out hs (by exact RT.ext (Agree.below Below.z) _ _ HL.out) hus).mono ?_;rintro e w1 ⟨hb1,k,v,m,n1,rfl⟩;have hz1:=hb1.size;(try simp at hz1);obtain ⟨hc1,hf1⟩:=bcells hb1;have y0:w.heap.size < w1.heap.size:=(by omega);have y1:w.heap.size+1 < w1.heap.size:=(by omega);have y2:w.heap.size+2 < w1.heap.size:=(by omega))
  | (go_at_call 46;refine (checkP_any p _ A2 ⟨na,nb,nc,nd⟩ OP.out hp (by exact RP.ext (Agree.below Below.r) _ _ HR.out)).mono ?_;rintro e w2 ⟨rfl,hb2⟩;have hz2:=hb2.size;(try simp at hz2);obtain ⟨hc2,hf2⟩:=bcells hb2;have y3:w.heap.size < w2.heap.size:=(by omega);have y4:w.heap.size+1 < w2.heap.size:=(by omega);have y5:w.heap.size+2 < w2.heap.size:=(by omega);have y6:w1.heap.size < w2.heap.size:=(by omega)))
 refine bodyPost_ret (v:=(.tuple #[.string ⟨#[]⟩,.agg #[.int .u8 0,.int .i64 0,.slice none 0 0],.int .i64 0,.int .i64 (checkPE p).2])) (by first|(simp [results,Tryz.f14,go_sem];done)|(simp [results,Tryz.f14,go_sem, *];done)) rfl ?_
 exact ⟨rfl,Below.r⟩
set_option maxRecDepth 100000 in
set_option maxHeartbeats 16000000 in
theorem shrink_e3 (t:GT) (p:GP) (u:ByteArray) (w:World) (A A2:Nat→Prop) (m:TA) (mp:PA) (ox:okT t) (hs:sizeT t≤1099511627776) (hl:RT w A t m) (op:okP p) (hp:sizeP p≤1099511627776) (hr:RP w A2 p mp) (hus:u.size≤9223372036854775807) (h1':(runE t u != 0)=false) (h2':((checkPE p).2 != 0)=false) (hmay:mayP p=true) (hq:failT t p u=none):
  Calls Tryz.prog 14 #[TV t m,PV p mp,.string u] w fun e w'=>e=.returned (.tuple #[.string ⟨#[]⟩,.agg #[.int .u8 0,.int .i64 0,.slice none 0 0],.int .i64 0,.int .i64 1])∧Below w.heap.size w w':=by
 obtain ⟨ma,mb,mc,md,me,mf,mg,mh,mi,mj,mk,ml⟩:=m
 obtain ⟨na,nb,nc,nd⟩:=mp
 have HL:=hid hl
 have HR:=hid hr
 have OX:=hid ox
 have OP:=hid op
 clear hl hr ox op
 have HQ:=hid hq
 have HM:=hid hmay
 clear hq hmay
 go_enter Tryz.func14,Tryz.ntmps14
 go_upto_region 7 with (first
  | (go_at_call 30;refine (run_err t u _ A ⟨ma,mb,mc,md,me,mf,mg,mh,mi,mj,mk,ml⟩ OX.out hs (by exact RT.ext (Agree.below Below.z) _ _ HL.out) hus).mono ?_;rintro e w1 ⟨hb1,k,v,m,n1,rfl⟩;have hz1:=hb1.size;(try simp at hz1);obtain ⟨hc1,hf1⟩:=bcells hb1;have y0:w.heap.size < w1.heap.size:=(by omega);have y1:w.heap.size+1 < w1.heap.size:=(by omega);have y2:w.heap.size+2 < w1.heap.size:=(by omega))
  | (go_at_call 46;refine (checkP_any p _ A2 ⟨na,nb,nc,nd⟩ OP.out hp (by exact RP.ext (Agree.below Below.r) _ _ HR.out)).mono ?_;rintro e w2 ⟨rfl,hb2⟩;have hz2:=hb2.size;(try simp at hz2);obtain ⟨hc2,hf2⟩:=bcells hb2;have y3:w.heap.size < w2.heap.size:=(by omega);have y4:w.heap.size+1 < w2.heap.size:=(by omega);have y5:w.heap.size+2 < w2.heap.size:=(by omega);have y6:w1.heap.size < w2.heap.size:=(by omega)))
 refine wp_named (fun W=>Below w.heap.size w W∧w.heap.size+2 < W.heap.size∧Hid (At W w.heap.size 0 [.int .u8 t.k,.int .u8 t.v.k,.int .i64 t.v.n,.slice ma t.v.l.length mb,.slice mc t.vs.length md,.int .i64 t.lo,.int .i64 t.hi,.slice me t.w.length mf,.int .u8 t.p.k,.int .u8 t.p.v.k,.int .i64 t.p.v.n,.slice mg t.p.v.l.length mh,.int .i64 t.p.n,.slice mi t.p.a.length mj,.slice mk t.a.length ml])∧Hid (At W (w.heap.size+1) 0 [.int .u8 p.k,.int .u8 p.v.k,.int .i64 p.v.n,.slice na p.v.l.length nb,.int .i64 p.n,.slice nc p.a.length nd])∧W.cell? ⟨w.heap.size+2,0,none⟩=some (.int .u8 0)∧W.cell? ⟨w.heap.size+2,1,none⟩=some (.int .i64 0)∧W.cell? ⟨w.heap.size+2,2,none⟩=some (.slice none 0 0)∧W.frozen? ⟨w.heap.size+2,0,none⟩=false∧W.frozen? ⟨w.heap.size+2,1,none⟩=false∧W.frozen? ⟨w.heap.size+2,2,none⟩=false) ⟨Below.r,by omega,hid (At15z.2 ⟨by go_simp,by go_simp,by go_simp,by go_simp,by go_simp,by go_simp,by go_simp,by go_simp,by go_simp,by go_simp,by go_simp,by go_simp,by go_simp,by go_simp,by go_simp⟩),hid (At6z.2 ⟨by go_simp,by go_simp,by go_simp,by go_simp,by go_simp,by go_simp⟩),by go_simp,by go_simp,by go_simp,by go_simp,by go_simp,by go_simp⟩ ?_
 clear hc1 hf1 hc2 hf2 hb1 hb2
 intro W6 ⟨hb6,z6,HA5,HA6,b0,b1,b2,f0,f1,f2⟩
 simp only [Nat.add_assoc,Nat.reduceAdd]
 have HT5:=hid (show W6.rangeAt w.heap.size 0 _ from At_cellM HA5.out)
 have HT6:=hid (show W6.rangeAt (w.heap.size+1) 0 _ from At_cellM HA6.out)
 as_aux_lemma=>
  go_upto_region 8 with (first
   | (refine wpList_load_mid rfl 31 _ rfl w.heap.size 0 (by rfl) [.int .u8 t.k,.int .u8 t.v.k,.int .i64 t.v.n,.slice ma t.v.l.length mb,.slice mc t.vs.length md,.int .i64 t.lo,.int .i64 t.hi,.slice me t.w.length mf,.int .u8 t.p.k,.int .u8 t.p.v.k,.int .i64 t.p.v.n,.slice mg t.p.v.l.length mh,.int .i64 t.p.n,.slice mi t.p.a.length mj,.slice mk t.a.length ml] _ HT5.out Tryz.underlying31 rfl (by kernel_rfl) ?_)
   | (refine wpList_load_mid rfl 28 _ rfl (w.heap.size+1) 0 (by rfl) [.int .u8 p.k,.int .u8 p.v.k,.int .i64 p.v.n,.slice na p.v.l.length nb,.int .i64 p.n,.slice nc p.a.length nd] _ HT6.out Tryz.underlying28 rfl (by kernel_rfl) ?_)
   | (refine wpList_buildM rfl rfl (bA t ⟨ma,mb,mc,md,me,mf,mg,mh,mi,mj,mk,ml⟩ p ⟨na,nb,nc,nd⟩) (by simp [Act.eval,Act.put]) ?_)
   | (refine wpList_store_newM rfl 87 _ _ rfl _ _ (by rfl) (by rfl) (by kernel_rfl) (by rfl) (by simp [Value.oneCell']) ?_))
  refine wp_named (fun W=>Below w.heap.size w W∧W.heap.size=W6.heap.size+1∧Hid (At W W6.heap.size 0 (avL t ⟨ma,mb,mc,md,me,mf,mg,mh,mi,mj,mk,ml⟩ p ⟨na,nb,nc,nd⟩))∧W.cell? ⟨w.heap.size+2,0,none⟩=some (.int .u8 0)∧W.cell? ⟨w.heap.size+2,1,none⟩=some (.int .i64 0)∧W.cell? ⟨w.heap.size+2,2,none⟩=some (.slice none 0 0)∧W.frozen? ⟨w.heap.size+2,0,none⟩=false∧W.frozen? ⟨w.heap.size+2,1,none⟩=false∧W.frozen? ⟨w.heap.size+2,2,none⟩=false) ⟨Below.r,by simp,hid (At_whole rfl),by go_simp,by go_simp,by go_simp,by go_simp,by go_simp,by go_simp⟩ ?_
  clear HT5 HT6 HA5 HA6 b0 b1 b2 f0 f1 f2 hb6
  intro W7 ⟨hb7,hz7,HA7,b0,b1,b2,f0,f1,f2⟩
  have HAT:=hid (show W7.rangeAt W6.heap.size 0 _ from At_cellM HA7.out)
  as_aux_lemma=>
   go_upto_region 9 with (first
    | (refine wpList_load_mid rfl 87 _ rfl W6.heap.size 0 (by rfl) (avL t ⟨ma,mb,mc,md,me,mf,mg,mh,mi,mj,mk,ml⟩ p ⟨na,nb,nc,nd⟩) _ HAT.out Tryz.underlying87 rfl (by kernel_rfl) ?_)
    | (go_at_call 47;(refine (fails_any t p u _ A A2 ⟨ma,mb,mc,md,me,mf,mg,mh,mi,mj,mk,ml⟩ ⟨na,nb,nc,nd⟩ OX.out hs (by exact RT.ext (Agree.below hb7) _ _ HL.out) OP.out hp (by exact RP.ext (Agree.below hb7) _ _ HR.out) hus HM.out).mono ?_);rw [HQ.out];rintro e w3 ⟨hb3,rfl⟩;have hz3:=hb3.size;(try simp at hz3);obtain ⟨hc3,hf3⟩:=bcells hb3;have y7:w.heap.size+2 < w3.heap.size:=(by omega);have y8:w.heap.size+2 < W7.heap.size:=(by omega);have y9:w.heap.size+2 < W6.heap.size+1:=(by omega)))
   refine wp_named (fun W=>Below w.heap.size w W∧w.heap.size+2 < W.heap.size∧W.cell? ⟨w.heap.size+2,0,none⟩=some (.int .u8 0)∧W.cell? ⟨w.heap.size+2,1,none⟩=some (.int .i64 0)∧W.cell? ⟨w.heap.size+2,2,none⟩=some (.slice none 0 0)∧W.frozen? ⟨w.heap.size+2,0,none⟩=false∧W.frozen? ⟨w.heap.size+2,1,none⟩=false∧W.frozen? ⟨w.heap.size+2,2,none⟩=false) ⟨Below.r,by simp;omega,by go_simp,by go_simp,by go_simp,by go_simp,by go_simp,by go_simp⟩ ?_
   clear hc3 hf3 HAT HA7 b0 b1 b2 f0 f1 f2 hb3 hb7 y7 y8
   intro W9 ⟨hb9,z9,b0,b1,b2,f0,f1,f2⟩
   as_aux_lemma=>
    go_wp2_with fail
    refine bodyPost_ret (v:=(.tuple #[.string ⟨#[]⟩,.agg #[.int .u8 0,.int .i64 0,.slice none 0 0],.int .i64 0,.int .i64 1])) (by first|(simp [results,Tryz.f14,go_sem];done)|(simp [results,Tryz.f14,go_sem, *];done)) rfl ?_
    exact ⟨rfl,Below.r⟩
set_option maxRecDepth 100000 in
set_option maxHeartbeats 16000000 in
theorem shrink_e4 (t:GT) (p:GP) (u:ByteArray) (w:World) (A A2:Nat→Prop) (m:TA) (mp:PA) (ox:okT t) (hs:sizeT t≤1099511627776) (hl:RT w A t m) (op:okP p) (hp:sizeP p≤1099511627776) (hr:RP w A2 p mp) (hus:u.size≤9223372036854775807) (h1':(runE t u != 0)=false) (h2':((checkPE p).2 != 0)=false) (hmay:mayP p=true) (s:ByteArray) (vk vn:Int) (vl:List GV) (hq:failT t p u=some (s,⟨vk,vn,vl⟩)) (hsu:(s.toList==u.toList)=false):
  Calls Tryz.prog 14 #[TV t m,PV p mp,.string u] w fun e w'=>e=.returned (.tuple #[.string ⟨#[]⟩,.agg #[.int .u8 0,.int .i64 0,.slice none 0 0],.int .i64 0,.int .i64 1])∧Below w.heap.size w w':=by
 obtain ⟨ma,mb,mc,md,me,mf,mg,mh,mi,mj,mk,ml⟩:=m
 obtain ⟨na,nb,nc,nd⟩:=mp
 have HL:=hid hl
 have HR:=hid hr
 have OX:=hid ox
 have OP:=hid op
 clear hl hr ox op
 have HQ:=hid hq
 have HM:=hid hmay
 clear hq hmay
 go_enter Tryz.func14,Tryz.ntmps14
 go_upto_region 7 with (first
  | (go_at_call 30;refine (run_err t u _ A ⟨ma,mb,mc,md,me,mf,mg,mh,mi,mj,mk,ml⟩ OX.out hs (by exact RT.ext (Agree.below Below.z) _ _ HL.out) hus).mono ?_;rintro e w1 ⟨hb1,k,v,m,n1,rfl⟩;have hz1:=hb1.size;(try simp at hz1);obtain ⟨hc1,hf1⟩:=bcells hb1;have y0:w.heap.size < w1.heap.size:=(by omega);have y1:w.heap.size+1 < w1.heap.size:=(by omega);have y2:w.heap.size+2 < w1.heap.size:=(by omega))
  | (go_at_call 46;refine (checkP_any p _ A2 ⟨na,nb,nc,nd⟩ OP.out hp (by exact RP.ext (Agree.below Below.r) _ _ HR.out)).mono ?_;rintro e w2 ⟨rfl,hb2⟩;have hz2:=hb2.size;(try simp at hz2);obtain ⟨hc2,hf2⟩:=bcells hb2;have y3:w.heap.size < w2.heap.size:=(by omega);have y4:w.heap.size+1 < w2.heap.size:=(by omega);have y5:w.heap.size+2 < w2.heap.size:=(by omega);have y6:w1.heap.size < w2.heap.size:=(by omega)))
 refine wp_named (fun W=>Below w.heap.size w W∧w.heap.size+2 < W.heap.size∧Hid (At W w.heap.size 0 [.int .u8 t.k,.int .u8 t.v.k,.int .i64 t.v.n,.slice ma t.v.l.length mb,.slice mc t.vs.length md,.int .i64 t.lo,.int .i64 t.hi,.slice me t.w.length mf,.int .u8 t.p.k,.int .u8 t.p.v.k,.int .i64 t.p.v.n,.slice mg t.p.v.l.length mh,.int .i64 t.p.n,.slice mi t.p.a.length mj,.slice mk t.a.length ml])∧Hid (At W (w.heap.size+1) 0 [.int .u8 p.k,.int .u8 p.v.k,.int .i64 p.v.n,.slice na p.v.l.length nb,.int .i64 p.n,.slice nc p.a.length nd])∧W.cell? ⟨w.heap.size+2,0,none⟩=some (.int .u8 0)∧W.cell? ⟨w.heap.size+2,1,none⟩=some (.int .i64 0)∧W.cell? ⟨w.heap.size+2,2,none⟩=some (.slice none 0 0)∧W.frozen? ⟨w.heap.size+2,0,none⟩=false∧W.frozen? ⟨w.heap.size+2,1,none⟩=false∧W.frozen? ⟨w.heap.size+2,2,none⟩=false) ⟨Below.r,by omega,hid (At15z.2 ⟨by go_simp,by go_simp,by go_simp,by go_simp,by go_simp,by go_simp,by go_simp,by go_simp,by go_simp,by go_simp,by go_simp,by go_simp,by go_simp,by go_simp,by go_simp⟩),hid (At6z.2 ⟨by go_simp,by go_simp,by go_simp,by go_simp,by go_simp,by go_simp⟩),by go_simp,by go_simp,by go_simp,by go_simp,by go_simp,by go_simp⟩ ?_
 clear hc1 hf1 hc2 hf2 hb1 hb2
 intro W6 ⟨hb6,z6,HA5,HA6,b0,b1,b2,f0,f1,f2⟩
 simp only [Nat.add_assoc,Nat.reduceAdd]
 have HT5:=hid (show W6.rangeAt w.heap.size 0 _ from At_cellM HA5.out)
 have HT6:=hid (show W6.rangeAt (w.heap.size+1) 0 _ from At_cellM HA6.out)
 as_aux_lemma=>
  go_upto_region 8 with (first
   | (refine wpList_load_mid rfl 31 _ rfl w.heap.size 0 (by rfl) [.int .u8 t.k,.int .u8 t.v.k,.int .i64 t.v.n,.slice ma t.v.l.length mb,.slice mc t.vs.length md,.int .i64 t.lo,.int .i64 t.hi,.slice me t.w.length mf,.int .u8 t.p.k,.int .u8 t.p.v.k,.int .i64 t.p.v.n,.slice mg t.p.v.l.length mh,.int .i64 t.p.n,.slice mi t.p.a.length mj,.slice mk t.a.length ml] _ HT5.out Tryz.underlying31 rfl (by kernel_rfl) ?_)
   | (refine wpList_load_mid rfl 28 _ rfl (w.heap.size+1) 0 (by rfl) [.int .u8 p.k,.int .u8 p.v.k,.int .i64 p.v.n,.slice na p.v.l.length nb,.int .i64 p.n,.slice nc p.a.length nd] _ HT6.out Tryz.underlying28 rfl (by kernel_rfl) ?_)
   | (refine wpList_buildM rfl rfl (bA t ⟨ma,mb,mc,md,me,mf,mg,mh,mi,mj,mk,ml⟩ p ⟨na,nb,nc,nd⟩) (by simp [Act.eval,Act.put]) ?_)
   | (refine wpList_store_newM rfl 87 _ _ rfl _ _ (by rfl) (by rfl) (by kernel_rfl) (by rfl) (by simp [Value.oneCell']) ?_))
  refine wp_named (fun W=>Below w.heap.size w W∧W.heap.size=W6.heap.size+1∧Hid (At W W6.heap.size 0 (avL t ⟨ma,mb,mc,md,me,mf,mg,mh,mi,mj,mk,ml⟩ p ⟨na,nb,nc,nd⟩))∧W.cell? ⟨w.heap.size+2,0,none⟩=some (.int .u8 0)∧W.cell? ⟨w.heap.size+2,1,none⟩=some (.int .i64 0)∧W.cell? ⟨w.heap.size+2,2,none⟩=some (.slice none 0 0)∧W.frozen? ⟨w.heap.size+2,0,none⟩=false∧W.frozen? ⟨w.heap.size+2,1,none⟩=false∧W.frozen? ⟨w.heap.size+2,2,none⟩=false) ⟨Below.r,by simp,hid (At_whole rfl),by go_simp,by go_simp,by go_simp,by go_simp,by go_simp,by go_simp⟩ ?_
  clear HT5 HT6 HA5 HA6 b0 b1 b2 f0 f1 f2 hb6
  intro W7 ⟨hb7,hz7,HA7,b0,b1,b2,f0,f1,f2⟩
  have HAT:=hid (show W7.rangeAt W6.heap.size 0 _ from At_cellM HA7.out)
  as_aux_lemma=>
   go_upto_region 9 with (first
    | (refine wpList_load_mid rfl 87 _ rfl W6.heap.size 0 (by rfl) (avL t ⟨ma,mb,mc,md,me,mf,mg,mh,mi,mj,mk,ml⟩ p ⟨na,nb,nc,nd⟩) _ HAT.out Tryz.underlying87 rfl (by kernel_rfl) ?_)
    | (go_at_call 47;(refine (fails_any t p u _ A A2 ⟨ma,mb,mc,md,me,mf,mg,mh,mi,mj,mk,ml⟩ ⟨na,nb,nc,nd⟩ OX.out hs (by exact RT.ext (Agree.below hb7) _ _ HL.out) OP.out hp (by exact RP.ext (Agree.below hb7) _ _ HR.out) hus HM.out).mono ?_);rw [HQ.out];rintro e w3 ⟨hb3,⟨xa,xc⟩,rfl,hrv⟩;clear hrv;have hz3:=hb3.size;(try simp at hz3);obtain ⟨hc3,hf3⟩:=bcells hb3;have y7:w.heap.size+2 < w3.heap.size:=(by omega);have y8:w.heap.size+2 < W7.heap.size:=(by omega);have y9:w.heap.size+2 < W6.heap.size+1:=(by omega)))
   refine wp_named (fun W=>Below w.heap.size w W∧w.heap.size+2 < W.heap.size∧W.cell? ⟨w.heap.size+2,0,none⟩=some (.int .u8 vk)∧W.cell? ⟨w.heap.size+2,1,none⟩=some (.int .i64 vn)∧W.cell? ⟨w.heap.size+2,2,none⟩=some (.slice xa vl.length xc)∧W.frozen? ⟨w.heap.size+2,0,none⟩=false∧W.frozen? ⟨w.heap.size+2,1,none⟩=false∧W.frozen? ⟨w.heap.size+2,2,none⟩=false) ⟨Below.r,by simp;omega,by go_simp,by go_simp,by go_simp,by go_simp,by go_simp,by go_simp⟩ ?_
   clear hc3 hf3 HAT HA7 b0 b1 b2 f0 f1 f2 hb3 hb7 y7 y8
   intro W9 ⟨hb9,z9,b0,b1,b2,f0,f1,f2⟩
   as_aux_lemma=>
    go_wp2_with fail
    refine bodyPost_ret (v:=(.tuple #[.string ⟨#[]⟩,.agg #[.int .u8 0,.int .i64 0,.slice none 0 0],.int .i64 0,.int .i64 1])) (by first|(simp [results,Tryz.f14,go_sem];done)|(simp [results,Tryz.f14,go_sem, *];done)) rfl ?_
    exact ⟨rfl,Below.r⟩
theorem shrink_err (t:GT) (p:GP) (u:ByteArray) (w:World) (A A2:Nat→Prop) (m:TA) (mp:PA) (ox:okT t) (hs:sizeT t≤1099511627776) (hl:RT w A t m) (op:okP p) (hp:sizeP p≤1099511627776) (hr:RP w A2 p mp) (hus:u.size≤9223372036854775807) (hE:shrE t p u≠0):
  Calls Tryz.prog 14 #[TV t m,PV p mp,.string u] w fun e w'=>e=.returned (.tuple #[.string ⟨#[]⟩,.agg #[.int .u8 0,.int .i64 0,.slice none 0 0],.int .i64 0,.int .i64 (shrE t p u)])∧Below w.heap.size w w':=by
 by_cases h1:runE t u=0
 case neg=>
  have hv:shrE t p u=runE t u:=by unfold shrE;rw [if_pos h1]
  rw [hv]
  exact shrink_e1 t p u w A A2 m mp ox hs hl op hp hr hus (by simp [h1])
 by_cases h2:(checkPE p).2=0
 case neg=>
  have hv:shrE t p u=(checkPE p).2:=by unfold shrE;rw [if_neg (by simp [h1]),if_pos h2]
  rw [hv]
  exact shrink_e2 t p u w A A2 m mp ox hs hl op hp hr hus (by simp [h1]) (by simp [h2])
 cases hq:failT t p u with
 | none=>
  have hv:shrE t p u=1:=by unfold shrE;rw [if_neg (by simp [h1]),if_neg (by simp [h2]),hq]
  rw [hv]
  exact shrink_e3 t p u w A A2 m mp ox hs hl op hp hr hus (by simp [h1]) (by simp [h2]) (may_iff.2 h2) hq
 | some r=>
  obtain ⟨s,vk,vn,vl⟩:=r
  have hsu:¬s=u:=fun e=>hE (by unfold shrE;rw [if_neg (by simp [h1]),if_neg (by simp [h2]),hq];simp [e])
  have hv:shrE t p u=1:=by unfold shrE;rw [if_neg (by simp [h1]),if_neg (by simp [h2]),hq];simp [hsu]
  rw [hv]
  exact shrink_e4 t p u w A A2 m mp ox hs hl op hp hr hus (by simp [h1]) (by simp [h2]) (may_iff.2 h2) s vk vn vl hq (strNe hsu)
set_option maxRecDepth 100000 in
set_option maxHeartbeats 32000000 in
theorem shrink_ok (t:GT) (p:GP) (u:ByteArray) (w:World) (A A2:Nat→Prop) (m:TA) (mp:PA) (ox:okT t) (hs:sizeT t≤1099511627776) (hl:RT w A t m) (op:okP p) (hp:sizeP p≤1099511627776) (hr:RP w A2 p mp) (hE:shrE t p u=0) (v:GV) (hF:failT t p u=some (u,v)) (hG:GW w):
  Calls Tryz.prog 14 #[TV t m,PV p mp,.string u] w fun e w'=>Below w.heap.size w w'∧∃my:VA,e=.returned (.tuple #[.string (shrT t p 1024 u v 0).1,VV (shrT t p 1024 u v 0).2.1 my,.int .i64 (shrT t p 1024 u v 0).2.2,.int .i64 0])∧RV w' (fun b=>w.heap.size≤b) (shrT t p 1024 u v 0).2.1 my.a:=by
 obtain ⟨h1,h2, -⟩:=shrE_zero hE
 have hub:=(runE_bits h1).2
 have hus:u.size≤9223372036854775807:=by have:=bits_le hub;omega
 have hmay:mayP p=true:=may_iff.2 h2
 have h1':(runE t u != 0)=false:=by simp [h1]
 have h2':((checkPE p).2 != 0)=false:=by simp [h2]
 have hsu:(u.toList==u.toList)=true:=beq_self_eq_true _
 obtain ⟨ma,mb,mc,md,me,mf,mg,mh,mi,mj,mk,ml⟩:=m
 obtain ⟨na,nb,nc,nd⟩:=mp
 have HL:=hid hl
 have HR:=hid hr
 have OX:=hid ox
 have OP:=hid op
 clear hl hr ox op
 have HQ:=hid hF
 have HG:=hid hG
 have HB:=hid hub
 have HM:=hid hmay
 obtain ⟨vk,vn,vl⟩:=v
 generalize hT:shrT t p 1024 u ⟨vk,vn,vl⟩ 0=T
 have HT:=hid hT
 obtain ⟨s,⟨yk,yn,yl⟩,n⟩:=T
 clear hF hG hub hmay hT hE h1 h2
 go_enter Tryz.func14,Tryz.ntmps14
 go_upto_region 7 with (first
  | (go_at_call 30;refine (run_err t u _ A ⟨ma,mb,mc,md,me,mf,mg,mh,mi,mj,mk,ml⟩ OX.out hs (by exact RT.ext (Agree.below Below.z) _ _ HL.out) hus).mono ?_;rintro e w1 ⟨hb1,k,v,m,n1,rfl⟩;have hz1:=hb1.size;(try simp at hz1);obtain ⟨hc1,hf1⟩:=bcells hb1;have y0:w.heap.size < w1.heap.size:=(by omega);have y1:w.heap.size+1 < w1.heap.size:=(by omega);have y2:w.heap.size+2 < w1.heap.size:=(by omega))
  | (go_at_call 46;refine (checkP_any p _ A2 ⟨na,nb,nc,nd⟩ OP.out hp (by exact RP.ext (Agree.below Below.r) _ _ HR.out)).mono ?_;rintro e w2 ⟨rfl,hb2⟩;have hz2:=hb2.size;(try simp at hz2);obtain ⟨hc2,hf2⟩:=bcells hb2;have y3:w.heap.size < w2.heap.size:=(by omega);have y4:w.heap.size+1 < w2.heap.size:=(by omega);have y5:w.heap.size+2 < w2.heap.size:=(by omega);have y6:w1.heap.size < w2.heap.size:=(by omega)))
 refine wp_named (fun W=>Below w.heap.size w W∧w.heap.size+2 < W.heap.size∧Hid (At W w.heap.size 0 [.int .u8 t.k,.int .u8 t.v.k,.int .i64 t.v.n,.slice ma t.v.l.length mb,.slice mc t.vs.length md,.int .i64 t.lo,.int .i64 t.hi,.slice me t.w.length mf,.int .u8 t.p.k,.int .u8 t.p.v.k,.int .i64 t.p.v.n,.slice mg t.p.v.l.length mh,.int .i64 t.p.n,.slice mi t.p.a.length mj,.slice mk t.a.length ml])∧Hid (At W (w.heap.size+1) 0 [.int .u8 p.k,.int .u8 p.v.k,.int .i64 p.v.n,.slice na p.v.l.length nb,.int .i64 p.n,.slice nc p.a.length nd])∧W.cell? ⟨w.heap.size+2,0,none⟩=some (.int .u8 0)∧W.cell? ⟨w.heap.size+2,1,none⟩=some (.int .i64 0)∧W.cell? ⟨w.heap.size+2,2,none⟩=some (.slice none 0 0)∧W.frozen? ⟨w.heap.size+2,0,none⟩=false∧W.frozen? ⟨w.heap.size+2,1,none⟩=false∧W.frozen? ⟨w.heap.size+2,2,none⟩=false) ⟨Below.r,by omega,hid (At15z.2 ⟨by go_simp,by go_simp,by go_simp,by go_simp,by go_simp,by go_simp,by go_simp,by go_simp,by go_simp,by go_simp,by go_simp,by go_simp,by go_simp,by go_simp,by go_simp⟩),hid (At6z.2 ⟨by go_simp,by go_simp,by go_simp,by go_simp,by go_simp,by go_simp⟩),by go_simp,by go_simp,by go_simp,by go_simp,by go_simp,by go_simp⟩ ?_
 clear hc1 hf1 hc2 hf2 hb1 hb2
 intro W6 ⟨hb6,z6,HA5,HA6,b0,b1,b2,f0,f1,f2⟩
 simp only [Nat.add_assoc,Nat.reduceAdd]
 have HT5:=hid (show W6.rangeAt w.heap.size 0 _ from At_cellM HA5.out)
 have HT6:=hid (show W6.rangeAt (w.heap.size+1) 0 _ from At_cellM HA6.out)
 as_aux_lemma=>
  go_upto_region 8 with (first
   | (refine wpList_load_mid rfl 31 _ rfl w.heap.size 0 (by rfl) [.int .u8 t.k,.int .u8 t.v.k,.int .i64 t.v.n,.slice ma t.v.l.length mb,.slice mc t.vs.length md,.int .i64 t.lo,.int .i64 t.hi,.slice me t.w.length mf,.int .u8 t.p.k,.int .u8 t.p.v.k,.int .i64 t.p.v.n,.slice mg t.p.v.l.length mh,.int .i64 t.p.n,.slice mi t.p.a.length mj,.slice mk t.a.length ml] _ HT5.out Tryz.underlying31 rfl (by kernel_rfl) ?_)
   | (refine wpList_load_mid rfl 28 _ rfl (w.heap.size+1) 0 (by rfl) [.int .u8 p.k,.int .u8 p.v.k,.int .i64 p.v.n,.slice na p.v.l.length nb,.int .i64 p.n,.slice nc p.a.length nd] _ HT6.out Tryz.underlying28 rfl (by kernel_rfl) ?_)
   | (refine wpList_buildM rfl rfl (bA t ⟨ma,mb,mc,md,me,mf,mg,mh,mi,mj,mk,ml⟩ p ⟨na,nb,nc,nd⟩) (by simp [Act.eval,Act.put]) ?_)
   | (refine wpList_store_newM rfl 87 _ _ rfl _ _ (by rfl) (by rfl) (by kernel_rfl) (by rfl) (by simp [Value.oneCell']) ?_))
  refine wp_named (fun W=>Below w.heap.size w W∧W.heap.size=W6.heap.size+1∧Hid (At W W6.heap.size 0 (avL t ⟨ma,mb,mc,md,me,mf,mg,mh,mi,mj,mk,ml⟩ p ⟨na,nb,nc,nd⟩))∧W.cell? ⟨w.heap.size+2,0,none⟩=some (.int .u8 0)∧W.cell? ⟨w.heap.size+2,1,none⟩=some (.int .i64 0)∧W.cell? ⟨w.heap.size+2,2,none⟩=some (.slice none 0 0)∧W.frozen? ⟨w.heap.size+2,0,none⟩=false∧W.frozen? ⟨w.heap.size+2,1,none⟩=false∧W.frozen? ⟨w.heap.size+2,2,none⟩=false) ⟨Below.r,by simp,hid (At_whole rfl),by go_simp,by go_simp,by go_simp,by go_simp,by go_simp,by go_simp⟩ ?_
  clear HT5 HT6 HA5 HA6 b0 b1 b2 f0 f1 f2 hb6
  intro W7 ⟨hb7,hz7,HA7,b0,b1,b2,f0,f1,f2⟩
  have HAT:=hid (show W7.rangeAt W6.heap.size 0 _ from At_cellM HA7.out)
  as_aux_lemma=>
   go_upto_region 11 with (first
    | (refine wpList_load_mid rfl 87 _ rfl W6.heap.size 0 (by rfl) (avL t ⟨ma,mb,mc,md,me,mf,mg,mh,mi,mj,mk,ml⟩ p ⟨na,nb,nc,nd⟩) _ HAT.out Tryz.underlying87 rfl (by kernel_rfl) ?_)
    | (go_at_call 47;(refine (fails_any t p u _ A A2 ⟨ma,mb,mc,md,me,mf,mg,mh,mi,mj,mk,ml⟩ ⟨na,nb,nc,nd⟩ OX.out hs (by exact RT.ext (Agree.below hb7) _ _ HL.out) OP.out hp (by exact RP.ext (Agree.below hb7) _ _ HR.out) hus HM.out).mono ?_);rw [HQ.out];rintro e w3 ⟨hb3,⟨xa,xc⟩,rfl,hrv⟩;have HRV:=hid (RV.mono (A':=fun b=>w.heap.size+2+1≤b) (fun b h _=>by omega) _ _ hrv);clear hrv;have hz3:=hb3.size;(try simp at hz3);obtain ⟨hc3,hf3⟩:=bcells hb3;have y7:w.heap.size+2 < w3.heap.size:=(by omega);have y8:w.heap.size+2 < W7.heap.size:=(by omega);have y9:w.heap.size+2 < W6.heap.size+1:=(by omega)))
   refine wp_named (fun W=>Below w.heap.size w W∧W.heap.size=w3.heap.size∧Hid (At W W6.heap.size 0 (avL t ⟨ma,mb,mc,md,me,mf,mg,mh,mi,mj,mk,ml⟩ p ⟨na,nb,nc,nd⟩))∧W.cell? ⟨w.heap.size+2,0,none⟩=some (.int .u8 vk)∧W.cell? ⟨w.heap.size+2,1,none⟩=some (.int .i64 vn)∧W.cell? ⟨w.heap.size+2,2,none⟩=some (.slice xa vl.length xc) ∧
    W.frozen? ⟨w.heap.size+2,0,none⟩=false∧W.frozen? ⟨w.heap.size+2,1,none⟩=false∧W.frozen? ⟨w.heap.size+2,2,none⟩=false∧Hid (RV W (fun b=>w.heap.size+2+1≤b) ⟨vk,vn,vl⟩ xa)) ⟨Below.r,by simp,hid (At.ext (agree_set3 _ _ _) (by omega) _ _ (At.ext (A:=fun _=>True) (Agree.below hb3) trivial _ _ HA7.out)),by go_simp,by go_simp,by go_simp,by go_simp,by go_simp,by go_simp,hid (RV.ext (agree_set3 _ _ _) _ _ HRV.out)⟩ ?_
   clear hc3 hf3 HAT HA7 b0 b1 b2 f0 f1 f2 HRV
   intro W8 ⟨hb8,hz8,HA8,b0,b1,b2,f0,f1,f2,HRV⟩
   have HAT:=hid (show W8.rangeAt W6.heap.size 0 _ from At_cellM HA8.out)
   as_aux_lemma=>
    go_upto_region 12 with (first
     | (refine wpList_load_mid rfl 87 _ rfl W6.heap.size 0 (by rfl) (avL t ⟨ma,mb,mc,md,me,mf,mg,mh,mi,mj,mk,ml⟩ p ⟨na,nb,nc,nd⟩) _ HAT.out Tryz.underlying87 rfl (by kernel_rfl) ?_)
     | (go_at_call 48;(refine (shrinkA_any t p u ⟨vk,vn,vl⟩ _ A A2 (fun b=>w.heap.size+2+1≤b) ⟨ma,mb,mc,md,me,mf,mg,mh,mi,mj,mk,ml⟩ ⟨na,nb,nc,nd⟩ ⟨xa,xc⟩ OX.out hs (by exact RT.ext (Agree.below hb8) _ _ HL.out) OP.out hp (by exact RP.ext (Agree.below hb8) _ _ HR.out) HM.out HB.out (by exact HRV.out) (HG.out.below hb8)).mono ?_);rw [HT.out];rintro e w4 ⟨hb4,⟨za,zc⟩,rfl,hry⟩;have HRY:=hid hry;clear hry;have hz4:=hb4.size;(try simp at hz4);obtain ⟨hc4,hf4⟩:=bcells hb4;have z0:w.heap.size+2 < w4.heap.size:=(by omega);have z1:w.heap.size+2 < W8.heap.size:=(by omega)))
    refine wp_named (fun W=>Below w.heap.size w W∧W.heap.size=w4.heap.size∧W.cell? ⟨w.heap.size+2,0,none⟩=some (.int .u8 yk)∧W.cell? ⟨w.heap.size+2,1,none⟩=some (.int .i64 yn)∧W.cell? ⟨w.heap.size+2,2,none⟩=some (.slice za yl.length zc) ∧
     W.frozen? ⟨w.heap.size+2,0,none⟩=false∧W.frozen? ⟨w.heap.size+2,1,none⟩=false∧W.frozen? ⟨w.heap.size+2,2,none⟩=false∧Hid (RV W (fun b=>w.heap.size+2+1≤b) ⟨yk,yn,yl⟩ za)) ⟨Below.r,by simp,by go_simp,by go_simp,by go_simp,by go_simp,by go_simp,by go_simp,hid (RV.ext (agree_set3 _ _ _) _ _ (RV.mono (fun b h _=>by rcases h with h|h;exact h;omega) _ _ HRY.out))⟩ ?_
    clear hc4 hf4 HAT HA8 b0 b1 b2 f0 f1 f2 HRV HRY
    intro W9 ⟨hb9,hz9,b0,b1,b2,f0,f1,f2,HRV⟩
    have z2:w.heap.size+2 < W9.heap.size:=by omega
    as_aux_lemma=>
     go_region_held3 (fun W=>W.cell? ⟨w.heap.size+2,0,none⟩=some (.int .u8 yk)∧W.cell? ⟨w.heap.size+2,1,none⟩=some (.int .i64 yn)∧W.cell? ⟨w.heap.size+2,2,none⟩=some (.slice za yl.length zc)) ((refine ⟨?_,?_,?_⟩<;>(first|assumption|go_simp))) ((fail))
     all_goals go_wp2_with fail
     all_goals refine bodyPost_ret (v:=(.tuple #[.string s,VV ⟨yk,yn,yl⟩ ⟨za,zc⟩,.int .i64 n,.int .i64 0])) (by first|(simp [results,Tryz.f14,go_sem];done)|(simp [results,Tryz.f14,go_sem, *];done)) rfl ?_
     all_goals exact ⟨Below.r,⟨za,zc⟩,rfl,RV.mono (A:=fun b=>w.heap.size+2+1≤b) (fun b h _=>by omega) _ _ (RV.ext ((agree_set3 _ _ _).trans (Agree.below (Below.drew (Below.refl _ _)))) _ _ HRV.out)⟩
abbrev PVr (r:RepT) (m:VA):Value:=.agg #[.int .u8 r.e,.int .i64 r.n,.int .i64 r.s,.string r.u,.int .u8 r.v.k,.int .i64 r.v.n,.slice m.a r.v.l.length m.c]
theorem repT_no {t:GT} {p:GP} {w:ByteArray} {N:Nat} (h:(cutT w t p N 0).2≠1):repT t p w N=⟨(cutT w t p N 0).2,(cutT w t p N 0).1.length,0,ByteArray.empty,⟨0,0,[]⟩⟩:=by
 unfold repT
 have h1:((cutT w t p N 0).2==1)=false:=by simp [h]
 rw [h1]
 cases (cutT w t p N 0).1.getLast? <;>rfl
theorem repT_one {t:GT} {p:GP} {w:ByteArray} {N:Nat} {r:GR} (h:(cutT w t p N 0).2=1) (hl:(cutT w t p N 0).1.getLast? =some r):repT t p w N=⟨1,(cutT w t p N 0).1.length,(shrT t p 1024 (bitsR w r) r.v 0).2.2,(shrT t p 1024 (bitsR w r) r.v 0).1,(shrT t p 1024 (bitsR w r) r.v 0).2.1⟩:=by
 unfold repT
 rw [hl,h]
 rfl
set_option maxRecDepth 100000 in
set_option maxHeartbeats 16000000 in
theorem crun_err (t:GT) (p:GP) (s:ByteArray) (n:Int) (w:World) (A A2:Nat→Prop) (m:TA) (mp:PA) (ox:okT t) (hs:sizeT t≤1099511627776) (hl:RT w A t m) (op:okP p) (hp:sizeP p≤1099511627776) (hr:RP w A2 p mp) (hss:s.size≤9223372036854775807) (hE:cutE t p s n≠0):
  Calls Tryz.prog 18 #[TV t m,PV p mp,.string s,.int .i64 n] w fun e w'=>e=.returned (.tuple #[.agg #[.int .u8 0,.int .i64 0,.int .i64 0,.string ⟨#[]⟩,.int .u8 0,.int .i64 0,.slice none 0 0],.int .i64 (cutE t p s n)])∧Below w.heap.size w w':=by
 obtain ⟨ma,mb,mc,md,me,mf,mg,mh,mi,mj,mk,ml⟩:=m
 obtain ⟨na,nb,nc,nd⟩:=mp
 have HL:=hid hl
 have HR:=hid hr
 have OX:=hid ox
 have OP:=hid op
 have HE:=hid hE
 have h1':(cutE t p s n != 0)=true:=by simp [hE]
 clear hl hr ox op hE
 go_enter Tryz.func18,Tryz.ntmps18
 go_wp2_with (go_at_call 34;refine (cut_err t p s n _ A A2 ⟨ma,mb,mc,md,me,mf,mg,mh,mi,mj,mk,ml⟩ ⟨na,nb,nc,nd⟩ OX.out hs (by exact RT.ext (Agree.below Below.z) _ _ HL.out) OP.out hp (by exact RP.ext (Agree.below Below.z) _ _ HR.out) hss HE.out).mono ?_;rintro e w1 ⟨rfl,hb1⟩;have hz1:=hb1.size;(try simp at hz1);obtain ⟨hc1,hf1⟩:=bcells hb1;have y0:w.heap.size < w1.heap.size:=(by omega);have y1:w.heap.size+1 < w1.heap.size:=(by omega);have y2:w.heap.size+2 < w1.heap.size:=(by omega))
 refine bodyPost_ret (v:=(.tuple #[.agg #[.int .u8 0,.int .i64 0,.int .i64 0,.string ⟨#[]⟩,.int .u8 0,.int .i64 0,.slice none 0 0],.int .i64 (cutE t p s n)])) (by first|(simp [results,Tryz.f18,go_sem];done)|(simp [results,Tryz.f18,go_sem, *];done)) rfl ?_
 exact ⟨rfl,Below.r⟩
set_option maxRecDepth 100000 in
set_option maxHeartbeats 16000000 in
theorem crun_no (t:GT) (p:GP) (s:ByteArray) (N:Nat) (w:World) (A A2:Nat→Prop) (m:TA) (mp:PA) (ox:okT t) (hs:sizeT t≤1099511627776) (hl:RT w A t m) (op:okP p) (hp:sizeP p≤1099511627776) (hr:RP w A2 p mp) (hE:cutE t p s N=0) (hne:(cutT s t p N 0).2≠1):
  Calls Tryz.prog 18 #[TV t m,PV p mp,.string s,.int .i64 N] w fun e w'=>Below w.heap.size w w'∧∃my:VA,e=.returned (.tuple #[PVr (repT t p s N) my,.int .i64 0])∧RV w' (fun b=>w.heap.size≤b) (repT t p s N).v my.a:=by
 obtain ⟨ma,mb,mc,md,me,mf,mg,mh,mi,mj,mk,ml⟩:=m
 obtain ⟨na,nb,nc,nd⟩:=mp
 rw [repT_no hne]
 have h1:((cutT s t p N 0).2==1)=false:=by simp [hne]
 have HL:=hid hl
 have HR:=hid hr
 have OX:=hid ox
 have OP:=hid op
 have HE:=hid hE
 clear hl hr ox op hE hne
 generalize hR:cutT s t p N 0=R at *
 obtain ⟨l,K⟩:=R
 have HQ:=hid hR
 clear hR
 dsimp only at h1 ⊢
 go_enter Tryz.func18,Tryz.ntmps18
 go_wp2_with (go_at_call 34;refine (cut_ok t p s N _ A A2 ⟨ma,mb,mc,md,me,mf,mg,mh,mi,mj,mk,ml⟩ ⟨na,nb,nc,nd⟩ OX.out hs (by exact RT.ext (Agree.below Below.z) _ _ HL.out) OP.out hp (by exact RP.ext (Agree.below Below.z) _ _ HR.out) HE.out).mono ?_;rw [HQ.out];rintro e w1 ⟨hb1,a,c,rfl,hrr⟩;clear hrr;have hz1:=hb1.size;(try simp at hz1);obtain ⟨hc1,hf1⟩:=bcells hb1;have y0:w.heap.size < w1.heap.size:=(by omega);have y1:w.heap.size+1 < w1.heap.size:=(by omega);have y2:w.heap.size+2 < w1.heap.size:=(by omega))
 refine bodyPost_ret (v:=(.tuple #[.agg #[.int .u8 K,.int .i64 l.length,.int .i64 0,.string ⟨#[]⟩,.int .u8 0,.int .i64 0,.slice none 0 0],.int .i64 0])) (by first|(simp [results,Tryz.f18,go_sem];done)|(simp [results,Tryz.f18,go_sem, *];done)) rfl ?_
 exact ⟨Below.r,⟨none,0⟩,rfl,by simp [RV,RVs]⟩
set_option maxRecDepth 100000 in
set_option maxHeartbeats 4000000 in
theorem rsame_self (r:RepT) (w:World) (A A':Nat→Prop) (m m':VA) (ox:okV r.v) (hs:sizeV r.v≤1099511627776) (h1:RV w A r.v m.a) (h2:RV w A' r.v m'.a):
  Calls Tryz.prog 19 #[PVr r m,PVr r m'] w fun e w'=>e=.returned (.bool true)∧Below w.heap.size w w':=by
 obtain ⟨re,rn,rs,ru,rv⟩:=r
 obtain ⟨ma,mc⟩:=m
 obtain ⟨na,nc⟩:=m'
 have H1:=hid h1
 have H2:=hid h2
 have OX:=hid ox
 have HS:=hid (sameV_self rv)
 clear h1 h2 ox
 go_enter Tryz.func19,Tryz.ntmps19
 go_wp2_with (go_at_call 15;refine (r14same_any (sizeV rv) rv rv _ A A' ⟨ma,mc⟩ ⟨na,nc⟩ (Nat.le_refl _) OX.out OX.out (by exact RV_iff.1 (RV.ext (Agree.below Below.z) _ _ H1.out)) (by exact RV_iff.1 (RV.ext (Agree.below Below.z) _ _ H2.out))).mono ?_;rw [HS.out];rintro e w1 ⟨rfl,hb1⟩)
 go_ret
 exact ⟨rfl,Below.r⟩
set_option maxRecDepth 100000 in
set_option maxHeartbeats 4000000 in
theorem shrinks_any {t:GT} {p:GP} {u:ByteArray} {v:GV} {s:ByteArray} {y:GV} {n:Nat} (h:Sx t p u v s y n) (w:World) (A A2:Nat→Prop) (m:TA) (mp:PA) (ox:okT t) (hs:sizeT t≤1099511627776) (hl:RT w A t m) (op:okP p) (hp:sizeP p≤1099511627776) (hr:RP w A2 p mp) (hG:GW w):
  Calls Tryz.prog 21 #[TV t m,PV p mp,.string u,.string s,.int .i64 n] w fun e w'=>e=.returned (.bool true)∧Below w.heap.size w w':=by
 obtain ⟨h1,h2,h3⟩:=h
 obtain ⟨ma,mb,mc,md,me,mf,mg,mh,mi,mj,mk,ml⟩:=m
 obtain ⟨na,nb,nc,nd⟩:=mp
 have HL:=hid hl
 have HR:=hid hr
 have OX:=hid ox
 have OP:=hid op
 have HG:=hid hG
 have H1:=hid h1
 have H2:=hid h2
 have H3:=hid h3
 clear hl hr ox op hG h1 h2 h3
 go_enter Tryz.func21,Tryz.ntmps21
 go_wp2_with (go_at_call 14;refine (shrink_ok t p u _ A A2 ⟨ma,mb,mc,md,me,mf,mg,mh,mi,mj,mk,ml⟩ ⟨na,nb,nc,nd⟩ OX.out hs (by exact RT.ext (Agree.below Below.z) _ _ HL.out) OP.out hp (by exact RP.ext (Agree.below Below.z) _ _ HR.out) H1.out v H2.out (by exact HG.out.below Below.r)).mono ?_;rw [H3.out];rintro e w1 ⟨hb1,mv,rfl,hrv⟩;clear hrv;have hz1:=hb1.size;(try simp at hz1);obtain ⟨hc1,hf1⟩:=bcells hb1;have y0:w.heap.size < w1.heap.size:=(by omega);have y1:w.heap.size+1 < w1.heap.size:=(by omega))
 go_ret
 exact ⟨rfl,Below.r⟩
set_option maxRecDepth 100000 in
set_option maxHeartbeats 4000000 in
theorem refused_any {t:GT} {p:GP} {u:ByteArray} {k:Int} (h:shrE t p u=k) (hk:k≠0) (w:World) (A A2:Nat→Prop) (m:TA) (mp:PA) (ox:okT t) (hs:sizeT t≤1099511627776) (hl:RT w A t m) (op:okP p) (hp:sizeP p≤1099511627776) (hr:RP w A2 p mp) (hus:u.size≤9223372036854775807):
  Calls Tryz.prog 23 #[TV t m,PV p mp,.string u,.int .i64 k] w fun e w'=>e=.returned (.bool true)∧Below w.heap.size w w':=by
 obtain ⟨ma,mb,mc,md,me,mf,mg,mh,mi,mj,mk,ml⟩:=m
 obtain ⟨na,nb,nc,nd⟩:=mp
 have HL:=hid hl
 have HR:=hid hr
 have OX:=hid ox
 have OP:=hid op
 have HE:=hid (show shrE t p u≠0 by rw [h];exact hk)
 have HK:=hid h
 clear hl hr ox op h
 go_enter Tryz.func23,Tryz.ntmps23
 go_wp2_with (go_at_call 14;refine (shrink_err t p u _ A A2 ⟨ma,mb,mc,md,me,mf,mg,mh,mi,mj,mk,ml⟩ ⟨na,nb,nc,nd⟩ OX.out hs (by exact RT.ext (Agree.below Below.z) _ _ HL.out) OP.out hp (by exact RP.ext (Agree.below Below.z) _ _ HR.out) hus HE.out).mono ?_;rw [HK.out];rintro e w1 ⟨rfl,hb1⟩;have hz1:=hb1.size;(try simp at hz1);obtain ⟨hc1,hf1⟩:=bcells hb1;have y0:w.heap.size < w1.heap.size:=(by omega);have y1:w.heap.size+1 < w1.heap.size:=(by omega))
 go_ret
 exact ⟨rfl,Below.r⟩
set_option maxRecDepth 100000 in
set_option maxHeartbeats 64000000 in
theorem crun_oneA (t:GT) (p:GP) (s:ByteArray) (N:Nat) (w:World) (A A2:Nat→Prop) (m:TA) (mp:PA) (ox:okT t) (hs:sizeT t≤1099511627776) (hl:RT w A t m) (op:okP p) (hp:sizeP p≤1099511627776) (hr:RP w A2 p mp) (hG:GW w) (hE:cutE t p s N=0) (hmay:mayP p=true)
  (l:List GR) (hR:cutT s t p N 0=(l,1)) (j f g:Nat) (hj:l.length=j+1) (hj2:j≤4096) (vk vn:Int) (vl:List GV) (hlj:∀h:j < l.length,l[j]=⟨f,g,⟨vk,vn,vl⟩⟩) (hfg:f≤g) (hgs:g≤s.size) (hbb:isBits (s.extract f g)=true) (x:ByteArray) (yk yn:Int) (yl:List GV) (n:Nat) (hT:shrT t p 1024 (s.extract f g) ⟨vk,vn,vl⟩ 0=(x,⟨yk,yn,yl⟩,n)):
  Calls Tryz.prog 18 #[TV t m,PV p mp,.string s,.int .i64 N] w fun e w'=>Below w.heap.size w w'∧∃my:VA,e=.returned (.tuple #[.agg #[.int .u8 1,.int .i64 ((j:Int)+1),.int .i64 n,.string x,.int .u8 yk,.int .i64 yn,.slice my.a yl.length my.c],.int .i64 0])∧RV w' (fun b=>w.heap.size≤b) ⟨yk,yn,yl⟩ my.a:=by
 obtain ⟨ma,mb,mc,md,me,mf,mg,mh,mi,mj,mk,ml⟩:=m
 obtain ⟨na,nb,nc,nd⟩:=mp
 have HL:=hid hl
 have HR:=hid hr
 have OX:=hid ox
 have OP:=hid op
 have HE:=hid hE
 have HM:=hid hmay
 have HG:=hid hG
 have HQ:=hid hR
 have HB:=hid hbb
 have HT:=hid hT
 have HJ:=hid hj
 have HLJ:=hid hlj
 clear hl hr ox op hE hmay hG hR hbb hT hj hlj
 have hw1:IntKind.i64.wrap ((j:Int)+1 - 1)=(j:Int):=by rw [IntWalk.i64_in _ (by omega)];omega
 have hw2:IntKind.i64.wrap (j:Int)=(j:Int):=IntWalk.i64_in _ (by omega)
 have hjl:(j:Int) < (j:Int)+1:=by omega
 go_enter Tryz.func18,Tryz.ntmps18
 go_upto_region 7 with (go_at_call 34;refine (cut_ok t p s N _ A A2 ⟨ma,mb,mc,md,me,mf,mg,mh,mi,mj,mk,ml⟩ ⟨na,nb,nc,nd⟩ OX.out hs (by exact RT.ext (Agree.below Below.z) _ _ HL.out) OP.out hp (by exact RP.ext (Agree.below Below.z) _ _ HR.out) HE.out).mono ?_;rw [HQ.out];rintro e w1 ⟨hb1,a,c,rfl,hrr⟩;obtain ⟨b,o,⟨xa,xc⟩,rfl,hA,hbs0,g0,gx⟩:=hrr.get j (by rw [HJ.out];omega);rw [HLJ.out] at g0 gx;obtain ⟨k0,k1,k2,k3,k4⟩:=At5.1 g0;have HRV0:=hid gx;clear hrr g0 gx;dsimp only at k0 k1 k2 k3 k4;rw [HJ.out];have hz1:=hb1.size;(try simp at hz1);(try simp at hA);obtain ⟨hc1,hf1⟩:=bcells hb1;have y0:w.heap.size < w1.heap.size:=(by omega);have y1:w.heap.size+1 < w1.heap.size:=(by omega);have y2:w.heap.size+2 < w1.heap.size:=(by omega))
 refine wp_named (fun W=>Below w.heap.size w W∧W.heap.size=w1.heap.size+2∧Hid (At W w.heap.size 0 [.int .u8 t.k,.int .u8 t.v.k,.int .i64 t.v.n,.slice ma t.v.l.length mb,.slice mc t.vs.length md,.int .i64 t.lo,.int .i64 t.hi,.slice me t.w.length mf,.int .u8 t.p.k,.int .u8 t.p.v.k,.int .i64 t.p.v.n,.slice mg t.p.v.l.length mh,.int .i64 t.p.n,.slice mi t.p.a.length mj,.slice mk t.a.length ml])∧Hid (At W (w.heap.size+1) 0 [.int .u8 p.k,.int .u8 p.v.k,.int .i64 p.v.n,.slice na p.v.l.length nb,.int .i64 p.n,.slice nc p.a.length nd]) ∧
  Hid (At W w1.heap.size 0 [.int .u8 1,.int .i64 ((j:Int)+1),.int .i64 0,.string ⟨#[]⟩,.int .u8 0,.int .i64 0,.slice none 0 0])∧Hid (W.there w1.heap.size 0 7)∧Hid (W.there (w.heap.size+2) 0 7) ∧
  W.cell? ⟨w1.heap.size+1,0,none⟩=some (.int .i64 (f:Int))∧W.cell? ⟨w1.heap.size+1,1,none⟩=some (.int .i64 (g:Int))∧W.cell? ⟨w1.heap.size+1,2,none⟩=some (.int .u8 vk)∧W.cell? ⟨w1.heap.size+1,3,none⟩=some (.int .i64 vn)∧W.cell? ⟨w1.heap.size+1,4,none⟩=some (.slice xa vl.length xc)∧Hid (RV W (fun b=>w.heap.size+3≤b∧b < w1.heap.size) ⟨vk,vn,vl⟩ xa))
  ⟨Below.r,by simp,hid (At15z.2 ⟨by go_simp,by go_simp,by go_simp,by go_simp,by go_simp,by go_simp,by go_simp,by go_simp,by go_simp,by go_simp,by go_simp,by go_simp,by go_simp,by go_simp,by go_simp⟩),hid (At6z.2 ⟨by go_simp,by go_simp,by go_simp,by go_simp,by go_simp,by go_simp⟩),
  hid (At7z.2 ⟨by go_simp,by go_simp,by go_simp,by go_simp,by go_simp,by go_simp,by go_simp⟩),hid (there7 (c0:=.int .u8 1) (c1:=.int .i64 ((j:Int)+1)) (c2:=.int .i64 0) (c3:=.string ⟨#[]⟩) (c4:=.int .u8 0) (c5:=.int .i64 0) (c6:=.slice none 0 0) (At7z.2 ⟨by go_simp,by go_simp,by go_simp,by go_simp,by go_simp,by go_simp,by go_simp⟩) (by go_simp) (by go_simp) (by go_simp) (by go_simp) (by go_simp) (by go_simp) (by go_simp)),hid (there7 (c0:=.int .u8 0) (c1:=.int .i64 0) (c2:=.int .i64 0) (c3:=.string ⟨#[]⟩) (c4:=.int .u8 0) (c5:=.int .i64 0) (c6:=.slice none 0 0) (At7z.2 ⟨by go_simp,by go_simp,by go_simp,by go_simp,by go_simp,by go_simp,by go_simp⟩) (by go_simp) (by go_simp) (by go_simp) (by go_simp) (by go_simp) (by go_simp) (by go_simp)),
  by go_simp,by go_simp,by go_simp,by go_simp,by go_simp,hid (RV.ext (Agree.below Below.r) _ _ (RV.mono (fun b h hb=>⟨by simp at h;omega,hb⟩) _ _ HRV0.out))⟩ ?_
 clear hc1 hf1 hb1 k0 k1 k2 k3 k4
 intro W7 ⟨hb7,hz7,HA5,HA6,HA7,HT1,HT2,e0,e1,e2,e3,e4,HRV⟩
 simp only [Nat.add_assoc,Nat.reduceAdd]
 as_aux_lemma=>
  obtain ⟨u0,u1,u2,u3,u4,u5,u6,u7,u8,u9,ua,ub,uc,ud,ue⟩:=At15z.1 HA5.out
  obtain ⟨p0,p1,p2,p3,p4,p5⟩:=At6z.1 HA6.out
  have h1:(f:Int)≤(g:Int):=by omega
  have h2:(g:Int)≤(s.size:Int):=by omega
  have v0:w.heap.size < W7.heap.size:=by omega
  have v1:w.heap.size+1 < W7.heap.size:=by omega
  have v2:w.heap.size+2 < W7.heap.size:=by omega
  have v3:w1.heap.size < W7.heap.size:=by omega
  have v4:w1.heap.size+1 < W7.heap.size:=by omega
  have v5:w.heap.size+2 < w1.heap.size+2:=by omega
  have v6:w.heap.size < w1.heap.size+2:=by omega
  have v7:w.heap.size+1 < w1.heap.size+2:=by omega
  (try dsimp only [List.append])
  refine wp_region_noPanic ?_
  refine wp_region_held_drew (S:=(fun W=>(∀k,W.cell? ⟨w.heap.size,k,none⟩=W7.cell? ⟨w.heap.size,k,none⟩)∧(∀k,W.cell? ⟨w.heap.size+1,k,none⟩=W7.cell? ⟨w.heap.size+1,k,none⟩)∧(∀k,W.cell? ⟨w1.heap.size+1,k,none⟩=W7.cell? ⟨w1.heap.size+1,k,none⟩))) (by kernel_rfl) ?_ (fun hHeld=>?_)
  ·((try dsimp only);(first|(with_reducible exact hHeld)|(exact ⟨fun k=>by simp,fun k=>by simp,fun k=>by simp⟩)|(exact ⟨fun k=>(cellM_set (by omega)).trans (hHeld.1 k),fun k=>(cellM_set (by omega)).trans (hHeld.2.1 k),fun k=>(cellM_set (by omega)).trans (hHeld.2.2 k)⟩)|(exact ⟨fun k=>(hb4.cell (p:=⟨w.heap.size,k,none⟩) (by simp;omega)).trans (hHeld.1 k),fun k=>(hb4.cell (p:=⟨w.heap.size+1,k,none⟩) (by simp;omega)).trans (hHeld.2.1 k),fun k=>(hb4.cell (p:=⟨w1.heap.size+1,k,none⟩) (by simp;omega)).trans (hHeld.2.2 k)⟩)))
  refine tz 0 ?_
  try simp only [Act.put,sl,s0,ss]
  refine tz 1 ?_
  try simp only [Act.put,sl,s0,ss]
  refine tq 2 (v:=(AV t ⟨ma,mb,mc,md,me,mf,mg,mh,mi,mj,mk,ml⟩ p ⟨na,nb,nc,nd⟩)) rfl (yields_build rfl rfl (bA t ⟨ma,mb,mc,md,me,mf,mg,mh,mi,mj,mk,ml⟩ p ⟨na,nb,nc,nd⟩) (by simp [Act.eval])) ?_
  try simp only [Act.put,sl,s0,ss]
  as_aux_lemma=>
   refine tz 3 ?_
   try simp only [Act.put,sl,s0,ss]
   refine tz 4 ?_
   try simp only [Act.put,sl,s0,ss]
   refine tz 5 ?_
   try simp only [Act.put,sl,s0,ss]
   refine tz 6 ?_
   try simp only [Act.put,sl,s0,ss]
   as_aux_lemma=>
    refine tz 7 ?_
    try simp only [Act.put,sl,s0,ss]
    refine tz 8 ?_
    try simp only [Act.put,sl,s0,ss]
    refine tz 9 ?_
    try simp only [Act.put,sl,s0,ss]
    refine tz 10 ?_
    try simp only [Act.put,sl,s0,ss]
    as_aux_lemma=>
     refine wrh1 11 fun K hK=>?_
     go_simp
     go_wp2_with (go_at_call 48;(refine (shrinkA_any t p (s.extract f g) ⟨vk,vn,vl⟩ _ A A2 (fun b=>w.heap.size+3≤b∧b < w1.heap.size) ⟨ma,mb,mc,md,me,mf,mg,mh,mi,mj,mk,ml⟩ ⟨na,nb,nc,nd⟩ ⟨xa,xc⟩ OX.out hs (by exact RT.ext (Agree.below Below.r) _ _ HL.out) OP.out hp (by exact RP.ext (Agree.below Below.r) _ _ HR.out) HM.out HB.out (by exact RV.ext (Agree.below Below.r) _ _ HRV.out) (HG.out.below Below.r)).mono ?_);rw [HT.out];rintro e w4 ⟨hb4,⟨za,zc⟩,rfl,hry⟩;have HRY:=hid (RV.mono (A':=fun b=>(w.heap.size+3≤b∧b < w1.heap.size)∨w1.heap.size+2≤b) (fun b h _=>h.elim Or.inl (fun h=>Or.inr (by (try simp at h);omega))) _ _ hry);clear hry;have hz4:=hb4.size;(try simp at hz4);have HT4:=hid (thereM_below (thereM_drew HT1.out) hb4);have HU4:=hid (thereM_below (thereM_drew HT2.out) hb4);have HR4:=hid (rangeM_below (At_cellM (At_drew HA7.out)) hb4);have HB4:=hid (show Below w.heap.size w w4 from Below.r);clear u0 u1 u2 u3 u4 u5 u6 u7 u8 u9 ua ub uc ud ue p0 p1 p2 p3 p4 p5 e0 e1 e2 e3 e4 h1 h2 hw1 hw2 hjl)
     refine hK.out _ _ ?_ (fun hHeld=>?_)
     ·((try dsimp only);(first|(with_reducible exact hHeld)|(exact ⟨fun k=>by simp,fun k=>by simp,fun k=>by simp⟩)|(exact ⟨fun k=>(cellM_set (by omega)).trans (hHeld.1 k),fun k=>(cellM_set (by omega)).trans (hHeld.2.1 k),fun k=>(cellM_set (by omega)).trans (hHeld.2.2 k)⟩)|(exact ⟨fun k=>(hb4.cell (p:=⟨w.heap.size,k,none⟩) (by simp;omega)).trans (hHeld.1 k),fun k=>(hb4.cell (p:=⟨w.heap.size+1,k,none⟩) (by simp;omega)).trans (hHeld.2.1 k),fun k=>(hb4.cell (p:=⟨w1.heap.size+1,k,none⟩) (by simp;omega)).trans (hHeld.2.2 k)⟩)))
     clear hK K
     refine tz 12 ?_
     try simp only [Act.put,sl,s0,ss]
     refine tz 13 ?_
     try simp only [Act.put,sl,s0,ss]
     refine tz 14 ?_
     try simp only [Act.put,sl,s0,ss]
     as_aux_lemma=>
      refine tz 15 ?_
      try simp only [Act.put,sl,s0,ss]
      refine tz 16 ?_
      try simp only [Act.put,sl,s0,ss]
      refine wrh1 17 fun K hK=>?_
      (rw [if_pos (wanted_none rfl _)];refine wp_store_cs 9 _ _ rfl w1.heap.size 3 (.string x) [.string x] rfl rfl rfl (thereM_sub HT4.out 3 1 (by decide)) (by kernel_rfl) (by simp [Value.oneCell']) ?_;simp only [Act.put,sl,s0,ss])
      refine hK.out _ _ ?_ (fun hHeld=>?_)
      ·((try dsimp only);(first|(with_reducible exact hHeld)|(exact ⟨fun k=>by simp,fun k=>by simp,fun k=>by simp⟩)|(exact ⟨fun k=>(cellM_set (by omega)).trans (hHeld.1 k),fun k=>(cellM_set (by omega)).trans (hHeld.2.1 k),fun k=>(cellM_set (by omega)).trans (hHeld.2.2 k)⟩)|(exact ⟨fun k=>(hb4.cell (p:=⟨w.heap.size,k,none⟩) (by simp;omega)).trans (hHeld.1 k),fun k=>(hb4.cell (p:=⟨w.heap.size+1,k,none⟩) (by simp;omega)).trans (hHeld.2.1 k),fun k=>(hb4.cell (p:=⟨w1.heap.size+1,k,none⟩) (by simp;omega)).trans (hHeld.2.2 k)⟩)))
      clear hK K
      refine tz 18 ?_
      try simp only [Act.put,sl,s0,ss]
      as_aux_lemma=>
       refine wrh1 19 fun K hK=>?_
       (rw [if_pos (wanted_none rfl _)];refine wp_store_cs 24 _ _ rfl w1.heap.size 4 (.agg #[.int .u8 yk,.int .i64 yn,.slice za yl.length zc]) [.int .u8 yk,.int .i64 yn,.slice za yl.length zc] rfl rfl rfl (thereM_sub (World.there_setCells HT4.out _ _ _) 4 3 (by decide)) (by kernel_rfl) (by simp [Value.oneCell']) ?_;simp only [Act.put,sl,s0,ss])
       refine hK.out _ _ ?_ (fun hHeld=>?_)
       ·((try dsimp only);(first|(with_reducible exact hHeld)|(exact ⟨fun k=>by simp,fun k=>by simp,fun k=>by simp⟩)|(exact ⟨fun k=>(cellM_set (by omega)).trans (hHeld.1 k),fun k=>(cellM_set (by omega)).trans (hHeld.2.1 k),fun k=>(cellM_set (by omega)).trans (hHeld.2.2 k)⟩)|(exact ⟨fun k=>(hb4.cell (p:=⟨w.heap.size,k,none⟩) (by simp;omega)).trans (hHeld.1 k),fun k=>(hb4.cell (p:=⟨w.heap.size+1,k,none⟩) (by simp;omega)).trans (hHeld.2.1 k),fun k=>(hb4.cell (p:=⟨w1.heap.size+1,k,none⟩) (by simp;omega)).trans (hHeld.2.2 k)⟩)))
       clear hK K
       refine tz 20 ?_
       try simp only [Act.put,sl,s0,ss]
       refine wrh1 21 fun K hK=>?_
       (rw [if_pos (wanted_none rfl _)];refine wp_store_cs 3 _ _ rfl w1.heap.size 2 (.int .i64 n) [.int .i64 n] rfl rfl rfl (thereM_sub (World.there_setCells (World.there_setCells HT4.out _ _ _) _ _ _) 2 1 (by decide)) (by kernel_rfl) (by simp [Value.oneCell']) ?_;simp only [Act.put,sl,s0,ss])
       refine hK.out _ _ ?_ (fun hHeld=>?_)
       ·((try dsimp only);(first|(with_reducible exact hHeld)|(exact ⟨fun k=>by simp,fun k=>by simp,fun k=>by simp⟩)|(exact ⟨fun k=>(cellM_set (by omega)).trans (hHeld.1 k),fun k=>(cellM_set (by omega)).trans (hHeld.2.1 k),fun k=>(cellM_set (by omega)).trans (hHeld.2.2 k)⟩)|(exact ⟨fun k=>(hb4.cell (p:=⟨w.heap.size,k,none⟩) (by simp;omega)).trans (hHeld.1 k),fun k=>(hb4.cell (p:=⟨w.heap.size+1,k,none⟩) (by simp;omega)).trans (hHeld.2.1 k),fun k=>(hb4.cell (p:=⟨w1.heap.size+1,k,none⟩) (by simp;omega)).trans (hHeld.2.2 k)⟩)))
       clear hK K
       refine wpAnyH_done (by kernel_rfl) ?_ _
       as_aux_lemma=>
        (refine NoPanic.normal ?_;refine then_named (fun W=>Below w.heap.size w W∧W.heap.size=w4.heap.size∧Hid (W.rangeAt w1.heap.size 0 [.int .u8 1,.int .i64 ((j:Int)+1),.int .i64 n,.string x,.int .u8 yk,.int .i64 yn,.slice za yl.length zc])∧Hid (W.there (w.heap.size+2) 0 7)∧Hid (RV W (fun b=>(w.heap.size+3≤b∧b < w1.heap.size)∨w1.heap.size+2≤b) ⟨yk,yn,yl⟩ za)) ⟨belowM_set (by omega) (belowM_set (by omega) (belowM_set (by omega) HB4.out)),by rw [sizeM_set,sizeM_set,sizeM_set],hid (report_set HR4.out HT4.out),hid (World.there_setCells (World.there_setCells (World.there_setCells HU4.out _ _ _) _ _ _) _ _ _),hid (RV.ext ((agreeM_set so).trans ((agreeM_set so).trans (agreeM_set so))) _ _ HRY.out)⟩ ?_;clear HT4 HU4 HR4 HB4 HRY hHeld;intro W9 ⟨hb9,hz9,HR9,HT9,HRY⟩;as_aux_lemma=>(go_wp2_with (first|(refine wpList_load_mid rfl 44 _ rfl w1.heap.size 0 (by rfl) [.int .u8 1,.int .i64 ((j:Int)+1),.int .i64 n,.string x,.int .u8 yk,.int .i64 yn,.slice za yl.length zc] _ HR9.out Tryz.underlying44 rfl (by kernel_rfl) ?_)|(refine wpList_store_mid rfl 44 _ _ rfl (w.heap.size+2) 0 _ rfl rfl HT9.out (by kernel_rfl) (by simp [Value.oneCell']) ?_));refine post_named (fun W=>Below w.heap.size w W∧Hid (At W (w.heap.size+2) 0 [.int .u8 1,.int .i64 ((j:Int)+1),.int .i64 n,.string x,.int .u8 yk,.int .i64 yn,.slice za yl.length zc])∧Hid (RV W (fun b=>(w.heap.size+3≤b∧b < w1.heap.size)∨w1.heap.size+2≤b) ⟨yk,yn,yl⟩ za)) ⟨belowM_set (by omega) hb9,hid (AtM_same HT9.out),hid (RV.ext (agreeM_set so) _ _ HRY.out)⟩ ?_;clear hb9 hz9 HR9 HT9 HRY;intro W10 ⟨hb10,HA10,HRY⟩;obtain ⟨b0,b1,b2,b3,b4,b5,b6⟩:=At7z.1 HA10.out;refine bodyPost_ret (v:=(.tuple #[.agg #[.int .u8 1,.int .i64 ((j:Int)+1),.int .i64 n,.string x,.int .u8 yk,.int .i64 yn,.slice za yl.length zc],.int .i64 0])) (by simp [results,Tryz.f18,go_sem,b0,b1,b2,b3,b4,b5,b6]) rfl ?_;exact ⟨hb10,⟨za,zc⟩,rfl,RV.mono (A:=fun b=>(w.heap.size+3≤b∧b < w1.heap.size)∨w1.heap.size+2≤b) (fun b h _=>by omega) _ _ HRY.out⟩))
theorem cutE_zero {t:GT} {p:GP} {s:ByteArray} {N:Nat} (h:cutE t p s N=0):runE t s=0∧(checkPE p).2=0∧N≤1000:=by
 unfold cutE at h
 split at h
 ·omega
 ·split at h
  ·omega
  ·split at h
   ·omega
   ·exact ⟨by omega,by omega,by omega⟩
theorem crun_ok (t:GT) (p:GP) (s:ByteArray) (N:Nat) (w:World) (A A2:Nat→Prop) (m:TA) (mp:PA) (ox:okT t) (hs:sizeT t≤1099511627776) (hl:RT w A t m) (op:okP p) (hp:sizeP p≤1099511627776) (hr:RP w A2 p mp) (hG:GW w) (hE:cutE t p s N=0):
  Calls Tryz.prog 18 #[TV t m,PV p mp,.string s,.int .i64 N] w fun e w'=>Below w.heap.size w w'∧∃my:VA,e=.returned (.tuple #[PVr (repT t p s N) my,.int .i64 0])∧RV w' (fun b=>w.heap.size≤b) (repT t p s N).v my.a:=by
 by_cases hne:(cutT s t p N 0).2=1
 ·obtain ⟨h1,h2,h3⟩:=cutE_zero hE
  obtain ⟨r,e1,f,k,e2,e3,e4,e5,e6,e7, -⟩:=cut_last ox h1 hne
  obtain ⟨rf,rt,vk,vn,vl⟩:=r
  dsimp only at e2 e3
  subst e2 e3
  rw [repT_one hne e1]
  rw [e5] at e6 ⊢
  generalize hR:cutT s t p N 0=R at *
  obtain ⟨l,K⟩:=R
  obtain rfl:K=1:=hne
  obtain ⟨hlen, -⟩:=cut_len s t p N 0 l 1 hR
  obtain ⟨ys,rfl⟩:=List.getLast?_eq_some_iff.1 e1
  dsimp only
  generalize hT:shrT t p 1024 (s.extract f (f+k)) ⟨vk,vn,vl⟩ 0=T
  obtain ⟨x,⟨yk,yn,yl⟩,n⟩:=T
  have hlen':(ys++[(⟨(f:Int),((f+k:Nat):Int),⟨vk,vn,vl⟩⟩:GR)]).length=ys.length+1:=by simp
  refine (crun_oneA t p s N w A A2 m mp ox hs hl op hp hr hG hE (may_iff.2 h2) _ hR ys.length f (f+k) hlen' (by rw [hlen'] at hlen;omega) vk vn vl (fun h=>by simp) (by omega) e4 e6 x yk yn yl n hT).mono fun e w' ⟨hb,my,he,hv⟩=>⟨hb,my,?_,hv⟩
  rw [he,hlen']
  rfl
 ·exact crun_no t p s N w A A2 m mp ox hs hl op hp hr hE hne
abbrev RVr (e n s:Int) (u:ByteArray) (k m:Int) (my:VA):Value:=.agg #[.int .u8 e,.int .i64 n,.int .i64 s,.string u,.int .u8 k,.int .i64 m,.slice my.a 0 my.c]
theorem crun_x {t:GT} {p:GP} {s:ByteArray} {N:Nat} {e:Int} {n k:Nat} {u:ByteArray} {vk vn:Int} (h:Rx t p s N ⟨e,n,k,u,⟨vk,vn,[]⟩⟩) (w:World) (A A2:Nat→Prop) (m:TA) (mp:PA) (ox:okT t) (hs:sizeT t≤1099511627776) (hl:RT w A t m) (op:okP p) (hp:sizeP p≤1099511627776) (hr:RP w A2 p mp) (hG:GW w):
  Calls Tryz.prog 18 #[TV t m,PV p mp,.string s,.int .i64 N] w fun q w'=>Below w.heap.size w w'∧∃my:VA,q=.returned (.tuple #[RVr e n k u vk vn my,.int .i64 0]):=by
 obtain ⟨h1,h2⟩:=h
 refine (crun_ok t p s N w A A2 m mp ox hs hl op hp hr hG h1).mono fun q w' ⟨hb,my,hq,hv⟩=>⟨hb,my,?_⟩
 rw [hq,h2]
 rfl
theorem okV_leaf {k n:Int} (h1:isU8 k) (h2:isI64 n):okV ⟨k,n,[]⟩:=okV_iff.2 ⟨h1,h2,by simp,by simp [okVs]⟩
theorem rsame_x (e n s:Nat) (u:ByteArray) (k m:Int) (hk:isU8 k) (hm:isI64 m) (w:World) (my my':VA):
  Calls Tryz.prog 19 #[RVr e n s u k m my,RVr e n s u k m my'] w fun e w'=>e=.returned (.bool true)∧Below w.heap.size w w':=
 rsame_self ⟨e,n,s,u,⟨k,m,[]⟩⟩ w (fun _=>True) (fun _=>True) my my' (okV_leaf hk hm) (by simp [sizeV,sizeVs]) (by simp [RV,RVs]) (by simp [RV,RVs])
end Go.Proofs.YtojjdneicmbfjaaGreatDoor
