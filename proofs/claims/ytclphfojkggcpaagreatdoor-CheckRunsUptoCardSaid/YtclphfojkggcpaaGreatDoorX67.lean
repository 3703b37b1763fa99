/- Part 68. -/
import Derived.Deep.CutRange
import Derived.Test.YtclphfojkggcpaaGreatDoorX61
import Derived.Test.YtclphfojkggcpaaGreatDoorXTk
set_option linter.all false
namespace Go.Proofs.YtclphfojkggcpaaGreatDoor
open Go.Lib (hid)
open Go Go.RowKit Go.Proofs.Tryz
theorem bA (t:GT) (m:TA) (p:GP) (q:PA) (w:World):(Instr.build 65 #[(0,TV t m),(1,PV p q)]).run prog w=.ok (AV t m p q) w:=by
 go_simp
set_option maxRecDepth 100000
set_option maxHeartbeats 16000000
theorem Zhn (t:GT) (p:GP) (u:ByteArray) (w:World) (A A2:Nat→Prop) (m:TA) (mp:PA) (ox:okT t) (hs:Zb t≤1099511627776) (hl:RT w A t m) (op:okP p) (hp:Zm p≤1099511627776) (hr:RP w A2 p mp) (hus:u.size≤9223372036854775807) (h1':(ZP t u != 0)=true):
  Calls prog 8 #[TV t m,PV p mp,.string u] w fun e w'=>e=.returned (.tuple #[.string ⟨#[]⟩,.agg #[.int .u8 0,.int .i64 0,.slice none 0 0],.int .i64 0,.int .i64 (ZP t u)])∧Below w.heap.size w w':=by
 obtain ⟨ma,mb,mc,md,me,mf,mg,mh,mi,mj,mk,ml⟩:=m
 obtain ⟨na,nb,nc,nd⟩:=mp
 have HL:=hid hl
 have HR:=hid hr
 have OX:=hid ox
 have OP:=hid op
 clear hl hr ox op
 go_enter func8,ntmps8
 go_wp2_with (go_at_call 26;refine (Vz t u _ A ⟨ma,mb,mc,md,me,mf,mg,mh,mi,mj,mk,ml⟩ OX.out hs (by exact ZlV az _ _ HL.out) hus).mono ?_;rintro e w1 ⟨hb1,k,v,m,n1,rfl⟩;have hz1:=hb1.size;(try simp at hz1);obtain ⟨hc1,hf1⟩:=Za hb1;have y0:w.heap.size < w1.heap.size:=om;have y1:w.heap.size+1 < w1.heap.size:=om;have y2:w.heap.size+2 < w1.heap.size:=om)
 refine bodyPost_ret (v:=(.tuple #[.string ⟨#[]⟩,.agg #[.int .u8 0,.int .i64 0,.slice none 0 0],.int .i64 0,.int .i64 (ZP t u)])) (by first|(simp [results,Tryz.f8,go_sem];done)|(simp [results,Tryz.f8,go_sem, *];done)) rfl ?_
 exact ⟨rfl,ZlD⟩
theorem Zho (t:GT) (p:GP) (u:ByteArray) (w:World) (A A2:Nat→Prop) (m:TA) (mp:PA) (ox:okT t) (hs:Zb t≤1099511627776) (hl:RT w A t m) (op:okP p) (hp:Zm p≤1099511627776) (hr:RP w A2 p mp) (hus:u.size≤9223372036854775807) (h1':(ZP t u != 0)=false) (h2':((Zw p).2 != 0)=true):
  Calls prog 8 #[TV t m,PV p mp,.string u] w fun e w'=>e=.returned (.tuple #[.string ⟨#[]⟩,.agg #[.int .u8 0,.int .i64 0,.slice none 0 0],.int .i64 0,.int .i64 (Zw p).2])∧Below w.heap.size w w':=by
 obtain ⟨ma,mb,mc,md,me,mf,mg,mh,mi,mj,mk,ml⟩:=m
 obtain ⟨na,nb,nc,nd⟩:=mp
 have HL:=hid hl
 have HR:=hid hr
 have OX:=hid ox
 have OP:=hid op
 clear hl hr ox op
 go_enter func8,ntmps8
 go_wp2_with (first
  | (go_at_call 26;refine (Vz t u _ A ⟨ma,mb,mc,md,me,mf,mg,mh,mi,mj,mk,ml⟩ OX.out hs (by exact ZlV az _ _ HL.out) hus).mono ?_;rintro e w1 ⟨hb1,k,v,m,n1,rfl⟩;have hz1:=hb1.size;(try simp at hz1);obtain ⟨hc1,hf1⟩:=Za hb1;have y0:w.heap.size < w1.heap.size:=om;have y1:w.heap.size+1 < w1.heap.size:=om;have y2:w.heap.size+2 < w1.heap.size:=om)
  | (go_at_call 27;refine (XJ p _ A2 ⟨na,nb,nc,nd⟩ OP.out hp (by exact ZmP ar _ _ HR.out)).mono ?_;rintro e w2 ⟨rfl,hb2⟩;have hz2:=hb2.size;(try simp at hz2);obtain ⟨hc2,hf2⟩:=Za hb2;have y3:w.heap.size < w2.heap.size:=om;have y4:w.heap.size+1 < w2.heap.size:=om;have y5:w.heap.size+2 < w2.heap.size:=om;have y6:w1.heap.size < w2.heap.size:=om))
 refine bodyPost_ret (v:=(.tuple #[.string ⟨#[]⟩,.agg #[.int .u8 0,.int .i64 0,.slice none 0 0],.int .i64 0,.int .i64 (Zw p).2])) (by first|(simp [results,Tryz.f8,go_sem];done)|(simp [results,Tryz.f8,go_sem, *];done)) rfl ?_
 exact ⟨rfl,ZlD⟩
set_option maxRecDepth 512
theorem ZnE {p:Prop} (h:p:=by
 clear hc3 hf3 HAT HA7 b0 b1 b2 f0 f1 f2 hb3 hb7 y7 y8
 intro W9 ⟨hb9,z9,b0,b1,b2,f0,f1,f2⟩
 as_aux_lemma=>
  go_wp2_with fail
  refine bodyPost_ret (v:=(.tuple #[.string ⟨#[]⟩,.agg #[.int .u8 0,.int .i64 0,.slice none 0 0],.int .i64 0,.int .i64 1])) (by first|(simp [results,Tryz.f8,go_sem];done)|(simp [results,Tryz.f8,go_sem, *];done)) rfl ?_
  exact ⟨rfl,ZlD⟩):p:=h
set_option maxRecDepth 100000
theorem Zhp (t:GT) (p:GP) (u:ByteArray) (w:World) (A A2:Nat→Prop) (m:TA) (mp:PA) (ox:okT t) (hs:Zb t≤1099511627776) (hl:RT w A t m) (op:okP p) (hp:Zm p≤1099511627776) (hr:RP w A2 p mp) (hus:u.size≤9223372036854775807) (h1':(ZP t u != 0)=false) (h2':((Zw p).2 != 0)=false) (hmay:Xo p=true) (hq:Yf t p u=none):
  Calls prog 8 #[TV t m,PV p mp,.string u] w fun e w'=>e=.returned (.tuple #[.string ⟨#[]⟩,.agg #[.int .u8 0,.int .i64 0,.slice none 0 0],.int .i64 0,.int .i64 1])∧Below w.heap.size w w':=by
 obtain ⟨ma,mb,mc,md,me,mf,mg,mh,mi,mj,mk,ml⟩:=m
 obtain ⟨na,nb,nc,nd⟩:=mp
 have HL:=hid hl
 have HR:=hid hr
 have OX:=hid ox
 have OP:=hid op
 clear hl hr ox op
 have HQ:=hid hq
 have HM:=hid hmay
 clear hq hmay
 go_enter func8,ntmps8
 go_upto_region 7 with (first
  | (go_at_call 26;refine (Vz t u _ A ⟨ma,mb,mc,md,me,mf,mg,mh,mi,mj,mk,ml⟩ OX.out hs (by exact ZlV az _ _ HL.out) hus).mono ?_;rintro e w1 ⟨hb1,k,v,m,n1,rfl⟩;have hz1:=hb1.size;(try simp at hz1);obtain ⟨hc1,hf1⟩:=Za hb1;have y0:w.heap.size < w1.heap.size:=om;have y1:w.heap.size+1 < w1.heap.size:=om;have y2:w.heap.size+2 < w1.heap.size:=om)
  | (go_at_call 27;refine (XJ p _ A2 ⟨na,nb,nc,nd⟩ OP.out hp (by exact ZmP ar _ _ HR.out)).mono ?_;rintro e w2 ⟨rfl,hb2⟩;have hz2:=hb2.size;(try simp at hz2);obtain ⟨hc2,hf2⟩:=Za hb2;have y3:w.heap.size < w2.heap.size:=om;have y4:w.heap.size+1 < w2.heap.size:=om;have y5:w.heap.size+2 < w2.heap.size:=om;have y6:w1.heap.size < w2.heap.size:=om))
 refine ZT (fun W=>Below w.heap.size w W∧w.heap.size+2 < W.heap.size∧Hid (At W w.heap.size 0 [.int .u8 t.k,.int .u8 t.v.k,.int .i64 t.v.n,.slice ma t.v.l.length mb,.slice mc t.vs.length md,.int .i64 t.lo,.int .i64 t.hi,.slice me t.w.length mf,.int .u8 t.p.k,.int .u8 t.p.v.k,.int .i64 t.p.v.n,.slice mg t.p.v.l.length mh,.int .i64 t.p.n,.slice mi t.p.a.length mj,.slice mk t.a.length ml])∧Hid (At W (w.heap.size+1) 0 [.int .u8 p.k,.int .u8 p.v.k,.int .i64 p.v.n,.slice na p.v.l.length nb,.int .i64 p.n,.slice nc p.a.length nd])∧W.cell? ⟨w.heap.size+2,0,none⟩=some (.int .u8 0)∧W.cell? ⟨w.heap.size+2,1,none⟩=some (.int .i64 0)∧W.cell? ⟨w.heap.size+2,2,none⟩=some (.slice none 0 0)∧W.frozen? ⟨w.heap.size+2,0,none⟩=false∧W.frozen? ⟨w.heap.size+2,1,none⟩=false∧W.frozen? ⟨w.heap.size+2,2,none⟩=false) ⟨ZlD,om,hid (ZO.2 ⟨gs,gs,gs,gs,gs,gs,gs,gs,gs,gs,gs,gs,gs,gs,gs⟩),hid (Qf.2 ⟨gs,gs,gs,gs,gs,gs⟩),gs,gs,gs,gs,gs,gs⟩ ?_
 clear hc1 hf1 hc2 hf2 hb1 hb2
 intro W6 ⟨hb6,z6,HA5,HA6,b0,b1,b2,f0,f1,f2⟩
 simp only [Nat.add_assoc,Nat.reduceAdd]
 have HT5:=hid (show W6.rangeAt w.heap.size 0 _ from Xb HA5.out)
 have HT6:=hid (show W6.rangeAt (w.heap.size+1) 0 _ from Xb HA6.out)
 as_aux_lemma=>
  go_upto_region 8 with (first
   | (refine wpList_load_mid rfl 31 _ rfl w.heap.size 0 (by rfl) [.int .u8 t.k,.int .u8 t.v.k,.int .i64 t.v.n,.slice ma t.v.l.length mb,.slice mc t.vs.length md,.int .i64 t.lo,.int .i64 t.hi,.slice me t.w.length mf,.int .u8 t.p.k,.int .u8 t.p.v.k,.int .i64 t.p.v.n,.slice mg t.p.v.l.length mh,.int .i64 t.p.n,.slice mi t.p.a.length mj,.slice mk t.a.length ml] _ HT5.out underlying31 rfl kr ?_)
   | (refine wpList_load_mid rfl 28 _ rfl (w.heap.size+1) 0 (by rfl) [.int .u8 p.k,.int .u8 p.v.k,.int .i64 p.v.n,.slice na p.v.l.length nb,.int .i64 p.n,.slice nc p.a.length nd] _ HT6.out underlying28 rfl kr ?_)
   | (refine WY rfl rfl (bA t ⟨ma,mb,mc,md,me,mf,mg,mh,mi,mj,mk,ml⟩ p ⟨na,nb,nc,nd⟩) (by simp [Act.eval,Act.put]) ?_)
   | (refine Y6 rfl 65 _ _ rfl _ _ (by rfl) (by rfl) kr (by rfl) (by simp [Value.oneCell']) ?_))
  refine ZT (fun W=>Below w.heap.size w W∧W.heap.size=W6.heap.size+1∧Hid (At W W6.heap.size 0 (avL t ⟨ma,mb,mc,md,me,mf,mg,mh,mi,mj,mk,ml⟩ p ⟨na,nb,nc,nd⟩))∧W.cell? ⟨w.heap.size+2,0,none⟩=some (.int .u8 0)∧W.cell? ⟨w.heap.size+2,1,none⟩=some (.int .i64 0)∧W.cell? ⟨w.heap.size+2,2,none⟩=some (.slice none 0 0)∧W.frozen? ⟨w.heap.size+2,0,none⟩=false∧W.frozen? ⟨w.heap.size+2,1,none⟩=false∧W.frozen? ⟨w.heap.size+2,2,none⟩=false) ⟨ZlD,sm,hid (Xr rfl),gs,gs,gs,gs,gs,gs⟩ ?_
  clear HT5 HT6 HA5 HA6 b0 b1 b2 f0 f1 f2 hb6
  intro W7 ⟨hb7,hz7,HA7,b0,b1,b2,f0,f1,f2⟩
  have HAT:=hid (show W7.rangeAt W6.heap.size 0 _ from Xb HA7.out)
  as_aux_lemma=>
   go_upto_region 9 with (first
    | (refine wpList_load_mid rfl 65 _ rfl W6.heap.size 0 (by rfl) (avL t ⟨ma,mb,mc,md,me,mf,mg,mh,mi,mj,mk,ml⟩ p ⟨na,nb,nc,nd⟩) _ HAT.out underlying65 rfl kr ?_)
    | (go_at_call 28;(refine (QR t p u _ A A2 ⟨ma,mb,mc,md,me,mf,mg,mh,mi,mj,mk,ml⟩ ⟨na,nb,nc,nd⟩ OX.out hs (by exact ZlV (ZlH hb7) _ _ HL.out) OP.out hp (by exact ZmP (ZlH hb7) _ _ HR.out) hus HM.out).mono ?_);rw [HQ.out];rintro e w3 ⟨hb3,rfl⟩;have hz3:=hb3.size;(try simp at hz3);obtain ⟨hc3,hf3⟩:=Za hb3;have y7:w.heap.size+2 < w3.heap.size:=om;have y8:w.heap.size+2 < W7.heap.size:=om;have y9:w.heap.size+2 < W6.heap.size+1:=om))
   refine ZT (fun W=>Below w.heap.size w W∧w.heap.size+2 < W.heap.size∧W.cell? ⟨w.heap.size+2,0,none⟩=some (.int .u8 0)∧W.cell? ⟨w.heap.size+2,1,none⟩=some (.int .i64 0)∧W.cell? ⟨w.heap.size+2,2,none⟩=some (.slice none 0 0)∧W.frozen? ⟨w.heap.size+2,0,none⟩=false∧W.frozen? ⟨w.heap.size+2,1,none⟩=false∧W.frozen? ⟨w.heap.size+2,2,none⟩=false) ⟨ZlD,by simp;omega,gs,gs,gs,gs,gs,gs⟩ ?_
   exact ZnE
theorem Zhq (t:GT) (p:GP) (u:ByteArray) (w:World) (A A2:Nat→Prop) (m:TA) (mp:PA) (ox:okT t) (hs:Zb t≤1099511627776) (hl:RT w A t m) (op:okP p) (hp:Zm p≤1099511627776) (hr:RP w A2 p mp) (hus:u.size≤9223372036854775807) (h1':(ZP t u != 0)=false) (h2':((Zw p).2 != 0)=false) (hmay:Xo p=true) (s:ByteArray) (vk vn:Int) (vl:List GV) (hq:Yf t p u=some (s,⟨vk,vn,vl⟩)) (hsu:(s.toList==u.toList)=false):
  Calls prog 8 #[TV t m,PV p mp,.string u] w fun e w'=>e=.returned (.tuple #[.string ⟨#[]⟩,.agg #[.int .u8 0,.int .i64 0,.slice none 0 0],.int .i64 0,.int .i64 1])∧Below w.heap.size w w':=by
 obtain ⟨ma,mb,mc,md,me,mf,mg,mh,mi,mj,mk,ml⟩:=m
 obtain ⟨na,nb,nc,nd⟩:=mp
 have HL:=hid hl
 have HR:=hid hr
 have OX:=hid ox
 have OP:=hid op
 clear hl hr ox op
 have HQ:=hid hq
 have HM:=hid hmay
 clear hq hmay
 go_enter func8,ntmps8
 go_upto_region 7 with (first
  | (go_at_call 26;refine (Vz t u _ A ⟨ma,mb,mc,md,me,mf,mg,mh,mi,mj,mk,ml⟩ OX.out hs (by exact ZlV az _ _ HL.out) hus).mono ?_;rintro e w1 ⟨hb1,k,v,m,n1,rfl⟩;have hz1:=hb1.size;(try simp at hz1);obtain ⟨hc1,hf1⟩:=Za hb1;have y0:w.heap.size < w1.heap.size:=om;have y1:w.heap.size+1 < w1.heap.size:=om;have y2:w.heap.size+2 < w1.heap.size:=om)
  | (go_at_call 27;refine (XJ p _ A2 ⟨na,nb,nc,nd⟩ OP.out hp (by exact ZmP ar _ _ HR.out)).mono ?_;rintro e w2 ⟨rfl,hb2⟩;have hz2:=hb2.size;(try simp at hz2);obtain ⟨hc2,hf2⟩:=Za hb2;have y3:w.heap.size < w2.heap.size:=om;have y4:w.heap.size+1 < w2.heap.size:=om;have y5:w.heap.size+2 < w2.heap.size:=om;have y6:w1.heap.size < w2.heap.size:=om))
 refine ZT (fun W=>Below w.heap.size w W∧w.heap.size+2 < W.heap.size∧Hid (At W w.heap.size 0 [.int .u8 t.k,.int .u8 t.v.k,.int .i64 t.v.n,.slice ma t.v.l.length mb,.slice mc t.vs.length md,.int .i64 t.lo,.int .i64 t.hi,.slice me t.w.length mf,.int .u8 t.p.k,.int .u8 t.p.v.k,.int .i64 t.p.v.n,.slice mg t.p.v.l.length mh,.int .i64 t.p.n,.slice mi t.p.a.length mj,.slice mk t.a.length ml])∧Hid (At W (w.heap.size+1) 0 [.int .u8 p.k,.int .u8 p.v.k,.int .i64 p.v.n,.slice na p.v.l.length nb,.int .i64 p.n,.slice nc p.a.length nd])∧W.cell? ⟨w.heap.size+2,0,none⟩=some (.int .u8 0)∧W.cell? ⟨w.heap.size+2,1,none⟩=some (.int .i64 0)∧W.cell? ⟨w.heap.size+2,2,none⟩=some (.slice none 0 0)∧W.frozen? ⟨w.heap.size+2,0,none⟩=false∧W.frozen? ⟨w.heap.size+2,1,none⟩=false∧W.frozen? ⟨w.heap.size+2,2,none⟩=false) ⟨ZlD,om,hid (ZO.2 ⟨gs,gs,gs,gs,gs,gs,gs,gs,gs,gs,gs,gs,gs,gs,gs⟩),hid (Qf.2 ⟨gs,gs,gs,gs,gs,gs⟩),gs,gs,gs,gs,gs,gs⟩ ?_
 clear hc1 hf1 hc2 hf2 hb1 hb2
 intro W6 ⟨hb6,z6,HA5,HA6,b0,b1,b2,f0,f1,f2⟩
 simp only [Nat.add_assoc,Nat.reduceAdd]
 have HT5:=hid (show W6.rangeAt w.heap.size 0 _ from Xb HA5.out)
 have HT6:=hid (show W6.rangeAt (w.heap.size+1) 0 _ from Xb HA6.out)
 as_aux_lemma=>
  go_upto_region 8 with (first
   | (refine wpList_load_mid rfl 31 _ rfl w.heap.size 0 (by rfl) [.int .u8 t.k,.int .u8 t.v.k,.int .i64 t.v.n,.slice ma t.v.l.length mb,.slice mc t.vs.length md,.int .i64 t.lo,.int .i64 t.hi,.slice me t.w.length mf,.int .u8 t.p.k,.int .u8 t.p.v.k,.int .i64 t.p.v.n,.slice mg t.p.v.l.length mh,.int .i64 t.p.n,.slice mi t.p.a.length mj,.slice mk t.a.length ml] _ HT5.out underlying31 rfl kr ?_)
   | (refine wpList_load_mid rfl 28 _ rfl (w.heap.size+1) 0 (by rfl) [.int .u8 p.k,.int .u8 p.v.k,.int .i64 p.v.n,.slice na p.v.l.length nb,.int .i64 p.n,.slice nc p.a.length nd] _ HT6.out underlying28 rfl kr ?_)
   | (refine WY rfl rfl (bA t ⟨ma,mb,mc,md,me,mf,mg,mh,mi,mj,mk,ml⟩ p ⟨na,nb,nc,nd⟩) (by simp [Act.eval,Act.put]) ?_)
   | (refine Y6 rfl 65 _ _ rfl _ _ (by rfl) (by rfl) kr (by rfl) (by simp [Value.oneCell']) ?_))
  refine ZT (fun W=>Below w.heap.size w W∧W.heap.size=W6.heap.size+1∧Hid (At W W6.heap.size 0 (avL t ⟨ma,mb,mc,md,me,mf,mg,mh,mi,mj,mk,ml⟩ p ⟨na,nb,nc,nd⟩))∧W.cell? ⟨w.heap.size+2,0,none⟩=some (.int .u8 0)∧W.cell? ⟨w.heap.size+2,1,none⟩=some (.int .i64 0)∧W.cell? ⟨w.heap.size+2,2,none⟩=some (.slice none 0 0)∧W.frozen? ⟨w.heap.size+2,0,none⟩=false∧W.frozen? ⟨w.heap.size+2,1,none⟩=false∧W.frozen? ⟨w.heap.size+2,2,none⟩=false) ⟨ZlD,sm,hid (Xr rfl),gs,gs,gs,gs,gs,gs⟩ ?_
  clear HT5 HT6 HA5 HA6 b0 b1 b2 f0 f1 f2 hb6
  intro W7 ⟨hb7,hz7,HA7,b0,b1,b2,f0,f1,f2⟩
  have HAT:=hid (show W7.rangeAt W6.heap.size 0 _ from Xb HA7.out)
  as_aux_lemma=>
   go_upto_region 9 with (first
    | (refine wpList_load_mid rfl 65 _ rfl W6.heap.size 0 (by rfl) (avL t ⟨ma,mb,mc,md,me,mf,mg,mh,mi,mj,mk,ml⟩ p ⟨na,nb,nc,nd⟩) _ HAT.out underlying65 rfl kr ?_)
    | (go_at_call 28;(refine (QR t p u _ A A2 ⟨ma,mb,mc,md,me,mf,mg,mh,mi,mj,mk,ml⟩ ⟨na,nb,nc,nd⟩ OX.out hs (by exact ZlV (ZlH hb7) _ _ HL.out) OP.out hp (by exact ZmP (ZlH hb7) _ _ HR.out) hus HM.out).mono ?_);rw [HQ.out];rintro e w3 ⟨hb3,⟨xa,xc⟩,rfl,hrv⟩;clear hrv;have hz3:=hb3.size;(try simp at hz3);obtain ⟨hc3,hf3⟩:=Za hb3;have y7:w.heap.size+2 < w3.heap.size:=om;have y8:w.heap.size+2 < W7.heap.size:=om;have y9:w.heap.size+2 < W6.heap.size+1:=om))
   refine ZT (fun W=>Below w.heap.size w W∧w.heap.size+2 < W.heap.size∧W.cell? ⟨w.heap.size+2,0,none⟩=some (.int .u8 vk)∧W.cell? ⟨w.heap.size+2,1,none⟩=some (.int .i64 vn)∧W.cell? ⟨w.heap.size+2,2,none⟩=some (.slice xa vl.length xc)∧W.frozen? ⟨w.heap.size+2,0,none⟩=false∧W.frozen? ⟨w.heap.size+2,1,none⟩=false∧W.frozen? ⟨w.heap.size+2,2,none⟩=false) ⟨ZlD,by simp;omega,gs,gs,gs,gs,gs,gs⟩ ?_
   exact ZnE
set_option maxRecDepth 512
theorem ZbS (t:GT) (p:GP) (u:ByteArray) (w:World) (A A2:Nat→Prop) (m:TA) (mp:PA) (ox:okT t) (hs:Zb t≤1099511627776) (hl:RT w A t m) (op:okP p) (hp:Zm p≤1099511627776) (hr:RP w A2 p mp) (hus:u.size≤9223372036854775807) (hE:Wj t p u≠0):
  Calls prog 8 #[TV t m,PV p mp,.string u] w fun e w'=>e=.returned (.tuple #[.string ⟨#[]⟩,.agg #[.int .u8 0,.int .i64 0,.slice none 0 0],.int .i64 0,.int .i64 (Wj t p u)])∧Below w.heap.size w w':=by
 by_cases h1:ZP t u=0
 case neg=>
  have hv:Wj t p u=ZP t u:=by unfold Wj;rw [if_pos h1]
  rw [hv]
  exact Zhn t p u w A A2 m mp ox hs hl op hp hr hus (by simp [h1])
 by_cases h2:(Zw p).2=0
 case neg=>
  have hv:Wj t p u=(Zw p).2:=by unfold Wj;rw [if_neg (by simp [h1]),if_pos h2]
  rw [hv]
  exact Zho t p u w A A2 m mp ox hs hl op hp hr hus (by simp [h1]) (by simp [h2])
 cases hq:Yf t p u with
 | none=>
  have hv:Wj t p u=1:=by unfold Wj;rw [if_neg (by simp [h1]),if_neg (by simp [h2]),hq]
  rw [hv]
  exact Zhp t p u w A A2 m mp ox hs hl op hp hr hus (by simp [h1]) (by simp [h2]) (UW.2 h2) hq
 | some r=>
  obtain ⟨s,vk,vn,vl⟩:=r
  have hsu:¬s=u:=fun e=>hE (by unfold Wj;rw [if_neg (by simp [h1]),if_neg (by simp [h2]),hq];simp [e])
  have hv:Wj t p u=1:=by unfold Wj;rw [if_neg (by simp [h1]),if_neg (by simp [h2]),hq];simp [hsu]
  rw [hv]
  exact Zhq t p u w A A2 m mp ox hs hl op hp hr hus (by simp [h1]) (by simp [h2]) (UW.2 h2) s vk vn vl hq (ZiH hsu)
set_option maxRecDepth 100000
set_option maxHeartbeats 32000000
theorem J2 (t:GT) (p:GP) (u:ByteArray) (w:World) (A A2:Nat→Prop) (m:TA) (mp:PA) (ox:okT t) (hs:Zb t≤1099511627776) (hl:RT w A t m) (op:okP p) (hp:Zm p≤1099511627776) (hr:RP w A2 p mp) (hE:Wj t p u=0) (v:GV) (hF:Yf t p u=some (u,v)) (hG:GW w):
  Calls prog 8 #[TV t m,PV p mp,.string u] w fun e w'=>Below w.heap.size w w'∧∃my:VA,e=.returned (.tuple #[.string (YO t p 1024 u v 0).1,VV (YO t p 1024 u v 0).2.1 my,.int .i64 (YO t p 1024 u v 0).2.2,.int .i64 0])∧RV w' (fun b=>w.heap.size≤b) (YO t p 1024 u v 0).2.1 my.a:=by
 obtain ⟨h1,h2, -⟩:=J1 hE
 have hub:=(VI h1).2
 have hus:u.size≤9223372036854775807:=by have:=Wl hub;omega
 have hmay:Xo p=true:=UW.2 h2
 have h1':(ZP t u != 0)=false:=by simp [h1]
 have h2':((Zw p).2 != 0)=false:=by simp [h2]
 have hsu:(u.toList==u.toList)=true:=beq_self_eq_true _
 obtain ⟨ma,mb,mc,md,me,mf,mg,mh,mi,mj,mk,ml⟩:=m
 obtain ⟨na,nb,nc,nd⟩:=mp
 have HL:=hid hl
 have HR:=hid hr
 have OX:=hid ox
 have OP:=hid op
 clear hl hr ox op
 have HQ:=hid hF
 have HG:=hid hG
 have HB:=hid hub
 have HM:=hid hmay
 obtain ⟨vk,vn,vl⟩:=v
 generalize hT:YO t p 1024 u ⟨vk,vn,vl⟩ 0=T
 have HT:=hid hT
 obtain ⟨s,⟨yk,yn,yl⟩,n⟩:=T
 clear hF hG hub hmay hT hE h1 h2
 go_enter func8,ntmps8
 go_upto_region 7 with (first
  | (go_at_call 26;refine (Vz t u _ A ⟨ma,mb,mc,md,me,mf,mg,mh,mi,mj,mk,ml⟩ OX.out hs (by exact ZlV az _ _ HL.out) hus).mono ?_;rintro e w1 ⟨hb1,k,v,m,n1,rfl⟩;have hz1:=hb1.size;(try simp at hz1);obtain ⟨hc1,hf1⟩:=Za hb1;have y0:w.heap.size < w1.heap.size:=om;have y1:w.heap.size+1 < w1.heap.size:=om;have y2:w.heap.size+2 < w1.heap.size:=om)
  | (go_at_call 27;refine (XJ p _ A2 ⟨na,nb,nc,nd⟩ OP.out hp (by exact ZmP ar _ _ HR.out)).mono ?_;rintro e w2 ⟨rfl,hb2⟩;have hz2:=hb2.size;(try simp at hz2);obtain ⟨hc2,hf2⟩:=Za hb2;have y3:w.heap.size < w2.heap.size:=om;have y4:w.heap.size+1 < w2.heap.size:=om;have y5:w.heap.size+2 < w2.heap.size:=om;have y6:w1.heap.size < w2.heap.size:=om))
 refine ZT (fun W=>Below w.heap.size w W∧w.heap.size+2 < W.heap.size∧Hid (At W w.heap.size 0 [.int .u8 t.k,.int .u8 t.v.k,.int .i64 t.v.n,.slice ma t.v.l.length mb,.slice mc t.vs.length md,.int .i64 t.lo,.int .i64 t.hi,.slice me t.w.length mf,.int .u8 t.p.k,.int .u8 t.p.v.k,.int .i64 t.p.v.n,.slice mg t.p.v.l.length mh,.int .i64 t.p.n,.slice mi t.p.a.length mj,.slice mk t.a.length ml])∧Hid (At W (w.heap.size+1) 0 [.int .u8 p.k,.int .u8 p.v.k,.int .i64 p.v.n,.slice na p.v.l.length nb,.int .i64 p.n,.slice nc p.a.length nd])∧W.cell? ⟨w.heap.size+2,0,none⟩=some (.int .u8 0)∧W.cell? ⟨w.heap.size+2,1,none⟩=some (.int .i64 0)∧W.cell? ⟨w.heap.size+2,2,none⟩=some (.slice none 0 0)∧W.frozen? ⟨w.heap.size+2,0,none⟩=false∧W.frozen? ⟨w.heap.size+2,1,none⟩=false∧W.frozen? ⟨w.heap.size+2,2,none⟩=false) ⟨ZlD,om,hid (ZO.2 ⟨gs,gs,gs,gs,gs,gs,gs,gs,gs,gs,gs,gs,gs,gs,gs⟩),hid (Qf.2 ⟨gs,gs,gs,gs,gs,gs⟩),gs,gs,gs,gs,gs,gs⟩ ?_
 clear hc1 hf1 hc2 hf2 hb1 hb2
 intro W6 ⟨hb6,z6,HA5,HA6,b0,b1,b2,f0,f1,f2⟩
 simp only [Nat.add_assoc,Nat.reduceAdd]
 have HT5:=hid (show W6.rangeAt w.heap.size 0 _ from Xb HA5.out)
 have HT6:=hid (show W6.rangeAt (w.heap.size+1) 0 _ from Xb HA6.out)
 as_aux_lemma=>
  go_upto_region 8 with (first
   | (refine wpList_load_mid rfl 31 _ rfl w.heap.size 0 (by rfl) [.int .u8 t.k,.int .u8 t.v.k,.int .i64 t.v.n,.slice ma t.v.l.length mb,.slice mc t.vs.length md,.int .i64 t.lo,.int .i64 t.hi,.slice me t.w.length mf,.int .u8 t.p.k,.int .u8 t.p.v.k,.int .i64 t.p.v.n,.slice mg t.p.v.l.length mh,.int .i64 t.p.n,.slice mi t.p.a.length mj,.slice mk t.a.length ml] _ HT5.out underlying31 rfl kr ?_)
   | (refine wpList_load_mid rfl 28 _ rfl (w.heap.size+1) 0 (by rfl) [.int .u8 p.k,.int .u8 p.v.k,.int .i64 p.v.n,.slice na p.v.l.length nb,.int .i64 p.n,.slice nc p.a.length nd] _ HT6.out underlying28 rfl kr ?_)
   | (refine WY rfl rfl (bA t ⟨ma,mb,mc,md,me,mf,mg,mh,mi,mj,mk,ml⟩ p ⟨na,nb,nc,nd⟩) (by simp [Act.eval,Act.put]) ?_)
   | (refine Y6 rfl 65 _ _ rfl _ _ (by rfl) (by rfl) kr (by rfl) (by simp [Value.oneCell']) ?_))
  refine ZT (fun W=>Below w.heap.size w W∧W.heap.size=W6.heap.size+1∧Hid (At W W6.heap.size 0 (avL t ⟨ma,mb,mc,md,me,mf,mg,mh,mi,mj,mk,ml⟩ p ⟨na,nb,nc,nd⟩))∧W.cell? ⟨w.heap.size+2,0,none⟩=some (.int .u8 0)∧W.cell? ⟨w.heap.size+2,1,none⟩=some (.int .i64 0)∧W.cell? ⟨w.heap.size+2,2,none⟩=some (.slice none 0 0)∧W.frozen? ⟨w.heap.size+2,0,none⟩=false∧W.frozen? ⟨w.heap.size+2,1,none⟩=false∧W.frozen? ⟨w.heap.size+2,2,none⟩=false) ⟨ZlD,sm,hid (Xr rfl),gs,gs,gs,gs,gs,gs⟩ ?_
  clear HT5 HT6 HA5 HA6 b0 b1 b2 f0 f1 f2 hb6
  intro W7 ⟨hb7,hz7,HA7,b0,b1,b2,f0,f1,f2⟩
  have HAT:=hid (show W7.rangeAt W6.heap.size 0 _ from Xb HA7.out)
  as_aux_lemma=>
   go_upto_region 11 with (first
    | (refine wpList_load_mid rfl 65 _ rfl W6.heap.size 0 (by rfl) (avL t ⟨ma,mb,mc,md,me,mf,mg,mh,mi,mj,mk,ml⟩ p ⟨na,nb,nc,nd⟩) _ HAT.out underlying65 rfl kr ?_)
    | (go_at_call 28;(refine (QR t p u _ A A2 ⟨ma,mb,mc,md,me,mf,mg,mh,mi,mj,mk,ml⟩ ⟨na,nb,nc,nd⟩ OX.out hs (by exact ZlV (ZlH hb7) _ _ HL.out) OP.out hp (by exact ZmP (ZlH hb7) _ _ HR.out) hus HM.out).mono ?_);rw [HQ.out];rintro e w3 ⟨hb3,⟨xa,xc⟩,rfl,hrv⟩;have HRV:=hid (ZmO (A':=fun b=>w.heap.size+2+1≤b) (fun b h _=>om) _ _ hrv);clear hrv;have hz3:=hb3.size;(try simp at hz3);obtain ⟨hc3,hf3⟩:=Za hb3;have y7:w.heap.size+2 < w3.heap.size:=om;have y8:w.heap.size+2 < W7.heap.size:=om;have y9:w.heap.size+2 < W6.heap.size+1:=om))
   refine ZT (fun W=>Below w.heap.size w W∧W.heap.size=w3.heap.size∧Hid (At W W6.heap.size 0 (avL t ⟨ma,mb,mc,md,me,mf,mg,mh,mi,mj,mk,ml⟩ p ⟨na,nb,nc,nd⟩))∧W.cell? ⟨w.heap.size+2,0,none⟩=some (.int .u8 vk)∧W.cell? ⟨w.heap.size+2,1,none⟩=some (.int .i64 vn)∧W.cell? ⟨w.heap.size+2,2,none⟩=some (.slice xa vl.length xc) ∧
    W.frozen? ⟨w.heap.size+2,0,none⟩=false∧W.frozen? ⟨w.heap.size+2,1,none⟩=false∧W.frozen? ⟨w.heap.size+2,2,none⟩=false∧Hid (RV W (fun b=>w.heap.size+2+1≤b) ⟨vk,vn,vl⟩ xa)) ⟨ZlD,sm,hid (ZmS (WN _ _ _) om _ _ (ZmS (A:=fun _=>True) (ZlH hb3) trivial _ _ HA7.out)),gs,gs,gs,gs,gs,gs,hid (ZmG (WN _ _ _) _ _ HRV.out)⟩ ?_
   clear hc3 hf3 HAT HA7 b0 b1 b2 f0 f1 f2 HRV
   intro W8 ⟨hb8,hz8,HA8,b0,b1,b2,f0,f1,f2,HRV⟩
   have HAT:=hid (show W8.rangeAt W6.heap.size 0 _ from Xb HA8.out)
   as_aux_lemma=>
    go_upto_region 12 with (first
     | (refine wpList_load_mid rfl 65 _ rfl W6.heap.size 0 (by rfl) (avL t ⟨ma,mb,mc,md,me,mf,mg,mh,mi,mj,mk,ml⟩ p ⟨na,nb,nc,nd⟩) _ HAT.out underlying65 rfl kr ?_)
     | (go_at_call 29;(refine (ZaD t p u ⟨vk,vn,vl⟩ _ A A2 (fun b=>w.heap.size+2+1≤b) ⟨ma,mb,mc,md,me,mf,mg,mh,mi,mj,mk,ml⟩ ⟨na,nb,nc,nd⟩ ⟨xa,xc⟩ OX.out hs (by exact ZlV (ZlH hb8) _ _ HL.out) OP.out hp (by exact ZmP (ZlH hb8) _ _ HR.out) HM.out HB.out (by exact HRV.out) (HG.out.below hb8)).mono ?_);rw [HT.out];rintro e w4 ⟨hb4,⟨za,zc⟩,rfl,hry⟩;have HRY:=hid hry;clear hry;have hz4:=hb4.size;(try simp at hz4);obtain ⟨hc4,hf4⟩:=Za hb4;have z0:w.heap.size+2 < w4.heap.size:=om;have z1:w.heap.size+2 < W8.heap.size:=om))
    refine ZT (fun W=>Below w.heap.size w W∧W.heap.size=w4.heap.size∧W.cell? ⟨w.heap.size+2,0,none⟩=some (.int .u8 yk)∧W.cell? ⟨w.heap.size+2,1,none⟩=some (.int .i64 yn)∧W.cell? ⟨w.heap.size+2,2,none⟩=some (.slice za yl.length zc) ∧
     W.frozen? ⟨w.heap.size+2,0,none⟩=false∧W.frozen? ⟨w.heap.size+2,1,none⟩=false∧W.frozen? ⟨w.heap.size+2,2,none⟩=false∧Hid (RV W (fun b=>w.heap.size+2+1≤b) ⟨yk,yn,yl⟩ za)) ⟨ZlD,sm,gs,gs,gs,gs,gs,gs,hid (ZmG (WN _ _ _) _ _ (ZmO (fun b h _=>by rcases h with h|h;exact h;omega) _ _ HRY.out))⟩ ?_
    clear hc4 hf4 HAT HA8 b0 b1 b2 f0 f1 f2 HRV HRY
    intro W9 ⟨hb9,hz9,b0,b1,b2,f0,f1,f2,HRV⟩
    have z2:w.heap.size+2 < W9.heap.size:=om
    as_aux_lemma=>
     go_region_held3 (fun W=>W.cell? ⟨w.heap.size+2,0,none⟩=some (.int .u8 yk)∧W.cell? ⟨w.heap.size+2,1,none⟩=some (.int .i64 yn)∧W.cell? ⟨w.heap.size+2,2,none⟩=some (.slice za yl.length zc)) ((refine ⟨?_,?_,?_⟩<;>(first|assumption|go_simp))) ((fail))
     all_goals go_wp2_with fail
     all_goals refine bodyPost_ret (v:=(.tuple #[.string s,VV ⟨yk,yn,yl⟩ ⟨za,zc⟩,.int .i64 n,.int .i64 0])) (by first|(simp [results,Tryz.f8,go_sem];done)|(simp [results,Tryz.f8,go_sem, *];done)) rfl ?_
     all_goals exact ⟨ZlD,⟨za,zc⟩,rfl,ZmO (A:=fun b=>w.heap.size+2+1≤b) (fun b h _=>om) _ _ (ZmG ((WN _ _ _).trans (ZlH (Below.drew (Below.refl _ _)))) _ _ HRV.out)⟩
set_option maxRecDepth 512
abbrev PVr (r:ZiW) (m:VA):Value:=.agg #[.int .u8 r.e,.int .i64 r.n,.int .i64 r.s,.string r.u,.int .u8 r.v.k,.int .i64 r.v.n,.slice m.a r.v.l.length m.c]
theorem Zjw {t:GT} {p:GP} {w:ByteArray} {N:Nat} (h:(Yz w t p N 0).2≠1):Zdw t p w N=⟨(Yz w t p N 0).2,(Yz w t p N 0).1.length,0,ByteArray.empty,⟨0,0,[]⟩⟩:=by
 unfold Zdw
 have h1:((Yz w t p N 0).2==1)=false:=by simp [h]
 rw [h1]
 cases (Yz w t p N 0).1.getLast? <;>rfl
theorem ZiA {t:GT} {p:GP} {w:ByteArray} {N:Nat} {r:GR} (h:(Yz w t p N 0).2=1) (hl:(Yz w t p N 0).1.getLast? =some r):Zdw t p w N=⟨1,(Yz w t p N 0).1.length,(YO t p 1024 (Qd w r) r.v 0).2.2,(YO t p 1024 (Qd w r) r.v 0).1,(YO t p 1024 (Qd w r) r.v 0).2.1⟩:=by
 unfold Zdw
 rw [hl,h]
 rfl
set_option maxRecDepth 100000
theorem ZkT (t:GT) (p:GP) (s:ByteArray) (n:Int) (w:World) (A A2:Nat→Prop) (m:TA) (mp:PA) (ox:okT t) (hs:Zb t≤1099511627776) (hl:RT w A t m) (op:okP p) (hp:Zm p≤1099511627776) (hr:RP w A2 p mp) (hss:s.size≤9223372036854775807) (hE:VQ t p s n≠0):
  Calls prog 12 #[TV t m,PV p mp,.string s,.int .i64 n] w fun e w'=>e=.returned (.tuple #[.agg #[.int .u8 0,.int .i64 0,.int .i64 0,.string ⟨#[]⟩,.int .u8 0,.int .i64 0,.slice none 0 0],.int .i64 (VQ t p s n)])∧Below w.heap.size w w':=by
 obtain ⟨ma,mb,mc,md,me,mf,mg,mh,mi,mj,mk,ml⟩:=m
 obtain ⟨na,nb,nc,nd⟩:=mp
 have HL:=hid hl
 have HR:=hid hr
 have OX:=hid ox
 have OP:=hid op
 have HE:=hid hE
 have h1':(VQ t p s n != 0)=true:=by simp [hE]
 clear hl hr ox op hE
 go_enter func12,ntmps12
 go_wp2_with (go_at_call 31;refine (Zi8 t p s n _ A A2 ⟨ma,mb,mc,md,me,mf,mg,mh,mi,mj,mk,ml⟩ ⟨na,nb,nc,nd⟩ OX.out hs (by exact ZlV az _ _ HL.out) OP.out hp (by exact ZmP az _ _ HR.out) hss HE.out).mono ?_;rintro e w1 ⟨rfl,hb1⟩;have hz1:=hb1.size;(try simp at hz1);obtain ⟨hc1,hf1⟩:=Za hb1;have y0:w.heap.size < w1.heap.size:=om;have y1:w.heap.size+1 < w1.heap.size:=om;have y2:w.heap.size+2 < w1.heap.size:=om)
 refine bodyPost_ret (v:=(.tuple #[.agg #[.int .u8 0,.int .i64 0,.int .i64 0,.string ⟨#[]⟩,.int .u8 0,.int .i64 0,.slice none 0 0],.int .i64 (VQ t p s n)])) (by first|(simp [results,Tryz.f12,go_sem];done)|(simp [results,Tryz.f12,go_sem, *];done)) rfl ?_
 exact ⟨rfl,ZlD⟩
theorem Zi6 (t:GT) (p:GP) (s:ByteArray) (N:Nat) (w:World) (A A2:Nat→Prop) (m:TA) (mp:PA) (ox:okT t) (hs:Zb t≤1099511627776) (hl:RT w A t m) (op:okP p) (hp:Zm p≤1099511627776) (hr:RP w A2 p mp) (hE:VQ t p s N=0) (hne:(Yz s t p N 0).2≠1):
  Calls prog 12 #[TV t m,PV p mp,.string s,.int .i64 N] w fun e w'=>Below w.heap.size w w'∧∃my:VA,e=.returned (.tuple #[PVr (Zdw t p s N) my,.int .i64 0])∧RV w' (fun b=>w.heap.size≤b) (Zdw t p s N).v my.a:=by
 obtain ⟨ma,mb,mc,md,me,mf,mg,mh,mi,mj,mk,ml⟩:=m
 obtain ⟨na,nb,nc,nd⟩:=mp
 rw [Zjw hne]
 have h1:((Yz s t p N 0).2==1)=false:=by simp [hne]
 have HL:=hid hl
 have HR:=hid hr
 have OX:=hid ox
 have OP:=hid op
 have HE:=hid hE
 clear hl hr ox op hE hne
 generalize hR:Yz s t p N 0=R at *
 obtain ⟨l,K⟩:=R
 have HQ:=hid hR
 clear hR
 dsimp only at h1 ⊢
 go_enter func12,ntmps12
 go_wp2_with (go_at_call 31;refine (ZhW t p s N _ A A2 ⟨ma,mb,mc,md,me,mf,mg,mh,mi,mj,mk,ml⟩ ⟨na,nb,nc,nd⟩ OX.out hs (by exact ZlV az _ _ HL.out) OP.out hp (by exact ZmP az _ _ HR.out) HE.out).mono ?_;rw [HQ.out];rintro e w1 ⟨hb1,a,c,rfl,hrr⟩;clear hrr;have hz1:=hb1.size;(try simp at hz1);obtain ⟨hc1,hf1⟩:=Za hb1;have y0:w.heap.size < w1.heap.size:=om;have y1:w.heap.size+1 < w1.heap.size:=om;have y2:w.heap.size+2 < w1.heap.size:=om)
 refine bodyPost_ret (v:=(.tuple #[.agg #[.int .u8 K,.int .i64 l.length,.int .i64 0,.string ⟨#[]⟩,.int .u8 0,.int .i64 0,.slice none 0 0],.int .i64 0])) (by first|(simp [results,Tryz.f12,go_sem];done)|(simp [results,Tryz.f12,go_sem, *];done)) rfl ?_
 exact ⟨ZlD,⟨none,0⟩,rfl,by simp [RV,RVs]⟩
theorem ZfV (r:ZiW) (w:World) (A A':Nat→Prop) (m m':VA) (ox:okV r.v) (h1:RV w A r.v m.a) (h2:RV w A' r.v m'.a):
  Calls prog 13 #[PVr r m,PVr r m'] w fun e w'=>e=.returned (.bool true)∧Below w.heap.size w w':=by
 obtain ⟨re,rn,rs,ru,rv⟩:=r
 obtain ⟨ma,mc⟩:=m
 obtain ⟨na,nc⟩:=m'
 have H1:=hid h1
 have H2:=hid h2
 have OX:=hid ox
 have HS:=hid (U8 rv)
 clear h1 h2 ox
 go_enter func13,ntmps13
 go_wp2_with (go_at_call 9;refine (QA (Zg rv) rv rv _ A A' ⟨ma,mc⟩ ⟨na,nc⟩ (Nat.le_refl _) OX.out OX.out (by exact Zl.1 (ZmG az _ _ H1.out)) (by exact Zl.1 (ZmG az _ _ H2.out))).mono ?_;rw [HS.out];rintro e w1 ⟨rfl,hb1⟩)
 go_ret
 exact ⟨rfl,ZlD⟩
set_option maxRecDepth 512
theorem Zom {p:Prop} (h:p:=by ((try dsimp only);(first|(with_reducible exact hHeld)|(exact ⟨fun k=>sm,fun k=>sm,fun k=>sm⟩)|(exact ⟨fun k=>(Yt om).trans (hHeld.1 k),fun k=>(Yt om).trans (hHeld.2.1 k),fun k=>(Yt om).trans (hHeld.2.2 k)⟩)|(exact ⟨fun k=>(hb4.cell (p:=⟨w.heap.size,k,none⟩) (by simp;omega)).trans (hHeld.1 k),fun k=>(hb4.cell (p:=⟨w.heap.size+1,k,none⟩) (by simp;omega)).trans (hHeld.2.1 k),fun k=>(hb4.cell (p:=⟨w1.heap.size+1,k,none⟩) (by simp;omega)).trans (hHeld.2.2 k)⟩)))):p:=h
set_option maxRecDepth 100000
set_option maxHeartbeats 64000000
theorem ZgI (t:GT) (p:GP) (s:ByteArray) (N:Nat) (w:World) (A A2:Nat→Prop) (m:TA) (mp:PA) (ox:okT t) (hs:Zb t≤1099511627776) (hl:RT w A t m) (op:okP p) (hp:Zm p≤1099511627776) (hr:RP w A2 p mp) (hG:GW w) (hE:VQ t p s N=0) (hmay:Xo p=true)
  (l:List GR) (hR:Yz s t p N 0=(l,1)) (j f g:Nat) (hj:l.length=j+1) (hj2:j≤4096) (vk vn:Int) (vl:List GV) (hlj:∀h:j < l.length,l[j]=⟨f,g,⟨vk,vn,vl⟩⟩) (hfg:f≤g) (hgs:g≤s.size) (hbb:Zc (s.extract f g)=true) (x:ByteArray) (yk yn:Int) (yl:List GV) (n:Nat) (hT:YO t p 1024 (s.extract f g) ⟨vk,vn,vl⟩ 0=(x,⟨yk,yn,yl⟩,n)):
  Calls prog 12 #[TV t m,PV p mp,.string s,.int .i64 N] w fun e w'=>Below w.heap.size w w'∧∃my:VA,e=.returned (.tuple #[.agg #[.int .u8 1,.int .i64 ((j:Int)+1),.int .i64 n,.string x,.int .u8 yk,.int .i64 yn,.slice my.a yl.length my.c],.int .i64 0])∧RV w' (fun b=>w.heap.size≤b) ⟨yk,yn,yl⟩ my.a:=by
 obtain ⟨ma,mb,mc,md,me,mf,mg,mh,mi,mj,mk,ml⟩:=m
 obtain ⟨na,nb,nc,nd⟩:=mp
 have HL:=hid hl
 have HR:=hid hr
 have OX:=hid ox
 have OP:=hid op
 have HE:=hid hE
 have HM:=hid hmay
 have HG:=hid hG
 have HQ:=hid hR
 have HB:=hid hbb
 have HT:=hid hT
 have HJ:=hid hj
 have HLJ:=hid hlj
 clear hl hr ox op hE hmay hG hR hbb hT hj hlj
 have hw1:IntKind.i64.wrap ((j:Int)+1 - 1)=(j:Int):=by rw [IntWalk.i64_in _ om];omega
 have hw2:IntKind.i64.wrap (j:Int)=(j:Int):=IntWalk.i64_in _ om
 have hjl:(j:Int) < (j:Int)+1:=om
 go_enter func12,ntmps12
 go_upto_region 7 with (go_at_call 31;refine (ZhW t p s N _ A A2 ⟨ma,mb,mc,md,me,mf,mg,mh,mi,mj,mk,ml⟩ ⟨na,nb,nc,nd⟩ OX.out hs (by exact ZlV az _ _ HL.out) OP.out hp (by exact ZmP az _ _ HR.out) HE.out).mono ?_;rw [HQ.out];rintro e w1 ⟨hb1,a,c,rfl,hrr⟩;obtain ⟨b,o,⟨xa,xc⟩,rfl,hA,hbs0,g0,gx⟩:=hrr.get j (by rw [HJ.out];omega);rw [HLJ.out] at g0 gx;obtain ⟨k0,k1,k2,k3,k4⟩:=At5.1 g0;have HRV0:=hid gx;clear hrr g0 gx;dsimp only at k0 k1 k2 k3 k4;rw [HJ.out];have hz1:=hb1.size;(try simp at hz1);(try simp at hA);obtain ⟨hc1,hf1⟩:=Za hb1;have y0:w.heap.size < w1.heap.size:=om;have y1:w.heap.size+1 < w1.heap.size:=om;have y2:w.heap.size+2 < w1.heap.size:=om)
 refine ZT (fun W=>Below w.heap.size w W∧W.heap.size=w1.heap.size+2∧Hid (At W w.heap.size 0 [.int .u8 t.k,.int .u8 t.v.k,.int .i64 t.v.n,.slice ma t.v.l.length mb,.slice mc t.vs.length md,.int .i64 t.lo,.int .i64 t.hi,.slice me t.w.length mf,.int .u8 t.p.k,.int .u8 t.p.v.k,.int .i64 t.p.v.n,.slice mg t.p.v.l.length mh,.int .i64 t.p.n,.slice mi t.p.a.length mj,.slice mk t.a.length ml])∧Hid (At W (w.heap.size+1) 0 [.int .u8 p.k,.int .u8 p.v.k,.int .i64 p.v.n,.slice na p.v.l.length nb,.int .i64 p.n,.slice nc p.a.length nd]) ∧
  Hid (At W w1.heap.size 0 [.int .u8 1,.int .i64 ((j:Int)+1),.int .i64 0,.string ⟨#[]⟩,.int .u8 0,.int .i64 0,.slice none 0 0])∧Hid (W.there w1.heap.size 0 7)∧Hid (W.there (w.heap.size+2) 0 7) ∧
  W.cell? ⟨w1.heap.size+1,0,none⟩=some (.int .i64 (f:Int))∧W.cell? ⟨w1.heap.size+1,1,none⟩=some (.int .i64 (g:Int))∧W.cell? ⟨w1.heap.size+1,2,none⟩=some (.int .u8 vk)∧W.cell? ⟨w1.heap.size+1,3,none⟩=some (.int .i64 vn)∧W.cell? ⟨w1.heap.size+1,4,none⟩=some (.slice xa vl.length xc)∧Hid (RV W (fun b=>w.heap.size+3≤b∧b < w1.heap.size) ⟨vk,vn,vl⟩ xa))
  ⟨ZlD,sm,hid (ZO.2 ⟨gs,gs,gs,gs,gs,gs,gs,gs,gs,gs,gs,gs,gs,gs,gs⟩),hid (Qf.2 ⟨gs,gs,gs,gs,gs,gs⟩),
  hid (ZeO.2 ⟨gs,gs,gs,gs,gs,gs,gs⟩),hid (ZiK (c0:=.int .u8 1) (c1:=.int .i64 ((j:Int)+1)) (c2:=.int .i64 0) (c3:=.string ⟨#[]⟩) (c4:=.int .u8 0) (c5:=.int .i64 0) (c6:=.slice none 0 0) (ZeO.2 ⟨gs,gs,gs,gs,gs,gs,gs⟩) gs gs gs gs gs gs gs),hid (ZiK (c0:=.int .u8 0) (c1:=.int .i64 0) (c2:=.int .i64 0) (c3:=.string ⟨#[]⟩) (c4:=.int .u8 0) (c5:=.int .i64 0) (c6:=.slice none 0 0) (ZeO.2 ⟨gs,gs,gs,gs,gs,gs,gs⟩) gs gs gs gs gs gs gs),
  gs,gs,gs,gs,gs,hid (ZmG ar _ _ (ZmO (fun b h hb=>⟨by simp at h;omega,hb⟩) _ _ HRV0.out))⟩ ?_
 clear hc1 hf1 hb1 k0 k1 k2 k3 k4
 intro W7 ⟨hb7,hz7,HA5,HA6,HA7,HT1,HT2,e0,e1,e2,e3,e4,HRV⟩
 simp only [Nat.add_assoc,Nat.reduceAdd]
 as_aux_lemma=>
  obtain ⟨u0,u1,u2,u3,u4,u5,u6,u7,u8,u9,ua,ub,uc,ud,ue⟩:=ZO.1 HA5.out
  obtain ⟨p0,p1,p2,p3,p4,p5⟩:=Qf.1 HA6.out
  have h1:(f:Int)≤(g:Int):=om
  have h2:(g:Int)≤(s.size:Int):=om
  have v0:w.heap.size < W7.heap.size:=om
  have v1:w.heap.size+1 < W7.heap.size:=om
  have v2:w.heap.size+2 < W7.heap.size:=om
  have v3:w1.heap.size < W7.heap.size:=om
  have v4:w1.heap.size+1 < W7.heap.size:=om
  have v5:w.heap.size+2 < w1.heap.size+2:=om
  have v6:w.heap.size < w1.heap.size+2:=om
  have v7:w.heap.size+1 < w1.heap.size+2:=om
  (try dsimp only [List.append])
  refine wp_region_noPanic ?_
  refine wp_region_held_drew (S:=(fun W=>(∀k,W.cell? ⟨w.heap.size,k,none⟩=W7.cell? ⟨w.heap.size,k,none⟩)∧(∀k,W.cell? ⟨w.heap.size+1,k,none⟩=W7.cell? ⟨w.heap.size+1,k,none⟩)∧(∀k,W.cell? ⟨w1.heap.size+1,k,none⟩=W7.cell? ⟨w1.heap.size+1,k,none⟩))) kr ?_ (fun hHeld=>?_)
  ·exact Zom
  refine tz 0 ?_
  try simp only [Act.put,sl,s0,ss]
  refine tz 1 ?_
  try simp only [Act.put,sl,s0,ss]
  refine tq 2 (v:=(AV t ⟨ma,mb,mc,md,me,mf,mg,mh,mi,mj,mk,ml⟩ p ⟨na,nb,nc,nd⟩)) rfl (ZdG rfl rfl (bA t ⟨ma,mb,mc,md,me,mf,mg,mh,mi,mj,mk,ml⟩ p ⟨na,nb,nc,nd⟩) (by simp [Act.eval])) ?_
  try simp only [Act.put,sl,s0,ss]
  as_aux_lemma=>
   refine tz 3 ?_
   try simp only [Act.put,sl,s0,ss]
   refine tz 4 ?_
   try simp only [Act.put,sl,s0,ss]
   refine tz 5 ?_
   try simp only [Act.put,sl,s0,ss]
   refine tz 6 ?_
   try simp only [Act.put,sl,s0,ss]
   as_aux_lemma=>
    refine tz 7 ?_
    try simp only [Act.put,sl,s0,ss]
    refine tz 8 ?_
    try simp only [Act.put,sl,s0,ss]
    refine tz 9 ?_
    try simp only [Act.put,sl,s0,ss]
    refine tz 10 ?_
    try simp only [Act.put,sl,s0,ss]
    as_aux_lemma=>
     refine wrh1 11 fun K hK=>?_
     go_simp
     go_wp2_with (go_at_call 29;(refine (ZaD t p (s.extract f g) ⟨vk,vn,vl⟩ _ A A2 (fun b=>w.heap.size+3≤b∧b < w1.heap.size) ⟨ma,mb,mc,md,me,mf,mg,mh,mi,mj,mk,ml⟩ ⟨na,nb,nc,nd⟩ ⟨xa,xc⟩ OX.out hs (by exact ZlV ar _ _ HL.out) OP.out hp (by exact ZmP ar _ _ HR.out) HM.out HB.out (by exact ZmG ar _ _ HRV.out) (HG.out.below ZlD)).mono ?_);rw [HT.out];rintro e w4 ⟨hb4,⟨za,zc⟩,rfl,hry⟩;have HRY:=hid (ZmO (A':=fun b=>(w.heap.size+3≤b∧b < w1.heap.size)∨w1.heap.size+2≤b) (fun b h _=>h.elim Or.inl (fun h=>Or.inr (by (try simp at h);omega))) _ _ hry);clear hry;have hz4:=hb4.size;(try simp at hz4);have HT4:=hid (U9 (QG HT1.out) hb4);have HU4:=hid (U9 (QG HT2.out) hb4);have HR4:=hid (Zdu (Xb (KR HA7.out)) hb4);have HB4:=hid (show Below w.heap.size w w4 from ZlD);clear u0 u1 u2 u3 u4 u5 u6 u7 u8 u9 ua ub uc ud ue p0 p1 p2 p3 p4 p5 e0 e1 e2 e3 e4 h1 h2 hw1 hw2 hjl)
     refine hK.out _ _ ?_ (fun hHeld=>?_)
     ·exact Zom
     clear hK K
     refine tz 12 ?_
     try simp only [Act.put,sl,s0,ss]
     refine tz 13 ?_
     try simp only [Act.put,sl,s0,ss]
     refine tz 14 ?_
     try simp only [Act.put,sl,s0,ss]
     as_aux_lemma=>
      refine tz 15 ?_
      try simp only [Act.put,sl,s0,ss]
      refine tz 16 ?_
      try simp only [Act.put,sl,s0,ss]
      refine wrh1 17 fun K hK=>?_
      (rw [if_pos (ZV rfl _)];refine QK 9 _ _ rfl w1.heap.size 3 (.string x) [.string x] rfl rfl rfl (KM HT4.out 3 1 (by decide)) kr (by simp [Value.oneCell']) ?_;simp only [Act.put,sl,s0,ss])
      refine hK.out _ _ ?_ (fun hHeld=>?_)
      ·exact Zom
      clear hK K
      refine tz 18 ?_
      try simp only [Act.put,sl,s0,ss]
      as_aux_lemma=>
       refine wrh1 19 fun K hK=>?_
       (rw [if_pos (ZV rfl _)];refine QK 24 _ _ rfl w1.heap.size 4 (.agg #[.int .u8 yk,.int .i64 yn,.slice za yl.length zc]) [.int .u8 yk,.int .i64 yn,.slice za yl.length zc] rfl rfl rfl (KM (World.there_setCells HT4.out _ _ _) 4 3 (by decide)) kr (by simp [Value.oneCell']) ?_;simp only [Act.put,sl,s0,ss])
       refine hK.out _ _ ?_ (fun hHeld=>?_)
       ·exact Zom
       clear hK K
       refine tz 20 ?_
       try simp only [Act.put,sl,s0,ss]
       refine wrh1 21 fun K hK=>?_
       (rw [if_pos (ZV rfl _)];refine QK 3 _ _ rfl w1.heap.size 2 (.int .i64 n) [.int .i64 n] rfl rfl rfl (KM (World.there_setCells (World.there_setCells HT4.out _ _ _) _ _ _) 2 1 (by decide)) kr (by simp [Value.oneCell']) ?_;simp only [Act.put,sl,s0,ss])
       refine hK.out _ _ ?_ (fun hHeld=>?_)
       ·exact Zom
       clear hK K
       refine wpAnyH_done kr ?_ _
       as_aux_lemma=>
        (refine NoPanic.normal ?_;refine KL (fun W=>Below w.heap.size w W∧W.heap.size=w4.heap.size∧Hid (W.rangeAt w1.heap.size 0 [.int .u8 1,.int .i64 ((j:Int)+1),.int .i64 n,.string x,.int .u8 yk,.int .i64 yn,.slice za yl.length zc])∧Hid (W.there (w.heap.size+2) 0 7)∧Hid (RV W (fun b=>(w.heap.size+3≤b∧b < w1.heap.size)∨w1.heap.size+2≤b) ⟨yk,yn,yl⟩ za)) ⟨ZL om (ZL om (ZL om HB4.out)),by rw [YI,YI,YI],hid (ZfQ HR4.out HT4.out),hid (World.there_setCells (World.there_setCells (World.there_setCells HU4.out _ _ _) _ _ _) _ _ _),hid (ZmG ((XH so).trans ((XH so).trans (XH so))) _ _ HRY.out)⟩ ?_;clear HT4 HU4 HR4 HB4 HRY hHeld;intro W9 ⟨hb9,hz9,HR9,HT9,HRY⟩;as_aux_lemma=>(go_wp2_with (first|(refine wpList_load_mid rfl 44 _ rfl w1.heap.size 0 (by rfl) [.int .u8 1,.int .i64 ((j:Int)+1),.int .i64 n,.string x,.int .u8 yk,.int .i64 yn,.slice za yl.length zc] _ HR9.out underlying44 rfl kr ?_)|(refine wpList_store_mid rfl 44 _ _ rfl (w.heap.size+2) 0 _ rfl rfl HT9.out kr (by simp [Value.oneCell']) ?_));refine Zfn (fun W=>Below w.heap.size w W∧Hid (At W (w.heap.size+2) 0 [.int .u8 1,.int .i64 ((j:Int)+1),.int .i64 n,.string x,.int .u8 yk,.int .i64 yn,.slice za yl.length zc])∧Hid (RV W (fun b=>(w.heap.size+3≤b∧b < w1.heap.size)∨w1.heap.size+2≤b) ⟨yk,yn,yl⟩ za)) ⟨ZL om hb9,hid (XG HT9.out),hid (ZmG (XH so) _ _ HRY.out)⟩ ?_;clear hb9 hz9 HR9 HT9 HRY;intro W10 ⟨hb10,HA10,HRY⟩;obtain ⟨b0,b1,b2,b3,b4,b5,b6⟩:=ZeO.1 HA10.out;refine bodyPost_ret (v:=(.tuple #[.agg #[.int .u8 1,.int .i64 ((j:Int)+1),.int .i64 n,.string x,.int .u8 yk,.int .i64 yn,.slice za yl.length zc],.int .i64 0])) (by simp [results,Tryz.f12,go_sem,b0,b1,b2,b3,b4,b5,b6]) rfl ?_;exact ⟨hb10,⟨za,zc⟩,rfl,ZmO (A:=fun b=>(w.heap.size+3≤b∧b < w1.heap.size)∨w1.heap.size+2≤b) (fun b h _=>om) _ _ HRY.out⟩))
set_option maxRecDepth 512
theorem ZgJ {t:GT} {p:GP} {s:ByteArray} {N:Nat} (h:VQ t p s N=0):ZP t s=0∧(Zw p).2=0∧N≤1000:=by
 unfold VQ at h
 split at h
 ·omega
 split at h
 ·omega
 split at h
 ·omega
 exact ⟨om,om,om⟩
theorem Zi7 (t:GT) (p:GP) (s:ByteArray) (N:Nat) (w:World) (A A2:Nat→Prop) (m:TA) (mp:PA) (ox:okT t) (hs:Zb t≤1099511627776) (hl:RT w A t m) (op:okP p) (hp:Zm p≤1099511627776) (hr:RP w A2 p mp) (hG:GW w) (hE:VQ t p s N=0):
  Calls prog 12 #[TV t m,PV p mp,.string s,.int .i64 N] w fun e w'=>Below w.heap.size w w'∧∃my:VA,e=.returned (.tuple #[PVr (Zdw t p s N) my,.int .i64 0])∧RV w' (fun b=>w.heap.size≤b) (Zdw t p s N).v my.a:=by
 by_cases hne:(Yz s t p N 0).2=1
 ·obtain ⟨h1,h2,h3⟩:=ZgJ hE
  obtain ⟨r,e1,f,k,e2,e3,e4,e5,e6,e7, -⟩:=ZhV ox h1 hne
  obtain ⟨rf,rt,vk,vn,vl⟩:=r
  dsimp only at e2 e3
  subst e2 e3
  rw [ZiA hne e1]
  rw [e5] at e6 ⊢
  generalize hR:Yz s t p N 0=R at *
  obtain ⟨l,K⟩:=R
  obtain rfl:K=1:=hne
  obtain ⟨hlen, -⟩:=Zgk s t p N 0 l 1 hR
  obtain ⟨ys,rfl⟩:=List.getLast?_eq_some_iff.1 e1
  dsimp only
  generalize hT:YO t p 1024 (s.extract f (f+k)) ⟨vk,vn,vl⟩ 0=T
  obtain ⟨x,⟨yk,yn,yl⟩,n⟩:=T
  have hlen':(ys++[(⟨(f:Int),((f+k:Nat):Int),⟨vk,vn,vl⟩⟩:GR)]).length=ys.length+1:=sm
  refine (ZgI t p s N w A A2 m mp ox hs hl op hp hr hG hE (UW.2 h2) _ hR ys.length f (f+k) hlen' (by rw [hlen'] at hlen;omega) vk vn vl (fun h=>sm) om e4 e6 x yk yn yl n hT).mono fun e w' ⟨hb,my,he,hv⟩=>⟨hb,my,?_,hv⟩
  rw [he,hlen']
  rfl
 exact Zi6 t p s N w A A2 m mp ox hs hl op hp hr hE hne
abbrev RVr (e n s:Int) (u:ByteArray) (k m:Int) (my:VA):Value:=.agg #[.int .u8 e,.int .i64 n,.int .i64 s,.string u,.int .u8 k,.int .i64 m,.slice my.a 0 my.c]
theorem Zkb {t:GT} {p:GP} {s:ByteArray} {N:Nat} {e:Int} {n k:Nat} {u:ByteArray} {vk vn:Int} (h:Rx t p s N ⟨e,n,k,u,⟨vk,vn,[]⟩⟩) (w:World) (A A2:Nat→Prop) (m:TA) (mp:PA) (ox:okT t) (hs:Zb t≤1099511627776) (hl:RT w A t m) (op:okP p) (hp:Zm p≤1099511627776) (hr:RP w A2 p mp) (hG:GW w):
  Calls prog 12 #[TV t m,PV p mp,.string s,.int .i64 N] w fun q w'=>Below w.heap.size w w'∧∃my:VA,q=.returned (.tuple #[RVr e n k u vk vn my,.int .i64 0]):=by
 obtain ⟨h1,h2⟩:=h
 refine (Zi7 t p s N w A A2 m mp ox hs hl op hp hr hG h1).mono fun q w' ⟨hb,my,hq,hv⟩=>⟨hb,my,?_⟩
 rw [hq,h2]
 rfl
theorem UA {k n:Int} (h1:Yg k) (h2:Zv n):okV ⟨k,n,[]⟩:=ZA.2 ⟨h1,h2,sm,by simp [okVs]⟩
theorem Zgv (e n s:Nat) (u:ByteArray) (k m:Int) (hk:Yg k) (hm:Zv m) (w:World) (my my':VA):
  Calls prog 13 #[RVr e n s u k m my,RVr e n s u k m my'] w fun e w'=>e=.returned (.bool true)∧Below w.heap.size w w':=
 ZfV ⟨e,n,s,u,⟨k,m,[]⟩⟩ w (fun _=>True) (fun _=>True) my my' (UA hk hm) (by simp [RV,RVs]) (by simp [RV,RVs])
set_option maxRecDepth 100000
theorem ZeB {t:GT} {p:GP} {u:ByteArray} {v:GV} {s:ByteArray} {y:GV} {n:Nat} (h:Sx t p u v s y n) (w:World) (A A2:Nat→Prop) (m:TA) (mp:PA) (ox:okT t) (hs:Zb t≤1099511627776) (hl:RT w A t m) (op:okP p) (hp:Zm p≤1099511627776) (hr:RP w A2 p mp) (hG:GW w):
  Calls prog 18 #[TV t m,PV p mp,.string u,.string s,.int .i64 n] w fun e w'=>e=.returned (.bool true)∧Below w.heap.size w w':=by
 obtain ⟨h1,h2,h3⟩:=h
 obtain ⟨ma,mb,mc,md,me,mf,mg,mh,mi,mj,mk,ml⟩:=m
 obtain ⟨na,nb,nc,nd⟩:=mp
 have HL:=hid hl
 have HR:=hid hr
 have OX:=hid ox
 have OP:=hid op
 have HG:=hid hG
 have H1:=hid h1
 have H2:=hid h2
 have H3:=hid h3
 clear hl hr ox op hG h1 h2 h3
 go_enter func18,ntmps18
 go_wp2_with (go_at_call 8;refine (J2 t p u _ A A2 ⟨ma,mb,mc,md,me,mf,mg,mh,mi,mj,mk,ml⟩ ⟨na,nb,nc,nd⟩ OX.out hs (by exact ZlV az _ _ HL.out) OP.out hp (by exact ZmP az _ _ HR.out) H1.out v H2.out (by exact HG.out.below ZlD)).mono ?_;rw [H3.out];rintro e w1 ⟨hb1,mv,rfl,hrv⟩;clear hrv;have hz1:=hb1.size;(try simp at hz1);obtain ⟨hc1,hf1⟩:=Za hb1;have y0:w.heap.size < w1.heap.size:=om;have y1:w.heap.size+1 < w1.heap.size:=om)
 go_ret
 exact ⟨rfl,ZlD⟩
theorem Zeu {t:GT} {p:GP} {u:ByteArray} {k:Int} (h:Wj t p u=k) (hk:k≠0) (w:World) (A A2:Nat→Prop) (m:TA) (mp:PA) (ox:okT t) (hs:Zb t≤1099511627776) (hl:RT w A t m) (op:okP p) (hp:Zm p≤1099511627776) (hr:RP w A2 p mp) (hus:u.size≤9223372036854775807):
  Calls prog 19 #[TV t m,PV p mp,.string u,.int .i64 k] w fun e w'=>e=.returned (.bool true)∧Below w.heap.size w w':=by
 obtain ⟨ma,mb,mc,md,me,mf,mg,mh,mi,mj,mk,ml⟩:=m
 obtain ⟨na,nb,nc,nd⟩:=mp
 have HL:=hid hl
 have HR:=hid hr
 have OX:=hid ox
 have OP:=hid op
 have HE:=hid (show Wj t p u≠0 by rw [h];exact hk)
 have HK:=hid h
 clear hl hr ox op h
 go_enter func19,ntmps19
 go_wp2_with (go_at_call 8;refine (ZbS t p u _ A A2 ⟨ma,mb,mc,md,me,mf,mg,mh,mi,mj,mk,ml⟩ ⟨na,nb,nc,nd⟩ OX.out hs (by exact ZlV az _ _ HL.out) OP.out hp (by exact ZmP az _ _ HR.out) hus HE.out).mono ?_;rw [HK.out];rintro e w1 ⟨rfl,hb1⟩;have hz1:=hb1.size;(try simp at hz1);obtain ⟨hc1,hf1⟩:=Za hb1;have y0:w.heap.size < w1.heap.size:=om;have y1:w.heap.size+1 < w1.heap.size:=om)
 go_ret
 exact ⟨rfl,ZlD⟩
end Go.Proofs.YtclphfojkggcpaaGreatDoor
