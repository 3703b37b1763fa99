/- Part 73. -/
import Derived.Test.YtclphfojkggcpaaGreatDoorX63
import Derived.Test.YtclphfojkggcpaaGreatDoorX69
set_option linter.all false
namespace Go.Proofs.YtclphfojkggcpaaGreatDoor
open Go.Lib (hid)
open Go Go.RowKit Go.Proofs.Tryz
set_option maxRecDepth 100000
set_option maxHeartbeats 16000000
theorem ZhT (t:GT) (p:GP) (u:ByteArray) (w:World) (A A2:Nat→Prop) (m:TA) (mp:PA) (ox:okT t) (hs1:Zb t≤1048576) (hl:RT w A t m) (op:okP p) (hr:RP w A2 p mp) (hG:GW w) (s:ByteArray) (v:GV) (n e:Int) (ov:okV v)
  (hd:∀W,RT W A t m→RP W A2 p mp→Calls prog 7 #[TV t m,PV p mp,.string u] W fun q w'=>Below W.heap.size W w'∧∃my:VA,q=.returned (.tuple #[.string s,VV v my,.int .i64 n,.int .i64 e])∧RV w' (fun b=>W.heap.size≤b) v my.a)
  (hc:∀W,RT W A t m→RP W A2 p mp→GW W→Calls prog 8 #[TV t m,PV p mp,.string u] W fun q w'=>Below W.heap.size W w'∧∃my:VA,q=.returned (.tuple #[.string s,VV v my,.int .i64 n,.int .i64 e])∧RV w' (fun b=>W.heap.size≤b) v my.a):
  Calls prog 3 #[TV t m,PV p mp,.string u] w fun e w'=>e=.returned (.bool true)∧Below w.heap.size w w':=by
 obtain ⟨ma,mb,mc,md,me,mf,mg,mh,mi,mj,mk,ml⟩:=m
 obtain ⟨na,nb,nc,nd⟩:=mp
 obtain ⟨vk,vn,vl⟩:=v
 have HL:=hid hl
 have HR:=hid hr
 have OX:=hid ox
 have OP:=hid op
 have HG:=hid hG
 have OV:=hid ov
 have HD:=hid hd
 have HC:=hid hc
 have hlen:vl.length≤1048576:=(ZA.1 ov).2.2.1
 have hss:(s.toList==s.toList)=true:=beq_self_eq_true _
 have HSV:=hid (U8 (⟨vk,vn,vl⟩:GV))
 clear hl hr ox op hG ov hd hc
 go_enter func3,ntmps3
 go_wp2_with (first
  | (go_at_call 5;(with_reducible refine (Zfg t p u _ _ A A2 ⟨ma,mb,mc,md,me,mf,mg,mh,mi,mj,mk,ml⟩ ⟨na,nb,nc,nd⟩ OX.out hs1 (by exact ZlV ar _ _ HL.out) OP.out (by exact ZmP ar _ _ HR.out)).mono ?_);rintro e w1 ⟨⟨b1,rfl⟩,hb1⟩;obtain ⟨hc1,hf1⟩:=Za hb1;have hz1:=hb1.size;(try simp at hz1);have y1:w.heap.size < w1.heap.size:=om;have y2:w.heap.size+1 < w1.heap.size:=om;cases b1)
  | (go_at_call 6;(with_reducible refine (Za4 _ (HG.out.below ZlD)).mono ?_);rintro e wa ⟨rfl,hba⟩)
  | (go_at_call 7;(with_reducible refine (HD.out _ (by exact ZlV ar _ _ HL.out) (by exact ZmP ar _ _ HR.out)).mono ?_);rintro e3 w3 ⟨hb3,⟨xa,xc⟩,rfl,hv3⟩;have HV3:=hid hv3;clear hv3;obtain ⟨hc3,hf3⟩:=Za hb3;have hz3:=hb3.size;(try simp at hz3);have y3:w.heap.size < w3.heap.size:=om;have y4:w.heap.size+1 < w3.heap.size:=om))
 rotate_left
 ·go_ret
  exact ⟨rfl,ZlD⟩
 refine ZT (fun W=>Below w.heap.size w W∧w3.heap.size < W.heap.size∧Hid (At W w.heap.size 0 (TL t ⟨ma,mb,mc,md,me,mf,mg,mh,mi,mj,mk,ml⟩))∧Hid (At W (w.heap.size+1) 0 (PL p ⟨na,nb,nc,nd⟩))∧Hid (At W w3.heap.size 0 [.int .u8 vk,.int .i64 vn,.slice xa vl.length xc])∧Hid (RV W (fun _=>True) ⟨vk,vn,vl⟩ xa)) ⟨ZlD,sm,hid (ZO.2 ⟨gs,gs,gs,gs,gs,gs,gs,gs,gs,gs,gs,gs,gs,gs,gs⟩),hid (Qf.2 ⟨gs,gs,gs,gs,gs,gs⟩),hid (Q9.2 ⟨gs,gs,gs⟩),hid (ZmO (A:=fun b=>w.heap.size≤b) (fun _ _ _=>trivial) _ _ (ZmG ar _ _ (ZmO (fun b h _=>om) _ _ HV3.out)))⟩ ?_
 generalize hV:w3.heap.size=V
 have hV2:w.heap.size+1 < V:=om
 clear hc1 hf1 hc3 hf3 HV3 hz1 hz3 hb1 hb3 y1 y2 y3 y4 hV
 intro W0 ⟨hbw,hVz,HAT,HAP,HAV,HRV⟩
 go_loopg [11] 2 (fun gk t11' wr=>∃r:Nat,gk+r=2∧t11'=.int .i64 r∧Below W0.heap.size W0 wr)
 case atStart=>exact ⟨0,rfl,rfl,Below.refl _ _⟩
 case round=>
  obtain ⟨r,hr2,rfl,hbr⟩:=hrel
  have hzr:=hbr.size
  have hbwr:Below w.heap.size w wr:=hbw.trans (hbr.mono om)
  have u0:w.heap.size < wr.heap.size:=om
  have u1:w.heap.size+1 < wr.heap.size:=om
  have u2:V < wr.heap.size:=om
  by_cases hlt:r < 2
  ·have hlI:(r:Int) < 2:=om
   obtain ⟨c0,c1,c2,c3,c4,c5,c6,c7,c8,c9,ca,cb,cc,cd,ce⟩:=ZO.1 (ZmS (ZlH hbr) (A:=fun _=>True) trivial _ _ HAT.out)
   obtain ⟨p0,p1,p2,p3,p4,p5⟩:=Qf.1 (ZmS (ZlH hbr) (A:=fun _=>True) trivial _ _ HAP.out)
   obtain ⟨v0,v1,v2⟩:=Q9.1 (ZmS (ZlH hbr) (A:=fun _=>True) trivial _ _ HAV.out)
   have QT:=hid (ZlV (ZlH hbwr) _ _ HL.out)
   have QP:=hid (ZmP (ZlH hbwr) _ _ HR.out)
   have QV:=hid (ZmG (ZlH hbr) _ _ HRV.out)
   have hN0:0 < wr.heap.size:=om
   go_wp2_with (first
    | (go_at_call 8;(with_reducible refine (HC.out _ (by exact QT.out) (by exact QP.out) (HG.out.below ZlD)).mono ?_);rintro e4 w4 ⟨hb4,⟨za,zc⟩,rfl,hz⟩;have HZ:=hid hz;clear hz;obtain ⟨hc4,hf4⟩:=Za hb4;have hz4:=hb4.size;(try simp at hz4);have y5:w.heap.size < w4.heap.size:=om;have y6:w.heap.size+1 < w4.heap.size:=om;have y7:V < w4.heap.size:=om)
    | (go_at_call 9;refine (QA (Zg ⟨vk,vn,vl⟩) ⟨vk,vn,vl⟩ ⟨vk,vn,vl⟩ _ (fun b=>wr.heap.size≤b) (fun _=>True) ⟨za,zc⟩ ⟨xa,xc⟩ (Nat.le_refl _) OV.out OV.out (by exact Zl.1 (ZmG ar _ _ HZ.out)) (by exact Zl.1 (ZmG (ZlH (show Below wr.heap.size wr _ from ZlD)) _ _ QV.out))).mono ?_;rw [HSV.out];rintro e5 w5 ⟨rfl,hb5⟩;obtain ⟨hc5,hf5⟩:=Za hb5;have hz5:=hb5.size;(try simp at hz5);have y8:w4.heap.size < w5.heap.size:=om)
    | (go_at_call 10;(refine (ZeD ⟨vk,vn,vl⟩ ⟨za,zc⟩ wr.heap.size _ hN0 sz hlen (by exact ZmG (ZlH (show Below w4.heap.size w4 _ from ZlD)) _ _ HZ.out)).mono ?_);rintro e6 w6 ⟨rfl,hb6⟩))
   go_roundg (gk - 1)
   case measure=>omega
   case rel=>exact ⟨r+1,om,by go_num,ZlD⟩
  have hlI:¬(r:Int) < 2:=om
  go_wp2_with (go_at_call 6;(with_reducible refine (Za4 _ (HG.out.below ZlD)).mono ?_);rintro e wa ⟨rfl,hba⟩)
  go_ret
  exact ⟨rfl,ZlD⟩
set_option maxRecDepth 512
theorem Zda (w:World) (t:GT) (A:Nat→Prop) (m:TA) (ox:okT t) (hs1:Zb t≤1048576) (hl:RT w A t m) (p:GP) (A2:Nat→Prop) (mp:PA) (op:okP p) (hp1:Zm p≤1048576) (hr:RP w A2 p mp) (u:ByteArray) (hss:u.size≤1048576) (hG:GW w):
  Calls prog 3 #[TV t m,PV p mp,.string u] w fun e w'=>e=.returned (.bool true)∧Below w.heap.size w w':=by
 have hs:Zb t≤1099511627776:=om
 have hp:Zm p≤1099511627776:=om
 have hus:u.size≤9223372036854775807:=om
 by_cases hE:Wj t p u=0
 case neg=>
  refine ZhT t p u w A A2 m mp ox hs1 hl op hr hG ⟨#[]⟩ ⟨0,0,[]⟩ 0 (Wj t p u) (UA (by unfold Yg;omega) (by unfold Zv;omega)) (fun W g1 g2=>?_) (fun W g1 g2 g3=>?_)
  ·exact (ZfP t p u W A A2 m mp ox hs1 g1 op hp g2 hus hE).mono fun q w' ⟨h1,h2⟩=>⟨h2,⟨none,0⟩,h1,by simp [RV,RVs]⟩
  exact (ZbS t p u W A A2 m mp ox hs g1 op hp g2 hus hE).mono fun q w' ⟨h1,h2⟩=>⟨h2,⟨none,0⟩,h1,by simp [RV,RVs]⟩
 obtain ⟨e1,e2,v,hF⟩:=J1 hE
 have h3:=(Zgx ox 1024 u v 0 hF).1
 exact ZhT t p u w A A2 m mp ox hs1 hl op hr hG (YO t p 1024 u v 0).1 (YO t p 1024 u v 0).2.1 (YO t p 1024 u v 0).2.2 0 (Wp ox h3).2.2.2.2.2.2.1
  (fun W g1 g2=>Zhk t p u W A A2 m mp ox hs1 g1 op hp g2 hE v hF) (fun W g1 g2 g3=>J2 t p u W A A2 m mp ox hs g1 op hp g2 hE v hF g3)
end Go.Proofs.YtclphfojkggcpaaGreatDoor
