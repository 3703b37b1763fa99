/- Part 74. -/
import Derived.Test.YtkdffbdnjfgpeaaGreatY7
import Derived.Test.YtkdffbdnjfgpeaaGreatY8
set_option linter.all false
namespace Go.Proofs.YtkdffbdnjfgpeaaGreat
open Go.Lib (hid)
open Go Go.RowKit Go.Proofs.Tryz
def ZhF (N:Nat):Prop:=∀(t:GT) (w:World) (A:Nat→Prop) (m:TA),Zb t≤N→okT t→Zb t≤1099511627776→RT w A t m →
  Calls prog 83 #[TV t m] w fun e w'=>e=.returned (.int .i64 (Z8 t))∧Below w.heap.size w w'
theorem Zxp {p:Prop} (h:p:=by
 obtain ⟨j,n,hj,rfl,rfl,HE,hn,hb,hz,hcell⟩:=hrel
 by_cases hlt:j < t.a.length
 ·obtain ⟨b,o,mj,rfl,hA,hbs,g0,gx⟩:=HL.out.get j hlt
  obtain ⟨k0,k1,k2,k3,k4,k5,k6,k7,k8,k9,ka,kb,kc,kd,ke⟩:=Yp.1 (g0.ext (ZtY hb) (A:=fun _=>True) trivial)
  have hs1:b < wr.heap.size:=om
  have hq1:=ZD t.a j hlt
  have hq2:=ZZ t.a j hlt
  have hq3:=Ym t.a (j+1)
  have hn2:n+Z8 t.a[j]≤1099511627776:=by have:=HE.out;omega
  have hn3:=Xh t.a[j]
  have HQ:=hid hq2
  clear hq2 hq3 g0
  go_wp2_with (go_at_call 83;refine (IH.out t.a[j] _ A mj om (O.out.get j hlt) om (by exact Zt2 az _ _ gx)).mono ?_;rintro e w2 ⟨rfl,hb2⟩)
  have hbb:Below w.heap.size w w2:=hb.trans (hb2.mono om)
  go_roundg (gk - 1)
  case measure=>omega
  case rel=>exact ⟨j+1,n+Z8 t.a[j],om,by go_num,by go_num,hid (by have:=HE.out;have:=HQ.out;omega),hn2,hbb,by have:=hb2.size;omega,(hb2.cell (by simp;omega)).trans hcell⟩
 have hjl:j=t.a.length:=om
 go_wp2_with fail
 go_ret
 exact ⟨Zf (by have:=HE.out;rw [hjl,List.take_length] at this;omega),hb⟩):p:=h
set_option maxRecDepth 100000
set_option maxHeartbeats 4000000
theorem ZfJ (N:Nat) (ih:ZhF N) (t:GT) (w:World) (A:Nat→Prop) (m:TA) (hN:Zb t≤N+1) (ox:okT t) (hs:Zb t≤1099511627776) (hl:RT w A t m) (h1:t.k=1):
  Calls prog 83 #[TV t m] w fun e w'=>e=.returned (.int .i64 (Z8 t))∧Below w.heap.size w w':=by
 obtain ⟨ma,mb,mc,md,me,mf,mg,mh,mi,mj,mk,ml⟩:=m
 have IH:=hid ih
 obtain ⟨h1,h2,_,h4,h5⟩:=Zo.1 hl
 have HL:=hid h5
 have HV:=hid (Zl.1 h1)
 have HVS:=hid h2
 have HP:=hid h4
 obtain ⟨⟨x1,x2⟩,ov,⟨ovl,ovs⟩,⟨l1,l2⟩,⟨l3,l4⟩,⟨owl,ow⟩,op,oal,oa⟩:=Ze.1 ox
 have O:=hid oa
 have OV:=hid ov
 have OVS:=hid ovs
 have OP:=hid op
 have hse:=Zq t
 have hsv:=Zr t.v
 have hsp:=ZS t.p
 have hnp:=Yv t.p
 have hsv2:Zg t.v≤1099511627776:=om
 have hsp2:Zm t.p≤1099511627776:=om
 clear ih hl ox oa ov ovs ow op h1 h2 h4 h5
 rw [Wv]
 obtain ⟨G,hG⟩:∃G,G=Vs t:=⟨_,rfl⟩
 rw [←hG]
 have hGl:1+G+Z5 t.a≤1099511627776:=by
  rw [hG,Vs];(repeat' split)<;>omega
 rw [Vs,if_pos h1] at hG
 have h1':(t.k==1)=true:=by simp [h1]
 have h4':(t.k==4)=false:=by simp [h1]
 have h9':(t.k==9)=false:=by simp [h1]
 clear h1
 have HGD:=hid hG
 clear hG
 go_enter func83,ntmps83
 go_wp2_with (go_at_call 113;refine (XQ _ t.v _ A ⟨ma,mb⟩ (Nat.le_refl _) hsv2 OV.out (by exact Zt8 az _ _ HV.out)).mono ?_;rintro e w1 ⟨rfl,hb1⟩;have hz1:=hb1.size;(try simp at hz1);obtain ⟨hc1,hf1⟩:=Za hb1)
 go_loopg [3,4] (0:Nat) (fun gk t3 i wr=>i=.int .i64 0∧t3=.int .i64 ((1+Zg t.v:Nat):Int)∧Below w.heap.size w wr∧w.heap.size < wr.heap.size∧Hid (At wr w.heap.size 0 [.int .u8 t.k,.int .u8 t.v.k,.int .i64 t.v.n,.slice ma t.v.l.length mb,.slice mc t.vs.length md,.int .i64 t.lo,.int .i64 t.hi,.slice me t.w.length mf,.int .u8 t.p.k,.int .u8 t.p.v.k,.int .i64 t.p.v.n,.slice mg t.p.v.l.length mh,.int .i64 t.p.n,.slice mi t.p.a.length mj,.slice mk t.a.length ml]))
 case atStart=>exact ⟨rfl,by go_num,ZtZ,by first|(simp;done)|(simp;omega)|omega,hid (ZO.2 ⟨gs,gs,gs,gs,gs,gs,gs,gs,gs,gs,gs,gs,gs,gs,gs⟩)⟩
 case round=>
  obtain ⟨rfl,rfl,hb0,hz0,hat⟩:=hrel
  obtain ⟨e0,e1,e2,e3,e4,e5,e6,e7,e8,e9,ea,eb,ec,ed,ee⟩:=ZO.1 hat.out
  clear hat
  go_wp2_with fail
  all_goals
  go_loopg [3,5] (t.a.length) (fun gk t3 i wr=>∃(j n:Nat),gk+j=t.a.length∧i=.int .i64 j∧t3=.int .i64 n∧Hid (n=1+G+Z4 (t.a.take j))∧n≤1099511627776∧Below w.heap.size w wr∧w.heap.size < wr.heap.size∧wr.cell? ⟨w.heap.size,14,none⟩=some (.slice mk t.a.length ml))
  case atStart=>exact ⟨0,1+G,om,rfl,by first|rfl|go_num|(have hg0:=HGD.out;subst hg0;go_num),hid (by simp [Z4]),om,ZtZ,om,gs⟩
  case round=>
   exact Zxp

theorem ZfM (N:Nat) (ih:ZhF N) (t:GT) (w:World) (A:Nat→Prop) (m:TA) (hN:Zb t≤N+1) (ox:okT t) (hs:Zb t≤1099511627776) (hl:RT w A t m) (h1:¬t.k=1) (h4:¬t.k=4) (h9:¬t.k=9):
  Calls prog 83 #[TV t m] w fun e w'=>e=.returned (.int .i64 (Z8 t))∧Below w.heap.size w w':=by
 obtain ⟨ma,mb,mc,md,me,mf,mg,mh,mi,mj,mk,ml⟩:=m
 have IH:=hid ih
 obtain ⟨h1,h2,_,h4,h5⟩:=Zo.1 hl
 have HL:=hid h5
 have HV:=hid (Zl.1 h1)
 have HVS:=hid h2
 have HP:=hid h4
 obtain ⟨⟨x1,x2⟩,ov,⟨ovl,ovs⟩,⟨l1,l2⟩,⟨l3,l4⟩,⟨owl,ow⟩,op,oal,oa⟩:=Ze.1 ox
 have O:=hid oa
 have OV:=hid ov
 have OVS:=hid ovs
 have OP:=hid op
 have hse:=Zq t
 have hsv:=Zr t.v
 have hsp:=ZS t.p
 have hnp:=Yv t.p
 have hsv2:Zg t.v≤1099511627776:=om
 have hsp2:Zm t.p≤1099511627776:=om
 clear ih hl ox oa ov ovs ow op h1 h2 h4 h5
 rw [Wv]
 obtain ⟨G,hG⟩:∃G,G=Vs t:=⟨_,rfl⟩
 rw [←hG]
 have hGl:1+G+Z5 t.a≤1099511627776:=by
  rw [hG,Vs];(repeat' split)<;>omega
 rw [Vs,if_neg h1,if_neg h4,if_neg h9] at hG
 have h1':(t.k==1)=false:=by simp [h1]
 have h4':(t.k==4)=false:=by simp [h4]
 have h9':(t.k==9)=false:=by simp [h9]
 clear h1 h4 h9
 have HGD:=hid hG
 clear hG
 go_enter func83,ntmps83
 go_wp2_with fail
 go_loopg [3,4] (0:Nat) (fun gk t3 i wr=>i=.int .i64 0∧t3=.int .i64 ((1:Nat):Int)∧Below w.heap.size w wr∧w.heap.size < wr.heap.size∧Hid (At wr w.heap.size 0 [.int .u8 t.k,.int .u8 t.v.k,.int .i64 t.v.n,.slice ma t.v.l.length mb,.slice mc t.vs.length md,.int .i64 t.lo,.int .i64 t.hi,.slice me t.w.length mf,.int .u8 t.p.k,.int .u8 t.p.v.k,.int .i64 t.p.v.n,.slice mg t.p.v.l.length mh,.int .i64 t.p.n,.slice mi t.p.a.length mj,.slice mk t.a.length ml]))
 case atStart=>exact ⟨rfl,by go_num,ZtZ,by first|(simp;done)|(simp;omega)|omega,hid (ZO.2 ⟨gs,gs,gs,gs,gs,gs,gs,gs,gs,gs,gs,gs,gs,gs,gs⟩)⟩
 case round=>
  obtain ⟨rfl,rfl,hb0,hz0,hat⟩:=hrel
  obtain ⟨e0,e1,e2,e3,e4,e5,e6,e7,e8,e9,ea,eb,ec,ed,ee⟩:=ZO.1 hat.out
  clear hat
  go_wp2_with fail
  all_goals
  go_loopg [3,5] (t.a.length) (fun gk t3 i wr=>∃(j n:Nat),gk+j=t.a.length∧i=.int .i64 j∧t3=.int .i64 n∧Hid (n=1+G+Z4 (t.a.take j))∧n≤1099511627776∧Below w.heap.size w wr∧w.heap.size < wr.heap.size∧wr.cell? ⟨w.heap.size,14,none⟩=some (.slice mk t.a.length ml))
  case atStart=>exact ⟨0,1+G,om,rfl,by first|rfl|go_num|(have hg0:=HGD.out;subst hg0;go_num),hid (by simp [Z4]),om,ZtZ,om,gs⟩
  case round=>
   exact Zxp

theorem ZfL (N:Nat) (ih:ZhF N) (t:GT) (w:World) (A:Nat→Prop) (m:TA) (hN:Zb t≤N+1) (ox:okT t) (hs:Zb t≤1099511627776) (hl:RT w A t m) (h1:¬t.k=1) (h4:¬t.k=4) (h9:t.k=9):
  Calls prog 83 #[TV t m] w fun e w'=>e=.returned (.int .i64 (Z8 t))∧Below w.heap.size w w':=by
 obtain ⟨ma,mb,mc,md,me,mf,mg,mh,mi,mj,mk,ml⟩:=m
 have IH:=hid ih
 obtain ⟨h1,h2,_,h4,h5⟩:=Zo.1 hl
 have HL:=hid h5
 have HV:=hid (Zl.1 h1)
 have HVS:=hid h2
 have HP:=hid h4
 obtain ⟨⟨x1,x2⟩,ov,⟨ovl,ovs⟩,⟨l1,l2⟩,⟨l3,l4⟩,⟨owl,ow⟩,op,oal,oa⟩:=Ze.1 ox
 have O:=hid oa
 have OV:=hid ov
 have OVS:=hid ovs
 have OP:=hid op
 have hse:=Zq t
 have hsv:=Zr t.v
 have hsp:=ZS t.p
 have hnp:=Yv t.p
 have hsv2:Zg t.v≤1099511627776:=om
 have hsp2:Zm t.p≤1099511627776:=om
 clear ih hl ox oa ov ovs ow op h1 h2 h4 h5
 rw [Wv]
 obtain ⟨G,hG⟩:∃G,G=Vs t:=⟨_,rfl⟩
 rw [←hG]
 have hGl:1+G+Z5 t.a≤1099511627776:=by
  rw [hG,Vs];(repeat' split)<;>omega
 rw [Vs,if_neg h1,if_neg h4,if_pos h9] at hG
 have h1':(t.k==1)=false:=by simp [h1]
 have h4':(t.k==4)=false:=by simp [h4]
 have h9':(t.k==9)=true:=by simp [h9]
 clear h1 h4 h9
 go_enter func83,ntmps83
 go_wp2_with fail
 go_loopg [3,4] (0:Nat) (fun gk t3 i wr=>i=.int .i64 0∧t3=.int .i64 ((1:Nat):Int)∧Below w.heap.size w wr∧w.heap.size < wr.heap.size∧Hid (At wr w.heap.size 0 [.int .u8 t.k,.int .u8 t.v.k,.int .i64 t.v.n,.slice ma t.v.l.length mb,.slice mc t.vs.length md,.int .i64 t.lo,.int .i64 t.hi,.slice me t.w.length mf,.int .u8 t.p.k,.int .u8 t.p.v.k,.int .i64 t.p.v.n,.slice mg t.p.v.l.length mh,.int .i64 t.p.n,.slice mi t.p.a.length mj,.slice mk t.a.length ml]))
 case atStart=>exact ⟨rfl,by go_num,ZtZ,by first|(simp;done)|(simp;omega)|omega,hid (ZO.2 ⟨gs,gs,gs,gs,gs,gs,gs,gs,gs,gs,gs,gs,gs,gs,gs⟩)⟩
 case round=>
  obtain ⟨rfl,rfl,hb0,hz0,hat⟩:=hrel
  obtain ⟨e0,e1,e2,e3,e4,e5,e6,e7,e8,e9,ea,eb,ec,ed,ee⟩:=ZO.1 hat.out
  clear hat
  subst hG
  go_wp2_with (go_at_call 129;refine (Js _ t.p _ A ⟨mg,mh,mi,mj⟩ (Nat.le_refl _) OP.out hsp2 (by exact Zub az _ _ HP.out)).mono ?_;rintro e w1 ⟨rfl,hb1⟩;have hz1:=hb1.size;(try simp at hz1);obtain ⟨hc1,hf1⟩:=Za hb1)
  all_goals
  go_loopg [3,5] (t.a.length) (fun gk t3 i wr=>∃(j n:Nat),gk+j=t.a.length∧i=.int .i64 j∧t3=.int .i64 n∧Hid (n=1+Xg t.p+Z4 (t.a.take j))∧n≤1099511627776∧Below w.heap.size w wr∧w.heap.size < wr.heap.size∧wr.cell? ⟨w.heap.size,14,none⟩=some (.slice mk t.a.length ml))
  case atStart=>exact ⟨0,1+Xg t.p,om,rfl,by go_num,hid (by simp [Z4]),om,ZtZ,om,gs⟩
  case round=>
   exact Zxp

theorem ZfK (N:Nat) (ih:ZhF N) (t:GT) (w:World) (A:Nat→Prop) (m:TA) (hN:Zb t≤N+1) (ox:okT t) (hs:Zb t≤1099511627776) (hl:RT w A t m) (h1:¬t.k=1) (h4:t.k=4):
  Calls prog 83 #[TV t m] w fun e w'=>e=.returned (.int .i64 (Z8 t))∧Below w.heap.size w w':=by
 obtain ⟨ma,mb,mc,md,me,mf,mg,mh,mi,mj,mk,ml⟩:=m
 have IH:=hid ih
 obtain ⟨h1,h2,_,h4,h5⟩:=Zo.1 hl
 have HL:=hid h5
 have HV:=hid (Zl.1 h1)
 have HVS:=hid h2
 have HP:=hid h4
 obtain ⟨⟨x1,x2⟩,ov,⟨ovl,ovs⟩,⟨l1,l2⟩,⟨l3,l4⟩,⟨owl,ow⟩,op,oal,oa⟩:=Ze.1 ox
 have O:=hid oa
 have OV:=hid ov
 have OVS:=hid ovs
 have OP:=hid op
 have hse:=Zq t
 have hsv:=Zr t.v
 have hsp:=ZS t.p
 have hnp:=Yv t.p
 have hsv2:Zg t.v≤1099511627776:=om
 have hsp2:Zm t.p≤1099511627776:=om
 clear ih hl ox oa ov ovs ow op h1 h2 h4 h5
 rw [Wv]
 obtain ⟨G,hG⟩:∃G,G=Vs t:=⟨_,rfl⟩
 rw [←hG]
 have hGl:1+G+Z5 t.a≤1099511627776:=by
  rw [hG,Vs];(repeat' split)<;>omega
 rw [Vs,if_neg h1,if_pos h4] at hG
 have h1':(t.k==1)=false:=by simp [h1]
 have h4':(t.k==4)=true:=by simp [h4]
 have h9':(t.k==9)=false:=by simp [h4]
 clear h1 h4
 have HGD:=hid hG
 clear hG
 go_enter func83,ntmps83
 go_wp2_with fail
 go_loopg [3,4] (t.vs.length) (fun gk t3 i wr=>∃(j n:Nat),gk+j=t.vs.length∧i=.int .i64 j∧t3=.int .i64 n∧Hid (n=1+Zi (t.vs.take j))∧n≤1099511627776∧Below w.heap.size w wr∧w.heap.size < wr.heap.size∧Hid (At wr w.heap.size 0 [.int .u8 t.k,.int .u8 t.v.k,.int .i64 t.v.n,.slice ma t.v.l.length mb,.slice mc t.vs.length md,.int .i64 t.lo,.int .i64 t.hi,.slice me t.w.length mf,.int .u8 t.p.k,.int .u8 t.p.v.k,.int .i64 t.p.v.n,.slice mg t.p.v.l.length mh,.int .i64 t.p.n,.slice mi t.p.a.length mj,.slice mk t.a.length ml]))
 case atStart=>exact ⟨0,1,om,rfl,by go_num,hid (by simp [Zi]),om,ZtZ,by first|(simp;done)|(simp;omega)|omega,hid (ZO.2 ⟨gs,gs,gs,gs,gs,gs,gs,gs,gs,gs,gs,gs,gs,gs,gs⟩)⟩
 case round=>
  obtain ⟨j,n,hj,rfl,rfl,HE,hn,hb,hz,HAT⟩:=hrel
  obtain ⟨e0,e1,e2,e3,e4,e5,e6,e7,e8,e9,ea,eb,ec,ed,ee⟩:=ZO.1 HAT.out
  by_cases hlt:j < t.vs.length
  ·obtain ⟨b,o,mj',rfl,hA,hbs,g0,gx⟩:=HVS.out.get j hlt
   obtain ⟨k0,k1,k2⟩:=At3.1 (g0.ext (ZtY hb) (A:=fun _=>True) trivial)
   have hs1:b < wr.heap.size:=om
   have hq1:=ZX t.vs j hlt
   have hq2:=X9 t.vs j hlt
   have hq3:=Un t.vs (j+1)
   have hn2:n+Zg t.vs[j]≤1099511627776:=by have:=HE.out;omega
   have HQ:=hid hq2
   clear g0 hq2 hq3
   go_wp2_with (go_at_call 113;refine (XQ _ t.vs[j] _ A mj' (Nat.le_refl _) om (OVS.out.get j hlt) (by exact Zl.1 (Zt5 az _ _ gx))).mono ?_;rintro e w2 ⟨rfl,hb2⟩)
   have hbb:Below w.heap.size w w2:=hb.trans (hb2.mono om)
   go_roundg (gk - 1)
   case measure=>omega
   case rel=>exact ⟨j+1,n+Zg t.vs[j],om,by go_num,by go_num,hid (by have:=HE.out;have:=HQ.out;omega),hn2,hbb,by have:=hb2.size;omega,hid (Zuf (ZtY hb2) (A:=fun _=>True) trivial _ _ HAT.out)⟩
  have hjl:j=t.vs.length:=om
  subst hjl
  have hG2:n=1+G:=by have h:=HE.out;rw [List.take_length] at h;rw [HGD.out];exact h
  subst hG2
  clear HE
  go_wp2_with fail
  all_goals
   go_loopg [3,5] (t.a.length) (fun gk t3 i wr=>∃(j n:Nat),gk+j=t.a.length∧i=.int .i64 j∧t3=.int .i64 n∧Hid (n=1+G+Z4 (t.a.take j))∧n≤1099511627776∧Below w.heap.size w wr∧w.heap.size < wr.heap.size∧wr.cell? ⟨w.heap.size,14,none⟩=some (.slice mk t.a.length ml))
   case atStart=>exact ⟨0,1+G,om,rfl,rfl,hid (by simp [Z4]),om,ZtZ,om,gs⟩
   case round=>
    obtain ⟨j,n,hj,rfl,rfl,HE,hn,hb,hz,hcell⟩:=hrel
    by_cases hlt:j < t.a.length
    ·obtain ⟨b,o,mj,rfl,hA,hbs,g0,gx⟩:=HL.out.get j hlt
     obtain ⟨k0,k1,k2,k3,k4,k5,k6,k7,k8,k9,ka,kb,kc,kd,ke⟩:=Yp.1 (g0.ext (ZtY hb) (A:=fun _=>True) trivial)
     have hs1:b < wr.heap.size:=om
     have hq1:=ZD t.a j hlt
     have hq2:=ZZ t.a j hlt
     have hq3:=Ym t.a (j+1)
     have hn2:n+Z8 t.a[j]≤1099511627776:=by have:=HE.out;omega
     have hn3:=Xh t.a[j]
     have HQ:=hid hq2
     clear hq2 hq3 g0
     go_wp2_with (go_at_call 83;refine (IH.out t.a[j] _ A mj om (O.out.get j hlt) om (by exact Zt2 az _ _ gx)).mono ?_;rintro e w2 ⟨rfl,hb2⟩)
     have hbb:Below w.heap.size w w2:=hb.trans (hb2.mono om)
     go_roundg (gk - 1)
     case measure=>omega
     case rel=>exact ⟨j+1,n+Z8 t.a[j],om,by go_num,by go_num,hid (by have:=HE.out;have:=HQ.out;omega),hn2,hbb,by have:=hb2.size;omega,(hb2.cell (by simp;omega)).trans hcell⟩
    have hjl:j=t.a.length:=om
    go_wp2_with fail
    go_ret
    exact ⟨Zf (by have:=HE.out;rw [hjl,List.take_length] at this;omega),hb⟩

set_option maxRecDepth 512
theorem Vx (N:Nat):ZhF N:=by
 induction N with
 | zero=>intro t;have:=X8 t;intros;omega
 | succ N ih=>
  intro t w A m hN ox hs hl
  by_cases h1:t.k=1
  ·exact ZfJ N ih t w A m hN ox hs hl h1
  by_cases h4:t.k=4
  ·exact ZfK N ih t w A m hN ox hs hl h1 h4
  by_cases h9:t.k=9
  ·exact ZfL N ih t w A m hN ox hs hl h1 h4 h9
  exact ZfM N ih t w A m hN ox hs hl h1 h4 h9
set_option maxRecDepth 100000
theorem Zeg (s:ByteArray) (w:World) (hs:s.size≤9223372036854775807):
  Calls prog 115 #[.string s] w fun e w'=>e=.returned (.bool (Zc s))∧Below w.heap.size w w':=by
 generalize hF:Zc s=F
 have HF:=hid hF
 clear hF
 go_enter func115,ntmps115
 go_wp2_with fail
 go_loopg [3] (s.size) (fun gk i wr=>∃j:Nat,gk+j=s.size∧i=.int .i64 j∧Hid (∀q (hq:q < s.size),q < j→s[q].toNat=48∨s[q].toNat=49)∧wr=w)
 case atStart=>exact ⟨0,om,rfl,fun q _ hq=>absurd hq om,rfl⟩
 case round=>
  obtain ⟨j,hj,rfl,HZ,rfl⟩:=hrel
  by_cases hlt:j < s.size
  ·go_wp2_with fail
   ·go_roundg (gk - 1)
    case measure=>omega
    case rel=>exact ⟨j+1,om,by go_num,fun q hq hj'=>(by
     by_cases hqj:q=j
     ·subst hqj;exact .inl om
     exact HZ.out q hq om),rfl⟩
   ·have h1:¬s[j].toNat=48:=om
    have h2:¬s[j].toNat=49:=by
     have h3:=‹(_ != _)=true∧(_ != _)=true›.2
     simp at h3;omega
    go_ret
    exact ⟨XA (by rw [←HF.out,Zc,JW s j hlt h1 h2,Bool.not_true,Bool.and_false]),ZtZ⟩
   have h2:s[j].toNat=49:=by
    have h3:=‹(_ != _)=false∨(_ != _)=false›
    simp at h3;omega
   go_roundg (gk - 1)
   case measure=>omega
   case rel=>exact ⟨j+1,om,by go_num,fun q hq hj'=>(by
    by_cases hqj:q=j
    ·subst hqj;exact .inr h2
    exact HZ.out q hq om),rfl⟩
  go_wp2_with fail
  go_ret
  exact ⟨XA (by rw [←HF.out,Zc,Kz s fun q hq=>HZ.out q hq om];simp;omega),ZtZ⟩
set_option maxRecDepth 512
theorem KB (s:ByteArray) (w:World) (hs:s.size≤9223372036854775807):
  Calls prog 77 #[.string s] w (Zgb s w):=by
 cases hF:Zc s
 all_goals have HF:=hid hF
 all_goals clear hF
 all_goals go_enter func77,ntmps77
 all_goals go_wp2_with (go_at_call 115;refine (Zeg s _ hs).mono ?_;rw [HF.out];rintro e w1 ⟨rfl,hb1⟩;obtain ⟨hc1,hf1⟩:=Za hb1;have hz1:=hb1.size)
 all_goals go_ret2
 ·exact ⟨ZtZ,.inr ⟨HF.out,rfl⟩⟩
 exact ⟨ZtZ,.inl ⟨HF.out,_,hz1,sm,rfl,⟨gs,gs,gs⟩,gs,gs,gs⟩⟩
theorem Zhs (s:ByteArray) (hb:Zc s=true) (i j:Nat) (hj:j < 64) (h:i+j < s.size):IntKind.u64.wrap (2*(YJ s i j:Int))=2*(YJ s i j:Int) ∧
  (s[i+j].toNat=48→YJ s i (j+1)=2*YJ s i j)∧(s[i+j].toNat=49→YJ s i (j+1)=2*YJ s i j+1∧IntKind.u64.wrap (2*(YJ s i j:Int)+1)=2*(YJ s i j:Int)+1):=by
 have h1:=ZbT s i hb j
 have h2:2 ^ j≤2 ^ 63:=Nat.pow_le_pow_right om om
 have h4:(s.data.toList.getD (i+j) 48)=s[i+j]:=by
  rw [K5 s (i+j) h]
  simp only [List.getD_eq_getElem?_getD,List.getElem?_eq_getElem (show i+j < s.data.toList.length by simpa using h),Option.getD_some]
 refine ⟨by rw [IntKind.wrap_u64];omega,fun e=>?_,fun e=>⟨?_,by rw [IntKind.wrap_u64];omega⟩⟩
 all_goals rw [YJ,h4]
 all_goals omega
set_option maxRecDepth 100000
theorem Qx (c:Nat) (s:ByteArray) (i:Nat) (o:Bool) (k:Nat) (w:World) (hb:Zc s=true) (hk:k≤64) (hi:i≤s.size) (hl:Cur w c s i o):
  Calls prog 276 #[.pointer (some ⟨c,0,none⟩),.int .i64 k] w (Zge c s i k o w):=by
 have HL:=hid hl
 have HB:=hid hb
 have hs:s.size≤1024:=by simp [Zc] at hb;exact hb.1
 clear hb
 obtain ⟨⟨c0,c1,c2⟩,f0,f1,f2⟩:=hl
 have hcs:c < w.heap.size:=World.block_lt_of_cell? _ _ c0
 have hk1:decide ((k:Int) < 0)=false:=sm
 have hk2:decide ((64:Int) < (k:Int))=false:=by simp;omega
 have hw0:IntKind.i64.wrap ((s.size:Int) - (i:Int))=(s.size:Int) - (i:Int):=IntWalk.i64_in _ om
 unfold Zge
 cases o
 case true=>
  simp only [show ¬(true=false∧i+k≤s.size) by simp,if_false]
  go_enter func276,ntmps276
  go_wp2_with fail
  go_ret2
  exact ⟨ZxG,rfl,HL.out⟩
 by_cases hik:i+k≤s.size
 case neg=>
  simp only [show ¬(false=false∧i+k≤s.size) by simp;omega,if_false]
  have hk3:decide ((s.size:Int) - (i:Int) < (k:Int))=true:=by simp;omega
  go_enter func276,ntmps276
  go_wp2_with fail
  go_region
  go_wp2_with fail
  go_ret2
  exact ⟨ZxG,rfl,⟨gs,gs,gs⟩,gs,gs,gs⟩
 simp only [show (false=false∧i+k≤s.size) from ⟨rfl,hik⟩,if_true,and_self]
 have hk3:decide ((s.size:Int) - (i:Int) < (k:Int))=false:=by simp;omega
 go_enter func276,ntmps276
 go_wp2_with fail
 go_region
 go_wp2_with fail
 go_loopg [6,7] k (fun gk v i' wr=>∃j:Nat,gk+j=k∧i'=.int .i64 j∧v=.int .u64 (YJ s i j)∧Below w.heap.size w wr)
 case atStart=>exact ⟨0,om,rfl,rfl,ZtZ⟩
 case round=>
  obtain ⟨j,hj,rfl,rfl,hb⟩:=hrel
  obtain ⟨hc2,hf2⟩:=Za hb
  by_cases hlt:j < k
  ·have hij:i+j < s.size:=om
   have hw1:IntKind.i64.wrap ((i:Int)+(j:Int))=(i:Int)+(j:Int):=IntWalk.i64_in _ om
   have hw2:(0:Int)≤(i:Int)+(j:Int):=om
   have hw3:(i:Int)+(j:Int) < (s.size:Int):=om
   have hw4:((i:Int)+(j:Int)).toNat=i+j:=om
   obtain ⟨t1,t2,t3⟩:=Zhs s HB.out i j om hij
   rcases Zcw s HB.out (i+j) hij with h48|h49
   ·have HT:=hid (t2 h48)
    clear t2 t3
    go_wp2_with fail
    go_region
    go_wp2_with fail
    go_roundg (gk - 1)
    case measure=>omega
    case rel=>exact ⟨j+1,om,by go_num,by rw [HT.out];exact congrArg (Value.int .u64) om,ZtZ⟩
   obtain ⟨t4,t5⟩:=t3 h49
   have HT:=hid t4
   clear t2 t3 t4
   go_wp2_with fail
   go_region
   go_wp2_with fail
   go_roundg (gk - 1)
   case measure=>omega
   case rel=>exact ⟨j+1,om,by go_num,by rw [HT.out];exact congrArg (Value.int .u64) om,ZtZ⟩
  have hjk:j=k:=om
  subst hjk
  have hbt:But c w.heap.size w wr:=Zue hb
  go_wp2_with fail
  go_ret2
  exact ⟨ZxG,rfl,⟨gs,gs,gs⟩,gs,gs,gs⟩
end Go.Proofs.YtkdffbdnjfgpeaaGreat
