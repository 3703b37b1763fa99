/- What the proofs of the Trial statements need: part 43. -/
import Derived.Test.YtclphfojkggcpaaGreatZ2
import Derived.Test.YtclphfojkggcpaaGreatZ6
import Derived.Test.YtclphfojkggcpaaGreatZ8
set_option linter.unusedVariables false
set_option linter.unusedSimpArgs false
namespace Go.Proofs.YtclphfojkggcpaaGreat
open Go.Lib (hid)
open Go Go.RowKit
def R19N (N:Nat):Prop:=∀(t:GT) (w:World) (A:Nat→Prop) (m:TA),sizeT t≤N→okT t→sizeT t≤1099511627776→RT w A t m →
  Calls Tryz.prog 49 #[TV t m] w fun e w'=>e=.returned (.int .i64 (nodesT t))∧Below w.heap.size w w'
set_option maxRecDepth 100000 in
set_option maxHeartbeats 4000000 in
theorem r19nodes_1 (N:Nat) (ih:R19N N) (t:GT) (w:World) (A:Nat→Prop) (m:TA) (hN:sizeT t≤N+1) (ox:okT t) (hs:sizeT t≤1099511627776) (hl:RT w A t m) (h1:t.k=1):
  Calls Tryz.prog 49 #[TV t m] w fun e w'=>e=.returned (.int .i64 (nodesT t))∧Below w.heap.size w w':=by
 obtain ⟨ma,mb,mc,md,me,mf,mg,mh,mi,mj,mk,ml⟩:=m
 have IH:=hid ih
 obtain ⟨h1,h2,_,h4,h5⟩:=RT_iff.1 hl
 have HL:=hid h5
 have HV:=hid (RV_iff.1 h1)
 have HVS:=hid h2
 have HP:=hid h4
 obtain ⟨⟨x1,x2⟩,ov,⟨ovl,ovs⟩,⟨l1,l2⟩,⟨l3,l4⟩,⟨owl,ow⟩,op,oal,oa⟩:=okT_iff.1 ox
 have O:=hid oa
 have OV:=hid ov
 have OVS:=hid ovs
 have OP:=hid op
 have hse:=sizeT_eq t
 have hsv:=sizeV_pos t.v
 have hsp:=sizeP_pos t.p
 have hnp:=nodesP_le t.p
 have hsv2:sizeV t.v≤1099511627776:=by omega
 have hsp2:sizeP t.p≤1099511627776:=by omega
 clear ih hl ox oa ov ovs ow op h1 h2 h4 h5
 rw [nodesT_eq]
 obtain ⟨G,hG⟩:∃G,G=ownN t:=⟨_,rfl⟩
 rw [←hG]
 have hGl:1+G+sizeTs t.a≤1099511627776:=by
  rw [hG,ownN];(repeat' split)<;>omega
 rw [ownN,if_pos h1] at hG
 have h1':(t.k==1)=true:=by simp [h1]
 have h4':(t.k==4)=false:=by simp [h1]
 have h9':(t.k==9)=false:=by simp [h1]
 clear h1
 have HGD:=hid hG
 clear hG
 go_enter Tryz.func49,Tryz.ntmps49
 go_wp2_with (go_at_call 45;refine (r14size_any _ t.v _ A ⟨ma,mb⟩ (Nat.le_refl _) hsv2 OV.out (by exact RVs.ext (Agree.below Below.z) _ _ HV.out)).mono ?_;rintro e w1 ⟨rfl,hb1⟩;have hz1:=hb1.size;(try simp at hz1);obtain ⟨hc1,hf1⟩:=bcells hb1)
 go_loopg [3,4] (0:Nat) (fun gk t3 i wr=>i=.int .i64 0∧t3=.int .i64 ((1+sizeV t.v:Nat):Int)∧Below w.heap.size w wr∧w.heap.size < wr.heap.size∧Hid (At wr w.heap.size 0 [.int .u8 t.k,.int .u8 t.v.k,.int .i64 t.v.n,.slice ma t.v.l.length mb,.slice mc t.vs.length md,.int .i64 t.lo,.int .i64 t.hi,.slice me t.w.length mf,.int .u8 t.p.k,.int .u8 t.p.v.k,.int .i64 t.p.v.n,.slice mg t.p.v.l.length mh,.int .i64 t.p.n,.slice mi t.p.a.length mj,.slice mk t.a.length ml]))
 case atStart=>exact ⟨rfl,by go_num,Below.r,by first|(simp;done)|(simp;omega)|omega,hid (At15z.2 ⟨by go_simp,by go_simp,by go_simp,by go_simp,by go_simp,by go_simp,by go_simp,by go_simp,by go_simp,by go_simp,by go_simp,by go_simp,by go_simp,by go_simp,by go_simp⟩)⟩
 case round=>
  obtain ⟨rfl,rfl,hb0,hz0,hat⟩:=hrel
  obtain ⟨e0,e1,e2,e3,e4,e5,e6,e7,e8,e9,ea,eb,ec,ed,ee⟩:=At15z.1 hat.out
  clear hat
  go_wp2_with fail
  all_goals
  go_loopg [3,5] (t.a.length) (fun gk t3 i wr=>∃(j n:Nat),gk+j=t.a.length∧i=.int .i64 j∧t3=.int .i64 n∧Hid (n=1+G+nodesTs (t.a.take j))∧n≤1099511627776∧Below w.heap.size w wr∧w.heap.size < wr.heap.size∧wr.cell? ⟨w.heap.size,14,none⟩=some (.slice mk t.a.length ml))
  case atStart=>exact ⟨0,1+G,by omega,rfl,by first|rfl|go_num|(have hg0:=HGD.out;subst hg0;go_num),hid (by simp [nodesTs]),by omega,Below.r,by omega,by go_simp⟩
  case round=>
   obtain ⟨j,n,hj,rfl,rfl,HE,hn,hb,hz,hcell⟩:=hrel
   by_cases hlt:j < t.a.length
   ·obtain ⟨b,o,mj,rfl,hA,hbs,g0,gx⟩:=HL.out.get j hlt
    obtain ⟨k0,k1,k2,k3,k4,k5,k6,k7,k8,k9,ka,kb,kc,kd,ke⟩:=At15.1 (g0.ext (Agree.below hb) (A:=fun _=>True) trivial)
    have hs1:b < wr.heap.size:=by omega
    have hq1:=sizeTs_get t.a j hlt
    have hq2:=nodesTs_take_succ t.a j hlt
    have hq3:=nodesTs_take_le t.a (j+1)
    have hn2:n+nodesT t.a[j]≤1099511627776:=by have:=HE.out;omega
    have hn3:=nodesT_le t.a[j]
    have HQ:=hid hq2
    clear hq2 hq3 g0
    go_wp2_with (go_at_call 49;refine (IH.out t.a[j] _ A mj (by omega) (O.out.get j hlt) (by omega) (by exact RT.ext (Agree.below Below.z) _ _ gx)).mono ?_;rintro e w2 ⟨rfl,hb2⟩)
    have hbb:Below w.heap.size w w2:=hb.trans (hb2.mono (by omega))
    go_roundg (gk - 1)
    case measure=>omega
    case rel=>exact ⟨j+1,n+nodesT t.a[j],by omega,by go_num,by go_num,hid (by have:=HE.out;have:=HQ.out;omega),hn2,hbb,by have:=hb2.size;omega,(hb2.cell (by simp;omega)).trans hcell⟩
   ·have hjl:j=t.a.length:=by omega
    go_wp2_with fail
    go_ret
    exact ⟨ret_int (by have:=HE.out;rw [hjl,List.take_length] at this;omega),hb⟩

set_option maxRecDepth 100000 in
set_option maxHeartbeats 4000000 in
theorem r19nodes_n (N:Nat) (ih:R19N N) (t:GT) (w:World) (A:Nat→Prop) (m:TA) (hN:sizeT t≤N+1) (ox:okT t) (hs:sizeT t≤1099511627776) (hl:RT w A t m) (h1:¬t.k=1) (h4:¬t.k=4) (h9:¬t.k=9):
  Calls Tryz.prog 49 #[TV t m] w fun e w'=>e=.returned (.int .i64 (nodesT t))∧Below w.heap.size w w':=by
 obtain ⟨ma,mb,mc,md,me,mf,mg,mh,mi,mj,mk,ml⟩:=m
 have IH:=hid ih
 obtain ⟨h1,h2,_,h4,h5⟩:=RT_iff.1 hl
 have HL:=hid h5
 have HV:=hid (RV_iff.1 h1)
 have HVS:=hid h2
 have HP:=hid h4
 obtain ⟨⟨x1,x2⟩,ov,⟨ovl,ovs⟩,⟨l1,l2⟩,⟨l3,l4⟩,⟨owl,ow⟩,op,oal,oa⟩:=okT_iff.1 ox
 have O:=hid oa
 have OV:=hid ov
 have OVS:=hid ovs
 have OP:=hid op
 have hse:=sizeT_eq t
 have hsv:=sizeV_pos t.v
 have hsp:=sizeP_pos t.p
 have hnp:=nodesP_le t.p
 have hsv2:sizeV t.v≤1099511627776:=by omega
 have hsp2:sizeP t.p≤1099511627776:=by omega
 clear ih hl ox oa ov ovs ow op h1 h2 h4 h5
 rw [nodesT_eq]
 obtain ⟨G,hG⟩:∃G,G=ownN t:=⟨_,rfl⟩
 rw [←hG]
 have hGl:1+G+sizeTs t.a≤1099511627776:=by
  rw [hG,ownN];(repeat' split)<;>omega
 rw [ownN,if_neg h1,if_neg h4,if_neg h9] at hG
 have h1':(t.k==1)=false:=by simp [h1]
 have h4':(t.k==4)=false:=by simp [h4]
 have h9':(t.k==9)=false:=by simp [h9]
 clear h1 h4 h9
 have HGD:=hid hG
 clear hG
 go_enter Tryz.func49,Tryz.ntmps49
 go_wp2_with fail
 go_loopg [3,4] (0:Nat) (fun gk t3 i wr=>i=.int .i64 0∧t3=.int .i64 ((1:Nat):Int)∧Below w.heap.size w wr∧w.heap.size < wr.heap.size∧Hid (At wr w.heap.size 0 [.int .u8 t.k,.int .u8 t.v.k,.int .i64 t.v.n,.slice ma t.v.l.length mb,.slice mc t.vs.length md,.int .i64 t.lo,.int .i64 t.hi,.slice me t.w.length mf,.int .u8 t.p.k,.int .u8 t.p.v.k,.int .i64 t.p.v.n,.slice mg t.p.v.l.length mh,.int .i64 t.p.n,.slice mi t.p.a.length mj,.slice mk t.a.length ml]))
 case atStart=>exact ⟨rfl,by go_num,Below.r,by first|(simp;done)|(simp;omega)|omega,hid (At15z.2 ⟨by go_simp,by go_simp,by go_simp,by go_simp,by go_simp,by go_simp,by go_simp,by go_simp,by go_simp,by go_simp,by go_simp,by go_simp,by go_simp,by go_simp,by go_simp⟩)⟩
 case round=>
  obtain ⟨rfl,rfl,hb0,hz0,hat⟩:=hrel
  obtain ⟨e0,e1,e2,e3,e4,e5,e6,e7,e8,e9,ea,eb,ec,ed,ee⟩:=At15z.1 hat.out
  clear hat
  go_wp2_with fail
  all_goals
  go_loopg [3,5] (t.a.length) (fun gk t3 i wr=>∃(j n:Nat),gk+j=t.a.length∧i=.int .i64 j∧t3=.int .i64 n∧Hid (n=1+G+nodesTs (t.a.take j))∧n≤1099511627776∧Below w.heap.size w wr∧w.heap.size < wr.heap.size∧wr.cell? ⟨w.heap.size,14,none⟩=some (.slice mk t.a.length ml))
  case atStart=>exact ⟨0,1+G,by omega,rfl,by first|rfl|go_num|(have hg0:=HGD.out;subst hg0;go_num),hid (by simp [nodesTs]),by omega,Below.r,by omega,by go_simp⟩
  case round=>
   obtain ⟨j,n,hj,rfl,rfl,HE,hn,hb,hz,hcell⟩:=hrel
   by_cases hlt:j < t.a.length
   ·obtain ⟨b,o,mj,rfl,hA,hbs,g0,gx⟩:=HL.out.get j hlt
    obtain ⟨k0,k1,k2,k3,k4,k5,k6,k7,k8,k9,ka,kb,kc,kd,ke⟩:=At15.1 (g0.ext (Agree.below hb) (A:=fun _=>True) trivial)
    have hs1:b < wr.heap.size:=by omega
    have hq1:=sizeTs_get t.a j hlt
    have hq2:=nodesTs_take_succ t.a j hlt
    have hq3:=nodesTs_take_le t.a (j+1)
    have hn2:n+nodesT t.a[j]≤1099511627776:=by have:=HE.out;omega
    have hn3:=nodesT_le t.a[j]
    have HQ:=hid hq2
    clear hq2 hq3 g0
    go_wp2_with (go_at_call 49;refine (IH.out t.a[j] _ A mj (by omega) (O.out.get j hlt) (by omega) (by exact RT.ext (Agree.below Below.z) _ _ gx)).mono ?_;rintro e w2 ⟨rfl,hb2⟩)
    have hbb:Below w.heap.size w w2:=hb.trans (hb2.mono (by omega))
    go_roundg (gk - 1)
    case measure=>omega
    case rel=>exact ⟨j+1,n+nodesT t.a[j],by omega,by go_num,by go_num,hid (by have:=HE.out;have:=HQ.out;omega),hn2,hbb,by have:=hb2.size;omega,(hb2.cell (by simp;omega)).trans hcell⟩
   ·have hjl:j=t.a.length:=by omega
    go_wp2_with fail
    go_ret
    exact ⟨ret_int (by have:=HE.out;rw [hjl,List.take_length] at this;omega),hb⟩

set_option maxRecDepth 100000 in
set_option maxHeartbeats 4000000 in
theorem r19nodes_9 (N:Nat) (ih:R19N N) (t:GT) (w:World) (A:Nat→Prop) (m:TA) (hN:sizeT t≤N+1) (ox:okT t) (hs:sizeT t≤1099511627776) (hl:RT w A t m) (h1:¬t.k=1) (h4:¬t.k=4) (h9:t.k=9):
  Calls Tryz.prog 49 #[TV t m] w fun e w'=>e=.returned (.int .i64 (nodesT t))∧Below w.heap.size w w':=by
 obtain ⟨ma,mb,mc,md,me,mf,mg,mh,mi,mj,mk,ml⟩:=m
 have IH:=hid ih
 obtain ⟨h1,h2,_,h4,h5⟩:=RT_iff.1 hl
 have HL:=hid h5
 have HV:=hid (RV_iff.1 h1)
 have HVS:=hid h2
 have HP:=hid h4
 obtain ⟨⟨x1,x2⟩,ov,⟨ovl,ovs⟩,⟨l1,l2⟩,⟨l3,l4⟩,⟨owl,ow⟩,op,oal,oa⟩:=okT_iff.1 ox
 have O:=hid oa
 have OV:=hid ov
 have OVS:=hid ovs
 have OP:=hid op
 have hse:=sizeT_eq t
 have hsv:=sizeV_pos t.v
 have hsp:=sizeP_pos t.p
 have hnp:=nodesP_le t.p
 have hsv2:sizeV t.v≤1099511627776:=by omega
 have hsp2:sizeP t.p≤1099511627776:=by omega
 clear ih hl ox oa ov ovs ow op h1 h2 h4 h5
 rw [nodesT_eq]
 obtain ⟨G,hG⟩:∃G,G=ownN t:=⟨_,rfl⟩
 rw [←hG]
 have hGl:1+G+sizeTs t.a≤1099511627776:=by
  rw [hG,ownN];(repeat' split)<;>omega
 rw [ownN,if_neg h1,if_neg h4,if_pos h9] at hG
 have h1':(t.k==1)=false:=by simp [h1]
 have h4':(t.k==4)=false:=by simp [h4]
 have h9':(t.k==9)=true:=by simp [h9]
 clear h1 h4 h9
 go_enter Tryz.func49,Tryz.ntmps49
 go_wp2_with fail
 go_loopg [3,4] (0:Nat) (fun gk t3 i wr=>i=.int .i64 0∧t3=.int .i64 ((1:Nat):Int)∧Below w.heap.size w wr∧w.heap.size < wr.heap.size∧Hid (At wr w.heap.size 0 [.int .u8 t.k,.int .u8 t.v.k,.int .i64 t.v.n,.slice ma t.v.l.length mb,.slice mc t.vs.length md,.int .i64 t.lo,.int .i64 t.hi,.slice me t.w.length mf,.int .u8 t.p.k,.int .u8 t.p.v.k,.int .i64 t.p.v.n,.slice mg t.p.v.l.length mh,.int .i64 t.p.n,.slice mi t.p.a.length mj,.slice mk t.a.length ml]))
 case atStart=>exact ⟨rfl,by go_num,Below.r,by first|(simp;done)|(simp;omega)|omega,hid (At15z.2 ⟨by go_simp,by go_simp,by go_simp,by go_simp,by go_simp,by go_simp,by go_simp,by go_simp,by go_simp,by go_simp,by go_simp,by go_simp,by go_simp,by go_simp,by go_simp⟩)⟩
 case round=>
  obtain ⟨rfl,rfl,hb0,hz0,hat⟩:=hrel
  obtain ⟨e0,e1,e2,e3,e4,e5,e6,e7,e8,e9,ea,eb,ec,ed,ee⟩:=At15z.1 hat.out
  clear hat
  subst hG
  go_wp2_with (go_at_call 48;refine (r17nodes_any _ t.p _ A ⟨mg,mh,mi,mj⟩ (Nat.le_refl _) OP.out hsp2 (by exact RP.ext (Agree.below Below.z) _ _ HP.out)).mono ?_;rintro e w1 ⟨rfl,hb1⟩;have hz1:=hb1.size;(try simp at hz1);obtain ⟨hc1,hf1⟩:=bcells hb1)
  all_goals
  go_loopg [3,5] (t.a.length) (fun gk t3 i wr=>∃(j n:Nat),gk+j=t.a.length∧i=.int .i64 j∧t3=.int .i64 n∧Hid (n=1+nodesP t.p+nodesTs (t.a.take j))∧n≤1099511627776∧Below w.heap.size w wr∧w.heap.size < wr.heap.size∧wr.cell? ⟨w.heap.size,14,none⟩=some (.slice mk t.a.length ml))
  case atStart=>exact ⟨0,1+nodesP t.p,by omega,rfl,by go_num,hid (by simp [nodesTs]),by omega,Below.r,by omega,by go_simp⟩
  case round=>
   obtain ⟨j,n,hj,rfl,rfl,HE,hn,hb,hz,hcell⟩:=hrel
   by_cases hlt:j < t.a.length
   ·obtain ⟨b,o,mj,rfl,hA,hbs,g0,gx⟩:=HL.out.get j hlt
    obtain ⟨k0,k1,k2,k3,k4,k5,k6,k7,k8,k9,ka,kb,kc,kd,ke⟩:=At15.1 (g0.ext (Agree.below hb) (A:=fun _=>True) trivial)
    have hs1:b < wr.heap.size:=by omega
    have hq1:=sizeTs_get t.a j hlt
    have hq2:=nodesTs_take_succ t.a j hlt
    have hq3:=nodesTs_take_le t.a (j+1)
    have hn2:n+nodesT t.a[j]≤1099511627776:=by have:=HE.out;omega
    have hn3:=nodesT_le t.a[j]
    have HQ:=hid hq2
    clear hq2 hq3 g0
    go_wp2_with (go_at_call 49;refine (IH.out t.a[j] _ A mj (by omega) (O.out.get j hlt) (by omega) (by exact RT.ext (Agree.below Below.z) _ _ gx)).mono ?_;rintro e w2 ⟨rfl,hb2⟩)
    have hbb:Below w.heap.size w w2:=hb.trans (hb2.mono (by omega))
    go_roundg (gk - 1)
    case measure=>omega
    case rel=>exact ⟨j+1,n+nodesT t.a[j],by omega,by go_num,by go_num,hid (by have:=HE.out;have:=HQ.out;omega),hn2,hbb,by have:=hb2.size;omega,(hb2.cell (by simp;omega)).trans hcell⟩
   ·have hjl:j=t.a.length:=by omega
    go_wp2_with fail
    go_ret
    exact ⟨ret_int (by have:=HE.out;rw [hjl,List.take_length] at this;omega),hb⟩

set_option maxRecDepth 100000 in
set_option maxHeartbeats 4000000 in
theorem r19nodes_4 (N:Nat) (ih:R19N N) (t:GT) (w:World) (A:Nat→Prop) (m:TA) (hN:sizeT t≤N+1) (ox:okT t) (hs:sizeT t≤1099511627776) (hl:RT w A t m) (h1:¬t.k=1) (h4:t.k=4):
  Calls Tryz.prog 49 #[TV t m] w fun e w'=>e=.returned (.int .i64 (nodesT t))∧Below w.heap.size w w':=by
 obtain ⟨ma,mb,mc,md,me,mf,mg,mh,mi,mj,mk,ml⟩:=m
 have IH:=hid ih
 obtain ⟨h1,h2,_,h4,h5⟩:=RT_iff.1 hl
 have HL:=hid h5
 have HV:=hid (RV_iff.1 h1)
 have HVS:=hid h2
 have HP:=hid h4
 obtain ⟨⟨x1,x2⟩,ov,⟨ovl,ovs⟩,⟨l1,l2⟩,⟨l3,l4⟩,⟨owl,ow⟩,op,oal,oa⟩:=okT_iff.1 ox
 have O:=hid oa
 have OV:=hid ov
 have OVS:=hid ovs
 have OP:=hid op
 have hse:=sizeT_eq t
 have hsv:=sizeV_pos t.v
 have hsp:=sizeP_pos t.p
 have hnp:=nodesP_le t.p
 have hsv2:sizeV t.v≤1099511627776:=by omega
 have hsp2:sizeP t.p≤1099511627776:=by omega
 clear ih hl ox oa ov ovs ow op h1 h2 h4 h5
 rw [nodesT_eq]
 obtain ⟨G,hG⟩:∃G,G=ownN t:=⟨_,rfl⟩
 rw [←hG]
 have hGl:1+G+sizeTs t.a≤1099511627776:=by
  rw [hG,ownN];(repeat' split)<;>omega
 rw [ownN,if_neg h1,if_pos h4] at hG
 have h1':(t.k==1)=false:=by simp [h1]
 have h4':(t.k==4)=true:=by simp [h4]
 have h9':(t.k==9)=false:=by simp [h4]
 clear h1 h4
 have HGD:=hid hG
 clear hG
 go_enter Tryz.func49,Tryz.ntmps49
 go_wp2_with fail
 go_loopg [3,4] (t.vs.length) (fun gk t3 i wr=>∃(j n:Nat),gk+j=t.vs.length∧i=.int .i64 j∧t3=.int .i64 n∧Hid (n=1+sizeVs (t.vs.take j))∧n≤1099511627776∧Below w.heap.size w wr∧w.heap.size < wr.heap.size∧Hid (At wr w.heap.size 0 [.int .u8 t.k,.int .u8 t.v.k,.int .i64 t.v.n,.slice ma t.v.l.length mb,.slice mc t.vs.length md,.int .i64 t.lo,.int .i64 t.hi,.slice me t.w.length mf,.int .u8 t.p.k,.int .u8 t.p.v.k,.int .i64 t.p.v.n,.slice mg t.p.v.l.length mh,.int .i64 t.p.n,.slice mi t.p.a.length mj,.slice mk t.a.length ml]))
 case atStart=>exact ⟨0,1,by omega,rfl,by go_num,hid (by simp [sizeVs]),by omega,Below.r,by first|(simp;done)|(simp;omega)|omega,hid (At15z.2 ⟨by go_simp,by go_simp,by go_simp,by go_simp,by go_simp,by go_simp,by go_simp,by go_simp,by go_simp,by go_simp,by go_simp,by go_simp,by go_simp,by go_simp,by go_simp⟩)⟩
 case round=>
  obtain ⟨j,n,hj,rfl,rfl,HE,hn,hb,hz,HAT⟩:=hrel
  obtain ⟨e0,e1,e2,e3,e4,e5,e6,e7,e8,e9,ea,eb,ec,ed,ee⟩:=At15z.1 HAT.out
  by_cases hlt:j < t.vs.length
  ·obtain ⟨b,o,mj',rfl,hA,hbs,g0,gx⟩:=HVS.out.get j hlt
   obtain ⟨k0,k1,k2⟩:=At3.1 (g0.ext (Agree.below hb) (A:=fun _=>True) trivial)
   have hs1:b < wr.heap.size:=by omega
   have hq1:=sizeVs_get t.vs j hlt
   have hq2:=sizeVs_take_succ t.vs j hlt
   have hq3:=sizeVs_take t.vs (j+1)
   have hn2:n+sizeV t.vs[j]≤1099511627776:=by have:=HE.out;omega
   have HQ:=hid hq2
   clear g0 hq2 hq3
   go_wp2_with (go_at_call 45;refine (r14size_any _ t.vs[j] _ A mj' (Nat.le_refl _) (by omega) (OVS.out.get j hlt) (by exact RV_iff.1 (RV.ext (Agree.below Below.z) _ _ gx))).mono ?_;rintro e w2 ⟨rfl,hb2⟩)
   have hbb:Below w.heap.size w w2:=hb.trans (hb2.mono (by omega))
   go_roundg (gk - 1)
   case measure=>omega
   case rel=>exact ⟨j+1,n+sizeV t.vs[j],by omega,by go_num,by go_num,hid (by have:=HE.out;have:=HQ.out;omega),hn2,hbb,by have:=hb2.size;omega,hid (At.ext (Agree.below hb2) (A:=fun _=>True) trivial _ _ HAT.out)⟩
  ·have hjl:j=t.vs.length:=by omega
   subst hjl
   have hG2:n=1+G:=by have h:=HE.out;rw [List.take_length] at h;rw [HGD.out];exact h
   subst hG2
   clear HE
   go_wp2_with fail
   all_goals
    go_loopg [3,5] (t.a.length) (fun gk t3 i wr=>∃(j n:Nat),gk+j=t.a.length∧i=.int .i64 j∧t3=.int .i64 n∧Hid (n=1+G+nodesTs (t.a.take j))∧n≤1099511627776∧Below w.heap.size w wr∧w.heap.size < wr.heap.size∧wr.cell? ⟨w.heap.size,14,none⟩=some (.slice mk t.a.length ml))
    case atStart=>exact ⟨0,1+G,by omega,rfl,rfl,hid (by simp [nodesTs]),by omega,Below.r,by omega,by go_simp⟩
    case round=>
     obtain ⟨j,n,hj,rfl,rfl,HE,hn,hb,hz,hcell⟩:=hrel
     by_cases hlt:j < t.a.length
     ·obtain ⟨b,o,mj,rfl,hA,hbs,g0,gx⟩:=HL.out.get j hlt
      obtain ⟨k0,k1,k2,k3,k4,k5,k6,k7,k8,k9,ka,kb,kc,kd,ke⟩:=At15.1 (g0.ext (Agree.below hb) (A:=fun _=>True) trivial)
      have hs1:b < wr.heap.size:=by omega
      have hq1:=sizeTs_get t.a j hlt
      have hq2:=nodesTs_take_succ t.a j hlt
      have hq3:=nodesTs_take_le t.a (j+1)
      have hn2:n+nodesT t.a[j]≤1099511627776:=by have:=HE.out;omega
      have hn3:=nodesT_le t.a[j]
      have HQ:=hid hq2
      clear hq2 hq3 g0
      go_wp2_with (go_at_call 49;refine (IH.out t.a[j] _ A mj (by omega) (O.out.get j hlt) (by omega) (by exact RT.ext (Agree.below Below.z) _ _ gx)).mono ?_;rintro e w2 ⟨rfl,hb2⟩)
      have hbb:Below w.heap.size w w2:=hb.trans (hb2.mono (by omega))
      go_roundg (gk - 1)
      case measure=>omega
      case rel=>exact ⟨j+1,n+nodesT t.a[j],by omega,by go_num,by go_num,hid (by have:=HE.out;have:=HQ.out;omega),hn2,hbb,by have:=hb2.size;omega,(hb2.cell (by simp;omega)).trans hcell⟩
     ·have hjl:j=t.a.length:=by omega
      go_wp2_with fail
      go_ret
      exact ⟨ret_int (by have:=HE.out;rw [hjl,List.take_length] at this;omega),hb⟩

theorem r19nodes_any (N:Nat):R19N N:=by
 induction N with
 | zero=>intro t;have:=sizeT_pos t;intros;omega
 | succ N ih=>
  intro t w A m hN ox hs hl
  by_cases h1:t.k=1
  ·exact r19nodes_1 N ih t w A m hN ox hs hl h1
  by_cases h4:t.k=4
  ·exact r19nodes_4 N ih t w A m hN ox hs hl h1 h4
  by_cases h9:t.k=9
  ·exact r19nodes_9 N ih t w A m hN ox hs hl h1 h4 h9
  ·exact r19nodes_n N ih t w A m hN ox hs hl h1 h4 h9
theorem wE1 {t:GT} (h:(t.k==9)=false) (hn:nothingP t.p=false):weightsE t=3:=by
 unfold weightsE;rw [if_neg (by simpa using h),if_neg (by simp [hn])]
theorem wE2 {t:GT} (h:(t.k==9)=false) (hn:nothingP t.p=true):weightsE t=restW t:=by
 unfold weightsE;rw [if_neg (by simpa using h),if_pos hn]
theorem wE3 {t:GT} (h:(t.k==9)=true) (hn:(checkPE t.p).2≠0):weightsE t=(checkPE t.p).2:=by
 unfold weightsE;rw [if_pos (by simpa using h),if_pos hn]
theorem wE4 {t:GT} (h:(t.k==9)=true) (hn:(checkPE t.p).2=0):weightsE t=restW t:=by
 unfold weightsE;rw [if_pos (by simpa using h),if_neg (by simp [hn])]
theorem rW1 {t:GT} (h:(t.k==3)=true∨(t.k==4)=true):restW t=freqE t.w:=by
 unfold restW;rw [if_neg]
 simp at h
 omega
theorem rW2 {t:GT} (h3:(t.k==3)=false) (h4:(t.k==4)=false) (h:t.w.length=0):restW t=0:=by
 simp at h3 h4
 unfold restW;rw [if_pos ⟨h3,h4⟩,if_pos (by omega)]
theorem rW3 {t:GT} (h3:(t.k==3)=false) (h4:(t.k==4)=false) (h:¬t.w.length=0):restW t=3:=by
 simp at h3 h4
 unfold restW;rw [if_pos ⟨h3,h4⟩,if_neg (by omega)]
set_option maxRecDepth 100000 in
set_option maxHeartbeats 4000000 in
theorem r19has_rest (t:GT) (A:Nat→Prop) (m:TA) (w:World) (ox:okT t) (hs:sizeT t≤1099511627776) (hl:RT w A t m) (h:headE t=0) (h4:t.k=4∨t.vs.length=0):
  Calls Tryz.prog 66 #[TV t m] w fun e w'=>e=.returned (.int .i64 (if firstVs t.vs≠0 then firstVs t.vs else weightsE t))∧Below w.heap.size w w':=by
 obtain ⟨x1,ov,⟨ovl,ovs⟩,l1,l2,⟨owl,ow⟩,op,oal,oa⟩:=okT_iff.1 ox
 obtain ⟨v1,v2,v3,_⟩:=okV_iff.1 ov
 obtain ⟨ma,mb,mc,md,me,mf,mg,mh,mi,mj,mk,ml⟩:=m
 obtain ⟨r1,r2,r3,r4,r5⟩:=RT_iff.1 hl
 have HV:=hid (And.intro v1 (And.intro v2 v3))
 have OV:=hid ov
 have OVS:=hid ovs
 have OW:=hid ow
 have OP:=hid op
 have HLV:=hid (RV_iff.1 r1)
 have HVS:=hid r2
 have HWS:=hid r3
 have HPS:=hid r4
 have hse:=sizeT_eq t
 have hsv:sizeV t.v≤1099511627776:=by omega
 have hsp:sizeP t.p≤1099511627776:=by omega
 have hsvs:sizeVs t.vs≤1099511627776:=by omega
 generalize hF:(if firstVs t.vs≠0 then firstVs t.vs else weightsE t)=F
 have HF:=hid hF
 clear hF
 have h4':(t.k != 4)=true→(0:Int) < (t.vs.length:Int)→False:=fun a b=>by
  rcases h4 with h4|h4
  ·simp [h4] at a
  ·omega
 have H4:=hid h4
 clear ox ov ovs ow op oa v1 v2 v3 hl hse r1 r2 r3 r4 r5 h4
 have key:∀(b1 b4:Bool),(t.k==1)=b1→(t.k != 4)=b4→(b4=true→decide (0 < t.vs.length)=false) →
  Calls Tryz.prog 66 #[TV t ⟨ma,mb,mc,md,me,mf,mg,mh,mi,mj,mk,ml⟩] w fun e w'=>e=.returned (.int .i64 F)∧Below w.heap.size w w':=by
  intro b1 b4 hb1 hb4 hvl
  have hcv:b1=true→checkV t.v=0:=fun e=>by
   subst e
   have hk:t.k=1:=by simpa using hb1
   unfold headE at h;rw [if_pos hk] at h;exact h
  have hnv:b1=false→noneV t.v=true:=fun e=>by
   subst e
   have hk:¬t.k=1:=by simpa using hb1
   unfold headE at h;rw [if_neg hk] at h
   cases hn:noneV t.v
   ·rw [hn] at h;simp at h
   ·rfl
  have hb4':b4=false→True:=fun _=>trivial
  clear h
  cases b1
  all_goals cases b4
  all_goals (try have hvd:=hvl rfl)
  all_goals (try have HN:=hid (hnv rfl))
  all_goals (try have HC:=hid (hcv rfl))
  all_goals clear hcv hnv hvl hb4' h4'
  all_goals
   go_enter Tryz.func66,Tryz.ntmps66
   go_wp2_with (first
    | (go_at_call 107;refine (r19none_any t.v ⟨ma,mb⟩ _ HV.out).mono ?_;rw [HN.out];rintro e w1 ⟨rfl,hbx⟩;have hB1:=hbx;clear hbx;obtain ⟨hc1,hf1⟩:=bcells hB1)
    | (go_at_call 106;refine (r14check_any t.v _ A ⟨ma,mb⟩ OV.out hsv (by exact RVs.ext (Agree.below Below.z) _ _ HLV.out)).mono ?_;rw [HC.out];rintro e w1 ⟨rfl,hbx⟩;have hB1:=hbx;clear hbx;obtain ⟨hc1,hf1⟩:=bcells hB1))
   have hz1:=hB1.size
   simp at hz1
   have hbw1:Below w.heap.size w w1:=Below.r
   have HB1:Hid (At w1 w.heap.size 0 [.int .u8 t.k,.int .u8 t.v.k,.int .i64 t.v.n,.slice ma t.v.l.length mb,.slice mc t.vs.length md,.int .i64 t.lo,.int .i64 t.hi,.slice me t.w.length mf,.int .u8 t.p.k,.int .u8 t.p.v.k,.int .i64 t.p.v.n,.slice mg t.p.v.l.length mh,.int .i64 t.p.n,.slice mi t.p.a.length mj,.slice mk t.a.length ml]):=hid (At15z.2 ⟨(hB1.cell so).trans (by go_simp),(hB1.cell so).trans (by go_simp),(hB1.cell so).trans (by go_simp),(hB1.cell so).trans (by go_simp),(hB1.cell so).trans (by go_simp),(hB1.cell so).trans (by go_simp),(hB1.cell so).trans (by go_simp),(hB1.cell so).trans (by go_simp),(hB1.cell so).trans (by go_simp),(hB1.cell so).trans (by go_simp),(hB1.cell so).trans (by go_simp),(hB1.cell so).trans (by go_simp),(hB1.cell so).trans (by go_simp),(hB1.cell so).trans (by go_simp),(hB1.cell so).trans (by go_simp)⟩)
   go_loopg [4] (t.vs.length) (fun gk i wr=>∃j:Nat,gk+j=t.vs.length∧i=.int .i64 j∧Hid (∀q (h:q < t.vs.length),q < j→checkV t.vs[q]=0)∧Below w1.heap.size w1 wr)
   case atStart=>exact ⟨0,by omega,rfl,hid (fun q h hq=>absurd hq (by omega)),Below.refl _ _⟩
   case round=>
    obtain ⟨j,hj,rfl,HZ,hbr⟩:=hrel
    have hzr:=hbr.size
    have hbw:Below w.heap.size w wr:=hbw1.trans (hbr.mono (by omega))
    have u0:w.heap.size < wr.heap.size:=by omega
    obtain ⟨c0,c1,c2,c3,c4,c5,c6,c7,c8,c9,ca,cb,cc,cd,ce⟩:=At15z.1 (At.ext (Agree.below hbr) (A:=fun _=>True) trivial _ _ HB1.out)
    by_cases hlt:j < t.vs.length
    ·obtain ⟨b,o,mj',rfl,hA,hbs,g0,gx⟩:=HVS.out.get j hlt
     obtain ⟨k0,k1,k2⟩:=At3.1 (g0.ext (Agree.below hbw) (A:=fun _=>True) trivial)
     have hs1:b < wr.heap.size:=by omega
     have hq1:=sizeVs_get t.vs j hlt
     clear g0
     by_cases hc:checkV t.vs[j]=0
     ·have hc':(checkV t.vs[j] != 0)=false:=by simp [hc]
      have HCJ:=hid hc
      clear hc
      go_wp2_with (go_at_call 106;refine (r14check_any t.vs[j] _ A mj' (OVS.out.get j hlt) (by omega) (by exact RVs.ext (Agree.below Below.r) _ _ (RV_iff.1 gx))).mono ?_;rintro e w2 ⟨rfl,hb2⟩)
      go_roundg (gk - 1)
      case measure=>omega
      case rel=>exact ⟨j+1,by omega,by go_num,hid (fun q h hq=>by
       by_cases hqj:q=j
       ·subst hqj;exact HCJ.out
       ·exact HZ.out q h (by omega)),hbr.trans (hb2.mono (by omega))⟩
     ·have hc':(checkV t.vs[j] != 0)=true:=by simp [hc]
      have hfv:=firstVs_get t.vs j hlt (fun q h hq=>HZ.out q h hq) hc
      have HFV:=hid (show F=checkV t.vs[j] by rw [←HF.out,hfv,if_pos hc])
      clear hc hfv
      go_wp2_with (go_at_call 106;refine (r14check_any t.vs[j] _ A mj' (OVS.out.get j hlt) (by omega) (by exact RVs.ext (Agree.below Below.r) _ _ (RV_iff.1 gx))).mono ?_;rintro e w2 ⟨rfl,hb2⟩)
      go_ret
      exact ⟨ret_int HFV.out.symm,hbw.trans (hb2.mono (by omega))⟩
    ·have hFW:weightsE t=F:=by
      rw [←HF.out,firstVs_zero t.vs fun q h=>HZ.out q h (by omega),if_neg (by simp)]
     have HFW:=hid hFW
     clear hFW
     cases k9:(t.k==9)
     ·cases hnp:nothingP t.p
      ·have HNP:=hid hnp
       have HFF:=hid ((wE1 k9 hnp).symm.trans HFW.out)
       clear hnp
       go_wp2_with (go_at_call 108;refine (r17nothing_any t.p ⟨mg,mh,mi,mj⟩ _ OP.out).mono ?_;rw [HNP.out];rintro e w2 ⟨rfl,hb2⟩;have hz2:=hb2.size;obtain ⟨hc2,hf2⟩:=bcells hb2;have u2:w.heap.size < w2.heap.size:=(by omega))
       go_ret
       exact ⟨ret_int HFF.out,Below.r⟩
      ·have HNP:=hid hnp
       have HRW:=hid ((wE2 k9 hnp).symm.trans HFW.out)
       clear hnp
       cases k3:(t.k==3)
       ·cases k4:(t.k==4)
        ·by_cases hw0:t.w.length=0
         ·have HFF:=hid ((rW2 k3 k4 hw0).symm.trans HRW.out)
          have hwd:decide (0 < t.w.length)=false:=by simp [hw0]
          clear hw0
          go_wp2_with (go_at_call 108;refine (r17nothing_any t.p ⟨mg,mh,mi,mj⟩ _ OP.out).mono ?_;rw [HNP.out];rintro e w2 ⟨rfl,hb2⟩;have hz2:=hb2.size;obtain ⟨hc2,hf2⟩:=bcells hb2;have u2:w.heap.size < w2.heap.size:=(by omega))
          go_ret
          exact ⟨ret_int HFF.out,Below.r⟩
         ·have HFF:=hid ((rW3 k3 k4 hw0).symm.trans HRW.out)
          have hwd:decide (0 < t.w.length)=true:=decide_eq_true (by omega)
          clear hw0
          go_wp2_with (go_at_call 108;refine (r17nothing_any t.p ⟨mg,mh,mi,mj⟩ _ OP.out).mono ?_;rw [HNP.out];rintro e w2 ⟨rfl,hb2⟩;have hz2:=hb2.size;obtain ⟨hc2,hf2⟩:=bcells hb2;have u2:w.heap.size < w2.heap.size:=(by omega))
          go_ret
          exact ⟨ret_int HFF.out,Below.r⟩
        ·have HFF:=hid ((rW1 (.inr k4)).symm.trans HRW.out)
         go_wp2_with (first|(go_at_call 108;refine (r17nothing_any t.p ⟨mg,mh,mi,mj⟩ _ OP.out).mono ?_;rw [HNP.out];rintro e w2 ⟨rfl,hb2⟩;have hz2:=hb2.size;obtain ⟨hc2,hf2⟩:=bcells hb2;have u2:w.heap.size < w2.heap.size:=(by omega))|(go_at_call 109;refine (r11wrong_any t.w _ A me mf owl OW.out (by exact RIs.ext (Agree.below Below.r) _ _ HWS.out)).mono ?_;rintro e w3 ⟨rfl,hb3⟩))
         go_ret
         exact ⟨ret_int HFF.out,Below.r⟩
       ·have HFF:=hid ((rW1 (.inl k3)).symm.trans HRW.out)
        go_wp2_with (first|(go_at_call 108;refine (r17nothing_any t.p ⟨mg,mh,mi,mj⟩ _ OP.out).mono ?_;rw [HNP.out];rintro e w2 ⟨rfl,hb2⟩;have hz2:=hb2.size;obtain ⟨hc2,hf2⟩:=bcells hb2;have u2:w.heap.size < w2.heap.size:=(by omega))|(go_at_call 109;refine (r11wrong_any t.w _ A me mf owl OW.out (by exact RIs.ext (Agree.below Below.r) _ _ HWS.out)).mono ?_;rintro e w3 ⟨rfl,hb3⟩))
        go_ret
        exact ⟨ret_int HFF.out,Below.r⟩
     ·by_cases hcp:(checkPE t.p).2=0
      ·have hcp':((checkPE t.p).2 != 0)=false:=by simp [hcp]
       have HRW:=hid ((wE4 k9 hcp).symm.trans HFW.out)
       clear hcp
       cases k3:(t.k==3)
       ·cases k4:(t.k==4)
        ·by_cases hw0:t.w.length=0
         ·have HFF:=hid ((rW2 k3 k4 hw0).symm.trans HRW.out)
          have hwd:decide (0 < t.w.length)=false:=by simp [hw0]
          clear hw0
          go_wp2_with (go_at_call 30;refine (r17checkE_any t.p _ A ⟨mg,mh,mi,mj⟩ OP.out hsp (by exact RP.ext (Agree.below Below.r) _ _ HPS.out)).mono ?_;rintro e w2 ⟨rfl,hb2⟩;have hz2:=hb2.size;obtain ⟨hc2,hf2⟩:=bcells hb2;have u2:w.heap.size < w2.heap.size:=(by omega))
          go_ret
          exact ⟨ret_int HFF.out,Below.r⟩
         ·have HFF:=hid ((rW3 k3 k4 hw0).symm.trans HRW.out)
          have hwd:decide (0 < t.w.length)=true:=decide_eq_true (by omega)
          clear hw0
          go_wp2_with (go_at_call 30;refine (r17checkE_any t.p _ A ⟨mg,mh,mi,mj⟩ OP.out hsp (by exact RP.ext (Agree.below Below.r) _ _ HPS.out)).mono ?_;rintro e w2 ⟨rfl,hb2⟩;have hz2:=hb2.size;obtain ⟨hc2,hf2⟩:=bcells hb2;have u2:w.heap.size < w2.heap.size:=(by omega))
          go_ret
          exact ⟨ret_int HFF.out,Below.r⟩
        ·have HFF:=hid ((rW1 (.inr k4)).symm.trans HRW.out)
         go_wp2_with (first|(go_at_call 30;refine (r17checkE_any t.p _ A ⟨mg,mh,mi,mj⟩ OP.out hsp (by exact RP.ext (Agree.below Below.r) _ _ HPS.out)).mono ?_;rintro e w2 ⟨rfl,hb2⟩;have hz2:=hb2.size;obtain ⟨hc2,hf2⟩:=bcells hb2;have u2:w.heap.size < w2.heap.size:=(by omega))|(go_at_call 109;refine (r11wrong_any t.w _ A me mf owl OW.out (by exact RIs.ext (Agree.below Below.r) _ _ HWS.out)).mono ?_;rintro e w3 ⟨rfl,hb3⟩))
         go_ret
         exact ⟨ret_int HFF.out,Below.r⟩
       ·have HFF:=hid ((rW1 (.inl k3)).symm.trans HRW.out)
        go_wp2_with (first|(go_at_call 30;refine (r17checkE_any t.p _ A ⟨mg,mh,mi,mj⟩ OP.out hsp (by exact RP.ext (Agree.below Below.r) _ _ HPS.out)).mono ?_;rintro e w2 ⟨rfl,hb2⟩;have hz2:=hb2.size;obtain ⟨hc2,hf2⟩:=bcells hb2;have u2:w.heap.size < w2.heap.size:=(by omega))|(go_at_call 109;refine (r11wrong_any t.w _ A me mf owl OW.out (by exact RIs.ext (Agree.below Below.r) _ _ HWS.out)).mono ?_;rintro e w3 ⟨rfl,hb3⟩))
        go_ret
        exact ⟨ret_int HFF.out,Below.r⟩
      ·have hcp':((checkPE t.p).2 != 0)=true:=by simp [hcp]
       have HFF:=hid ((wE3 k9 hcp).symm.trans HFW.out)
       clear hcp
       go_wp2_with (go_at_call 30;refine (r17checkE_any t.p _ A ⟨mg,mh,mi,mj⟩ OP.out hsp (by exact RP.ext (Agree.below Below.r) _ _ HPS.out)).mono ?_;rintro e w2 ⟨rfl,hb2⟩;have hz2:=hb2.size;obtain ⟨hc2,hf2⟩:=bcells hb2;have u2:w.heap.size < w2.heap.size:=(by omega))
       go_ret
       exact ⟨ret_int HFF.out,Below.r⟩
 exact key _ _ rfl rfl fun a=>decide_eq_false fun b=>h4' a (by omega)
set_option maxRecDepth 100000 in
set_option maxHeartbeats 2000000 in
theorem r19has_vs (t:GT) (A:Nat→Prop) (m:TA) (w:World) (ox:okT t) (hs:sizeT t≤1099511627776) (hl:RT w A t m) (h:headE t=0) (h4:¬t.k=4) (h5:¬t.vs.length=0):
  Calls Tryz.prog 66 #[TV t m] w fun e w'=>e=.returned (.int .i64 3)∧Below w.heap.size w w':=by
 obtain ⟨x1,ov,⟨ovl,ovs⟩,l1,l2,⟨owl,ow⟩,op,oal,oa⟩:=okT_iff.1 ox
 obtain ⟨v1,v2,v3,_⟩:=okV_iff.1 ov
 obtain ⟨ma,mb,mc,md,me,mf,mg,mh,mi,mj,mk,ml⟩:=m
 have HV:=hid (And.intro v1 (And.intro v2 v3))
 have OV:=hid ov
 have HLV:=hid (RV_iff.1 (RT_iff.1 hl).1)
 have hse:=sizeT_eq t
 have hsv:sizeV t.v≤1099511627776:=by omega
 have b4:(t.k != 4)=true:=by simp [h4]
 have hvd:decide (0 < t.vs.length)=true:=decide_eq_true (by omega)
 clear ox ov ovs ow op oa v1 v2 v3 hl hse h4 h5
 by_cases hk:t.k=1
 ·have hc:checkV t.v=0:=by unfold headE at h;rw [if_pos hk] at h;exact h
  have HC:=hid hc
  have hk':(t.k==1)=true:=by simp [hk]
  clear h hk hc
  go_enter Tryz.func66,Tryz.ntmps66
  go_wp2_with (go_at_call 106;refine (r14check_any t.v _ A ⟨ma,mb⟩ OV.out hsv (by exact RVs.ext (Agree.below Below.z) _ _ HLV.out)).mono ?_;rw [HC.out];rintro e w1 ⟨rfl,hbx⟩;have hB1:=hbx;clear hbx;obtain ⟨hc1,hf1⟩:=bcells hB1)
  go_ret
  exact ⟨rfl,Below.r⟩
 ·have hn:noneV t.v=true:=by
   unfold headE at h;rw [if_neg hk] at h
   cases hn:noneV t.v
   ·rw [hn] at h;simp at h
   ·rfl
  have HN:=hid hn
  have hk':(t.k==1)=false:=by simp [hk]
  clear h hk hn
  go_enter Tryz.func66,Tryz.ntmps66
  go_wp2_with (go_at_call 107;refine (r19none_any t.v ⟨ma,mb⟩ _ HV.out).mono ?_;rw [HN.out];rintro e w1 ⟨rfl,hbx⟩;have hB1:=hbx;clear hbx;obtain ⟨hc1,hf1⟩:=bcells hB1)
  go_ret
  exact ⟨rfl,Below.r⟩
theorem r19has_any (t:GT) (A:Nat→Prop) (m:TA) (w:World) (ox:okT t) (hs:sizeT t≤1099511627776) (hl:RT w A t m):
  Calls Tryz.prog 66 #[TV t m] w fun e w'=>e=.returned (.int .i64 (hasE t))∧Below w.heap.size w w':=by
 by_cases h:headE t=0
 case neg=>
  have hF:hasE t=headE t:=by unfold hasE;rw [valuesE_head,if_pos h,if_pos h]
  rw [hF]
  exact r19has_head t A m w ox hs hl h
 have hV:valuesE t=restV t:=by rw [valuesE_head,if_neg (by simp [h])]
 by_cases h4:t.k=4
 ·have hR:restV t=firstVs t.vs:=by unfold restV;rw [if_neg (by simp [h4])]
  have hF:hasE t=if firstVs t.vs≠0 then firstVs t.vs else weightsE t:=by unfold hasE;rw [hV,hR]
  rw [hF]
  exact r19has_rest t A m w ox hs hl h (.inl h4)
 ·by_cases h5:t.vs.length=0
  ·have hR:restV t=0:=by unfold restV;rw [if_pos h4,if_pos (by omega)]
   have hn:t.vs=[]:=List.eq_nil_of_length_eq_zero h5
   have hF:hasE t=if firstVs t.vs≠0 then firstVs t.vs else weightsE t:=by unfold hasE;rw [hV,hR,hn];simp [firstVs]
   rw [hF]
   exact r19has_rest t A m w ox hs hl h (.inr h5)
  ·have hR:restV t=3:=by unfold restV;rw [if_pos h4,if_neg (by omega)]
   have hF:hasE t=3:=by unfold hasE;rw [hV,hR];rfl
   rw [hF]
   exact r19has_vs t A m w ox hs hl h h4 h5
theorem nodeT_has (t:GT) (hk:¬(t.k < 1∨11 < t.k)):nodeT t=if hasE t≠0 then hasE t else if endsE t≠0 then endsE t else argumentsE t:=by
 unfold nodeT hasE
 rw [if_neg hk]
 by_cases h:valuesE t=0<;>simp [h]
set_option maxRecDepth 100000 in
set_option maxHeartbeats 4000000 in
theorem r19node_xa (t:GT) (A:Nat→Prop) (m:TA) (w:World) (ox:okT t) (hs:sizeT t≤1099511627776) (hl:RT w A t m) (hh:hasE t=0) (he:endsE t=0) (h4:t.k=1∨t.k=2∨t.k=3):
  Calls Tryz.prog 44 #[TV t m] w fun e w'=>e=.returned (.int .i64 (argumentsE t))∧Below w.heap.size w w':=by
 obtain ⟨ma,mb,mc,md,me,mf,mg,mh,mi,mj,mk,ml⟩:=m
 obtain ⟨⟨x1,x2⟩,ov,⟨ovl,ovs⟩,l1,l2,⟨owl,ow⟩,op,oal,oa⟩:=okT_iff.1 ox
 have HL:=hid hl
 have OX:=hid ox
 have HH:=hid hh
 have HE:=hid he
 clear hl ox ov ovs l1 l2 ow op oa hh he
 obtain ⟨k,v,vs,lo,hi,ws,p,l⟩:=t
 dsimp only at h4 ovl owl oal x1 x2
 rcases h4 with rfl|rfl|rfl
 all_goals clear x1 x2
 all_goals
  go_enter Tryz.func44,Tryz.ntmps44
  go_wp2_with (first|(go_at_call 66;refine (r19has_any _ A ⟨ma,mb,mc,md,me,mf,mg,mh,mi,mj,mk,ml⟩ _ OX.out hs (by exact RT.ext (Agree.below Below.r) _ _ HL.out)).mono ?_;rw [HH.out];rintro e w1 ⟨rfl,hbx⟩;have hB1:=hbx;clear hbx;obtain ⟨hc1,hf1⟩:=bcells hB1)|(go_at_call 67;refine (r19ends_any _ ⟨ma,mb,mc,md,me,mf,mg,mh,mi,mj,mk,ml⟩ _ OX.out).mono ?_;rw [HE.out];rintro e w2 ⟨rfl,hbx⟩;have hB2:=Below.trans hB1 (Below.mono hbx (Below.size hB1));clear hbx;obtain ⟨hc2,hf2⟩:=bcells hB2)|(go_at_call 68;refine (r19many_any _ _ _ _ ⟨by omega,by omega⟩ ⟨by omega,by omega⟩ ⟨by omega,by omega⟩).mono ?_;rintro e w3 ⟨rfl,hbx⟩;have hB3:=Below.trans hB2 (Below.mono hbx (Below.size hB2));clear hbx;obtain ⟨hc3,hf3⟩:=bcells hB3))
  go_ret
  exact ⟨ret_int (by simp [argumentsE]),Below.r⟩
end Go.Proofs.YtclphfojkggcpaaGreat
