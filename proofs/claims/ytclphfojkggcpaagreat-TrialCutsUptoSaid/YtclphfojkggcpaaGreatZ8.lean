/- What the proofs of the Trial statements need: part 9. -/
import Derived.Test.YtclphfojkggcpaaGreatZ4
import Derived.Test.YtclphfojkggcpaaGreatZ5
import Derived.Test.YtclphfojkggcpaaGreatZ6
set_option linter.unusedVariables false
set_option linter.unusedSimpArgs false
namespace Go.Proofs.YtclphfojkggcpaaGreat
open Go.Lib (hid)
open Go Go.RowKit
def ownN (t:GT):Nat:=if t.k=1 then sizeV t.v else if t.k=4 then sizeVs t.vs else if t.k=9 then nodesP t.p else 0
mutual
def nodesT:GT→Nat
 | ⟨k,v,vs,lo,hi,ws,p,l⟩=>1+ownN ⟨k,v,vs,lo,hi,ws,p,l⟩+nodesTs l
def nodesTs:List GT→Nat
 | []=>0
 | x::l=>nodesT x+nodesTs l
end
theorem nodesT_eq (t:GT):nodesT t=1+ownN t+nodesTs t.a:=by cases t;simp only [nodesT]
theorem ownN_le (t:GT):ownN t≤sizeV t.v+sizeVs t.vs+sizeP t.p:=by
 have:=nodesP_le t.p
 unfold ownN;(repeat' split)<;>omega
mutual
theorem nodesT_le:∀(t:GT),nodesT t≤sizeT t
 | ⟨k,v,vs,lo,hi,ws,p,l⟩=>by have:=nodesTs_le l;have h:=ownN_le ⟨k,v,vs,lo,hi,ws,p,l⟩;simp only [nodesT,sizeT] at *;omega
theorem nodesTs_le:∀(l:List GT),nodesTs l≤sizeTs l
 | []=>by simp [nodesTs]
 | x::l=>by have:=nodesT_le x;have:=nodesTs_le l;simp only [nodesTs,sizeTs];omega
end
theorem nodesTs_take_succ:∀(l:List GT) (j:Nat) (h:j < l.length),nodesTs (l.take (j+1))=nodesTs (l.take j)+nodesT l[j]
 | x::l,0,_=>by simp [nodesTs]
 | x::l,j+1,h=>by have:=nodesTs_take_succ l j (by simpa using h);simp only [List.take_succ_cons,nodesTs,List.getElem_cons_succ] at this ⊢;omega
theorem nodesTs_take_le (l:List GT) (j:Nat):nodesTs (l.take j)≤sizeTs l:=Nat.le_trans (nodesTs_le _) (sizeTs_take l j)
theorem sizeVs_take_succ:∀(l:List GV) (j:Nat) (h:j < l.length),sizeVs (l.take (j+1))=sizeVs (l.take j)+sizeV l[j]
 | x::l,0,_=>by simp [sizeVs]
 | x::l,j+1,h=>by have:=sizeVs_take_succ l j (by simpa using h);simp only [List.take_succ_cons,sizeVs,List.getElem_cons_succ] at this ⊢;omega
def NodesIH (N:Nat):Prop:=∀(t:GT) (w:World) (A:Nat→Prop) (m:TA),sizeT t≤N→okT t→sizeT t≤1099511627776→RT w A t m →
  Calls Tryz.prog 60 #[TV t m] w fun e w'=>e=.returned (.int .i64 (nodesT t))∧Below w.heap.size w w'
set_option maxRecDepth 100000 in
set_option maxHeartbeats 2000000 in
theorem nodesT_1 (N:Nat) (ih:NodesIH N) (t:GT) (w:World) (A:Nat→Prop) (m:TA) (hN:sizeT t≤N+1) (ox:okT t) (hs:sizeT t≤1099511627776) (hl:RT w A t m) (h1:t.k=1):
  Calls Tryz.prog 60 #[TV t m] w fun e w'=>e=.returned (.int .i64 (nodesT t))∧Below w.heap.size w w':=by
 obtain ⟨ma,mb,mc,md,me,mf,mg,mh,mi,mj,mk,ml⟩:=m
 have IH:=hid ih
 obtain ⟨h1,h2,_,h4,h5⟩:=RT_iff.1 hl
 have HL:=hid h5
 have HV:=hid (RV_iff.1 h1)
 have HVS:=hid h2
 have HP:=hid h4
 obtain ⟨⟨x1,x2⟩,ov,⟨ovl,ovs⟩,⟨l1,l2⟩,⟨l3,l4⟩,⟨owl,ow⟩,op,oal,oa⟩:=okT_iff.1 ox
 have O:=hid oa
 have OV:=hid ov
 have OVS:=hid ovs
 have OP:=hid op
 have hse:=sizeT_eq t
 have hsv:=sizeV_pos t.v
 have hsp:=sizeP_pos t.p
 have hnp:=nodesP_le t.p
 have hsv2:sizeV t.v≤1099511627776:=by omega
 have hsp2:sizeP t.p≤1099511627776:=by omega
 clear ih hl ox oa ov ovs ow op h1 h2 h4 h5
 rw [nodesT_eq]
 have hG:ownN t=sizeV t.v:=by rw [ownN,if_pos h1]
 rw [hG]
 have h1':(t.k==1)=true:=by simp [h1]
 clear hG h1
 go_enter Tryz.func60,Tryz.ntmps60
 go_wp2_with (go_at_call 84;refine (size_any t.v A ⟨ma,mb⟩ _ OV.out hsv2 (by exact RVs.ext (Agree.below Below.z) _ _ HV.out)).mono ?_;rintro e w1 ⟨rfl,hb⟩;have hB1:=hb;clear hb;obtain ⟨hc1,hf1⟩:=bcells hB1)
 go_loopg [3,41] (t.a.length) (fun gk t3 i wr=>∃j:Nat,gk+j=t.a.length∧i=.int .i64 j∧t3=.int .i64 ((1+sizeV t.v+nodesTs (t.a.take j):Nat):Int)∧Below w.heap.size w wr∧w.heap.size < wr.heap.size)
 case atStart=>exact ⟨0,by omega,rfl,by simp [nodesTs],Below.z,by have:=hB1.size;simp at this;omega⟩
 case round=>
  obtain ⟨j,hj,rfl,rfl,hb,hz⟩:=hrel
  by_cases hlt:j < t.a.length
  ·obtain ⟨b,o,mj',rfl,hA,hbs,g0,gx⟩:=HL.out.get j hlt
   obtain ⟨k0,k1,k2,k3,k4,k5,k6,k7,k8,k9,ka,kb,kc,kd,ke⟩:=At15.1 (g0.ext (Agree.below hb) (A:=fun _=>True) trivial)
   have hs1:b < wr.heap.size:=by omega
   have hq1:=sizeTs_get t.a j hlt
   have hq2:=nodesTs_take_succ t.a j hlt
   have hq3:=nodesTs_take_le t.a j
   have hq4:=nodesT_le t.a[j]
   have HQ:=hid hq2
   clear hq2 g0
   go_wp2_with (go_at_call 60;refine (IH.out t.a[j] _ A mj' (by omega) (O.out.get j hlt) (by omega) (by exact RT.ext (Agree.below Below.z) _ _ gx)).mono ?_;rintro e w2 ⟨rfl,hb2⟩)
   have hbb:Below w.heap.size w w2:=(hb.alloc (by omega) _).trans (hb2.mono (by simp;omega))
   go_roundg (gk - 1)
   case measure=>omega
   case rel=>exact ⟨j+1,by omega,by go_num,by rw [HQ.out];go_num,hbb,by have:=hb2.size;simp at this;omega⟩
  ·have hjl:j=t.a.length:=by omega
   go_wp2_with fail
   go_ret
   exact ⟨ret_int (by rw [hjl,List.take_length]),hb⟩
set_option maxRecDepth 100000 in
set_option maxHeartbeats 2000000 in
theorem nodesT_9 (N:Nat) (ih:NodesIH N) (t:GT) (w:World) (A:Nat→Prop) (m:TA) (hN:sizeT t≤N+1) (ox:okT t) (hs:sizeT t≤1099511627776) (hl:RT w A t m) (h1:¬t.k=1) (h9:t.k=9):
  Calls Tryz.prog 60 #[TV t m] w fun e w'=>e=.returned (.int .i64 (nodesT t))∧Below w.heap.size w w':=by
 obtain ⟨ma,mb,mc,md,me,mf,mg,mh,mi,mj,mk,ml⟩:=m
 have IH:=hid ih
 obtain ⟨h1,h2,_,h4,h5⟩:=RT_iff.1 hl
 have HL:=hid h5
 have HV:=hid (RV_iff.1 h1)
 have HVS:=hid h2
 have HP:=hid h4
 obtain ⟨⟨x1,x2⟩,ov,⟨ovl,ovs⟩,⟨l1,l2⟩,⟨l3,l4⟩,⟨owl,ow⟩,op,oal,oa⟩:=okT_iff.1 ox
 have O:=hid oa
 have OV:=hid ov
 have OVS:=hid ovs
 have OP:=hid op
 have hse:=sizeT_eq t
 have hsv:=sizeV_pos t.v
 have hsp:=sizeP_pos t.p
 have hnp:=nodesP_le t.p
 have hsv2:sizeV t.v≤1099511627776:=by omega
 have hsp2:sizeP t.p≤1099511627776:=by omega
 clear ih hl ox oa ov ovs ow op h1 h2 h4 h5
 rw [nodesT_eq]
 have h1':(t.k==1)=false:=by simp [h1]
 have hG:ownN t=nodesP t.p:=by rw [ownN,if_neg h1,if_neg (by omega),if_pos h9]
 rw [hG]
 have h4':(t.k==4)=false:=by simp [h9]
 have h9':(t.k==9)=true:=by simp [h9]
 clear hG h1 h9
 go_enter Tryz.func60,Tryz.ntmps60
 go_wp2_with (go_at_call 57;refine (nodes_any _ t.p _ A ⟨mg,mh,mi,mj⟩ (Nat.le_refl _) OP.out hsp2 (by exact RP.ext (Agree.below Below.z) _ _ HP.out)).mono ?_;rintro e w1 ⟨rfl,hb⟩;have hB1:=hb;clear hb;obtain ⟨hc1,hf1⟩:=bcells hB1)
 go_loopg [3,41] (t.a.length) (fun gk t3 i wr=>∃j:Nat,gk+j=t.a.length∧i=.int .i64 j∧t3=.int .i64 ((1+nodesP t.p+nodesTs (t.a.take j):Nat):Int)∧Below w.heap.size w wr∧w.heap.size < wr.heap.size)
 case atStart=>exact ⟨0,by omega,rfl,by simp [nodesTs],Below.z,by have:=hB1.size;simp at this;omega⟩
 case round=>
  obtain ⟨j,hj,rfl,rfl,hb,hz⟩:=hrel
  by_cases hlt:j < t.a.length
  ·obtain ⟨b,o,mj',rfl,hA,hbs,g0,gx⟩:=HL.out.get j hlt
   obtain ⟨k0,k1,k2,k3,k4,k5,k6,k7,k8,k9,ka,kb,kc,kd,ke⟩:=At15.1 (g0.ext (Agree.below hb) (A:=fun _=>True) trivial)
   have hs1:b < wr.heap.size:=by omega
   have hq1:=sizeTs_get t.a j hlt
   have hq2:=nodesTs_take_succ t.a j hlt
   have hq3:=nodesTs_take_le t.a j
   have hq4:=nodesT_le t.a[j]
   have HQ:=hid hq2
   clear hq2 g0
   go_wp2_with (go_at_call 60;refine (IH.out t.a[j] _ A mj' (by omega) (O.out.get j hlt) (by omega) (by exact RT.ext (Agree.below Below.z) _ _ gx)).mono ?_;rintro e w2 ⟨rfl,hb2⟩)
   have hbb:Below w.heap.size w w2:=(hb.alloc (by omega) _).trans (hb2.mono (by simp;omega))
   go_roundg (gk - 1)
   case measure=>omega
   case rel=>exact ⟨j+1,by omega,by go_num,by rw [HQ.out];go_num,hbb,by have:=hb2.size;simp at this;omega⟩
  ·have hjl:j=t.a.length:=by omega
   go_wp2_with fail
   go_ret
   exact ⟨ret_int (by rw [hjl,List.take_length]),hb⟩
set_option maxRecDepth 100000 in
set_option maxHeartbeats 2000000 in
theorem nodesT_4 (N:Nat) (ih:NodesIH N) (t:GT) (w:World) (A:Nat→Prop) (m:TA) (hN:sizeT t≤N+1) (ox:okT t) (hs:sizeT t≤1099511627776) (hl:RT w A t m) (h1:¬t.k=1) (h9:¬t.k=9) (h4:t.k=4):
  Calls Tryz.prog 60 #[TV t m] w fun e w'=>e=.returned (.int .i64 (nodesT t))∧Below w.heap.size w w':=by
 obtain ⟨ma,mb,mc,md,me,mf,mg,mh,mi,mj,mk,ml⟩:=m
 have IH:=hid ih
 obtain ⟨h1,h2,_,h4,h5⟩:=RT_iff.1 hl
 have HL:=hid h5
 have HV:=hid (RV_iff.1 h1)
 have HVS:=hid h2
 have HP:=hid h4
 obtain ⟨⟨x1,x2⟩,ov,⟨ovl,ovs⟩,⟨l1,l2⟩,⟨l3,l4⟩,⟨owl,ow⟩,op,oal,oa⟩:=okT_iff.1 ox
 have O:=hid oa
 have OV:=hid ov
 have OVS:=hid ovs
 have OP:=hid op
 have hse:=sizeT_eq t
 have hsv:=sizeV_pos t.v
 have hsp:=sizeP_pos t.p
 have hnp:=nodesP_le t.p
 have hsv2:sizeV t.v≤1099511627776:=by omega
 have hsp2:sizeP t.p≤1099511627776:=by omega
 clear ih hl ox oa ov ovs ow op h1 h2 h4 h5
 rw [nodesT_eq]
 have h1':(t.k==1)=false:=by simp [h1]
 have h9':(t.k==9)=false:=by simp [h9]
 have hG:ownN t=sizeVs t.vs:=by rw [ownN,if_neg h1,if_pos h4]
 rw [hG]
 have h4':(t.k==4)=true:=by simp [h4]
 clear hG h1 h9 h4
 go_enter Tryz.func60,Tryz.ntmps60
 go_wp2_with fail
 go_loopg [3,22] (t.vs.length) (fun gk t3 i wr=>∃j:Nat,gk+j=t.vs.length∧i=.int .i64 j∧t3=.int .i64 ((1+sizeVs (t.vs.take j):Nat):Int)∧Below w.heap.size w wr∧w.heap.size < wr.heap.size∧wr.cell? ⟨w.heap.size,14,none⟩=some (.slice mk t.a.length ml))
 case atStart=>exact ⟨0,by omega,rfl,by simp [sizeVs],Below.z,by simp,by go_simp⟩
 case round=>
  obtain ⟨j,hj,rfl,rfl,hb,hz,hbx⟩:=hrel
  by_cases hlt:j < t.vs.length
  ·obtain ⟨b,o,mj',rfl,hA,hbs,g0,gx⟩:=HVS.out.get j hlt
   obtain ⟨k0,k1,k2⟩:=At3.1 (g0.ext (Agree.below hb) (A:=fun _=>True) trivial)
   have hs1:b < wr.heap.size:=by omega
   have hq1:=sizeVs_get t.vs j hlt
   have hq2:=sizeVs_take_succ t.vs j hlt
   have hq3:=sizeVs_take t.vs (j+1)
   have HQ:=hid hq2
   clear g0
   go_wp2_with (go_at_call 84;refine (size_any t.vs[j] A mj' _ (OVS.out.get j hlt) (by omega) (by exact RV_iff.1 (RV.ext (Agree.below Below.z) _ _ gx))).mono ?_;rintro e w2 ⟨rfl,hb2⟩)
   have hbb:Below w.heap.size w w2:=(hb.alloc (by omega) _).trans (hb2.mono (by simp;omega))
   go_roundg (gk - 1)
   case measure=>omega
   case rel=>exact ⟨j+1,by omega,by go_num,by rw [HQ.out];go_num,hbb,by have:=hb2.size;simp at this;omega,(hb2.cell (by simp;omega)).trans (by go_simp)⟩
  ·have hjl:j=t.vs.length:=by omega
   subst hjl
   have htk:t.vs.take t.vs.length=t.vs:=by rw [List.take_length]
   rw [htk]
   have hvl:sizeVs t.vs≤1099511627776:=by omega
   clear htk
   go_wp2_with fail
   go_loopg [3,41] (t.a.length) (fun gk t3 i wr=>∃j:Nat,gk+j=t.a.length∧i=.int .i64 j∧t3=.int .i64 ((1+sizeVs t.vs+nodesTs (t.a.take j):Nat):Int)∧Below w.heap.size w wr∧w.heap.size < wr.heap.size)
   case atStart=>exact ⟨0,by omega,rfl,by simp [nodesTs],Below.z,by omega⟩
   case round=>
    obtain ⟨j,hj,rfl,rfl,hb,hz⟩:=hrel
    by_cases hlt:j < t.a.length
    ·obtain ⟨b,o,mj',rfl,hA,hbs,g0,gx⟩:=HL.out.get j hlt
     obtain ⟨k0,k1,k2,k3,k4,k5,k6,k7,k8,k9,ka,kb,kc,kd,ke⟩:=At15.1 (g0.ext (Agree.below hb) (A:=fun _=>True) trivial)
     have hs1:b < wr.heap.size:=by omega
     have hq1:=sizeTs_get t.a j hlt
     have hq2:=nodesTs_take_succ t.a j hlt
     have hq3:=nodesTs_take_le t.a j
     have hq4:=nodesT_le t.a[j]
     have HQ:=hid hq2
     clear hq2 g0
     go_wp2_with (go_at_call 60;refine (IH.out t.a[j] _ A mj' (by omega) (O.out.get j hlt) (by omega) (by exact RT.ext (Agree.below Below.z) _ _ gx)).mono ?_;rintro e w2 ⟨rfl,hb2⟩)
     have hbb:Below w.heap.size w w2:=(hb.alloc (by omega) _).trans (hb2.mono (by simp;omega))
     go_roundg (gk - 1)
     case measure=>omega
     case rel=>exact ⟨j+1,by omega,by go_num,by rw [HQ.out];go_num,hbb,by have:=hb2.size;simp at this;omega⟩
    ·have hjl:j=t.a.length:=by omega
     go_wp2_with fail
     go_ret
     exact ⟨ret_int (by rw [hjl,List.take_length]),hb⟩
set_option maxRecDepth 100000 in
set_option maxHeartbeats 2000000 in
theorem nodesT_n (N:Nat) (ih:NodesIH N) (t:GT) (w:World) (A:Nat→Prop) (m:TA) (hN:sizeT t≤N+1) (ox:okT t) (hs:sizeT t≤1099511627776) (hl:RT w A t m) (h1:¬t.k=1) (h9:¬t.k=9) (h4:¬t.k=4):
  Calls Tryz.prog 60 #[TV t m] w fun e w'=>e=.returned (.int .i64 (nodesT t))∧Below w.heap.size w w':=by
 obtain ⟨ma,mb,mc,md,me,mf,mg,mh,mi,mj,mk,ml⟩:=m
 have IH:=hid ih
 obtain ⟨h1,h2,_,h4,h5⟩:=RT_iff.1 hl
 have HL:=hid h5
 have HV:=hid (RV_iff.1 h1)
 have HVS:=hid h2
 have HP:=hid h4
 obtain ⟨⟨x1,x2⟩,ov,⟨ovl,ovs⟩,⟨l1,l2⟩,⟨l3,l4⟩,⟨owl,ow⟩,op,oal,oa⟩:=okT_iff.1 ox
 have O:=hid oa
 have OV:=hid ov
 have OVS:=hid ovs
 have OP:=hid op
 have hse:=sizeT_eq t
 have hsv:=sizeV_pos t.v
 have hsp:=sizeP_pos t.p
 have hnp:=nodesP_le t.p
 have hsv2:sizeV t.v≤1099511627776:=by omega
 have hsp2:sizeP t.p≤1099511627776:=by omega
 clear ih hl ox oa ov ovs ow op h1 h2 h4 h5
 rw [nodesT_eq]
 have h1':(t.k==1)=false:=by simp [h1]
 have h9':(t.k==9)=false:=by simp [h9]
 have hG:ownN t=0:=by rw [ownN,if_neg h1,if_neg h4,if_neg h9]
 rw [hG]
 have h4':(t.k==4)=false:=by simp [h4]
 clear hG h1 h9 h4
 go_enter Tryz.func60,Tryz.ntmps60
 go_wp2_with fail
 go_loopg [3,41] (t.a.length) (fun gk t3 i wr=>∃j:Nat,gk+j=t.a.length∧i=.int .i64 j∧t3=.int .i64 ((1+0+nodesTs (t.a.take j):Nat):Int)∧Below w.heap.size w wr∧w.heap.size < wr.heap.size)
 case atStart=>exact ⟨0,by omega,rfl,by simp [nodesTs],Below.z,by simp⟩
 case round=>
  obtain ⟨j,hj,rfl,rfl,hb,hz⟩:=hrel
  by_cases hlt:j < t.a.length
  ·obtain ⟨b,o,mj',rfl,hA,hbs,g0,gx⟩:=HL.out.get j hlt
   obtain ⟨k0,k1,k2,k3,k4,k5,k6,k7,k8,k9,ka,kb,kc,kd,ke⟩:=At15.1 (g0.ext (Agree.below hb) (A:=fun _=>True) trivial)
   have hs1:b < wr.heap.size:=by omega
   have hq1:=sizeTs_get t.a j hlt
   have hq2:=nodesTs_take_succ t.a j hlt
   have hq3:=nodesTs_take_le t.a j
   have hq4:=nodesT_le t.a[j]
   have HQ:=hid hq2
   clear hq2 g0
   go_wp2_with (go_at_call 60;refine (IH.out t.a[j] _ A mj' (by omega) (O.out.get j hlt) (by omega) (by exact RT.ext (Agree.below Below.z) _ _ gx)).mono ?_;rintro e w2 ⟨rfl,hb2⟩)
   have hbb:Below w.heap.size w w2:=(hb.alloc (by omega) _).trans (hb2.mono (by simp;omega))
   go_roundg (gk - 1)
   case measure=>omega
   case rel=>exact ⟨j+1,by omega,by go_num,by rw [HQ.out];go_num,hbb,by have:=hb2.size;simp at this;omega⟩
  ·have hjl:j=t.a.length:=by omega
   go_wp2_with fail
   go_ret
   exact ⟨ret_int (by rw [hjl,List.take_length]),hb⟩
theorem nodesT_any (N:Nat):NodesIH N:=by
 induction N with
 | zero=>intro t;have:=sizeT_pos t;intros;omega
 | succ N ih=>
  intro t w A m hN ox hs hl
  by_cases h1:t.k=1
  ·exact nodesT_1 N ih t w A m hN ox hs hl h1
  by_cases h9:t.k=9
  ·exact nodesT_9 N ih t w A m hN ox hs hl h1 h9
  by_cases h4:t.k=4
  ·exact nodesT_4 N ih t w A m hN ox hs hl h1 h9 h4
  ·exact nodesT_n N ih t w A m hN ox hs hl h1 h9 h4
set_option maxRecDepth 100000 in
theorem r14node_any (x:GV) (m:VA) (w:World) (ox:isU8 x.k∧isI64 x.n∧x.l.length≤1048576):
  Calls Tryz.prog 163 #[VV x m] w fun e w'=>e=.returned (.int .i64 (nodeV x))∧Below w.heap.size w w':=by
 obtain ⟨⟨x1,x2⟩,⟨x3,x4⟩,x5⟩:=ox
 obtain ⟨ma,mc⟩:=m
 generalize hF:nodeV x=F
 have HF:=hid hF
 clear hF
 go_enter Tryz.func163,Tryz.ntmps163
 go_wp2_with fail
 all_goals go_ret
 all_goals refine ⟨ret_int ?_,Below.r⟩
 all_goals rw [←HF.out]
 all_goals unfold nodeV
 all_goals (first|rfl|omega|((try simp only [beq_iff_eq,beq_eq_false_iff_ne,bne_iff_ne,bne_eq_false_iff_eq,decide_eq_true_eq,decide_eq_false_iff_not,ne_eq,Bool.and_eq_true,Bool.or_eq_true,Bool.and_eq_false_iff,Bool.or_eq_false_iff,Bool.not_eq_true',Bool.not_eq_false'] at *);(repeat' split)<;>first|rfl|omega|contradiction|(simp_all;done)|(simp_all;omega)))
mutual
def allE:GV→Int
 | ⟨k,n,l⟩=>if nodeV ⟨k,n,l⟩≠0 then nodeV ⟨k,n,l⟩ else allEs l
def allEs:List GV→Int
 | []=>0
 | x::l=>if allE x≠0 then allE x else allEs l
end
theorem allE_eq (x:GV):allE x=if nodeV x≠0 then nodeV x else allEs x.l:=by cases x;simp only [allE]
mutual
theorem allE_pre:∀(x:GV) (d:Nat),allE x=firstErr (preV d x)
 | ⟨k,n,l⟩,d=>by simp only [allE,preV,firstErr,allEs_pre l (d+1)]
theorem allEs_pre:∀(l:List GV) (d:Nat),allEs l=firstErr (preVs d l)
 | [],d=>by simp only [allEs,preVs,firstErr]
 | x::l,d=>by simp only [allEs,preVs,firstErr_append,allE_pre x d,allEs_pre l d]
end
theorem allEs_append:∀(a b:List GV),allEs (a++b)=if allEs a≠0 then allEs a else allEs b
 | [],b=>by simp [allEs]
 | x::a,b=>by
  simp only [List.cons_append,allEs,allEs_append a b]
  by_cases h:allE x=0<;>simp [h]
theorem allEs_take (l:List GV) (j:Nat) (h:j < l.length) (h0:allEs (l.take j)=0):allEs (l.take (j+1))=allE l[j]:=by
 rw [List.take_succ_eq_append_getElem h,allEs_append,h0,if_neg (by simp)]
 simp only [allEs]
 split
 ·rfl
 ·rename_i h1;exact (Decidable.not_not.1 h1).symm
theorem allEs_stop (l:List GV) (j:Nat) (h0:allEs (l.take j)≠0):allEs l=allEs (l.take j):=by
 conv=>lhs;rw [←List.take_append_drop j l]
 rw [allEs_append,if_pos h0]
set_option maxRecDepth 100000 in
set_option maxHeartbeats 1000000 in
theorem r14all_any (N:Nat):∀(x:GV) (w:World) (A:Nat→Prop) (m:VA),sizeV x≤N→okV x→RVs w A x.l m.a →
  Calls Tryz.prog 144 #[VV x m] w fun e w'=>e=.returned (.int .i64 (allE x))∧Below w.heap.size w w':=by
 induction N with
 | zero=>intro x;have:=sizeV_pos x;intros;omega
 | succ N ih=>
  rintro x w A ⟨ma,mc⟩ hN ox hl
  have IH:=hid ih
  have HL:=hid hl
  obtain ⟨x1,x2,hlen,oa⟩:=okV_iff.1 ox
  have O:=hid oa
  have HU:=hid (And.intro x1 (And.intro x2 hlen))
  have hse:=sizeV_eq x
  rw [allE_eq]
  generalize hF:(if nodeV x≠0 then nodeV x else allEs x.l)=F
  have HF:=hid hF
  clear hF
  clear ih hl ox oa x1 x2
  go_enter Tryz.func144,Tryz.ntmps144
  go_wp2_with (go_at_call 163;refine (r14node_any x ⟨ma,mc⟩ _ HU.out).mono ?_;rintro e w1 ⟨rfl,hb⟩;have hB1:=hb;clear hb;obtain ⟨hc1,hf1⟩:=bcells hB1)
  have hz1:=hB1.size
  simp at hz1
  have q2:w1.cell? ⟨w.heap.size,2,none⟩=some (.slice ma x.l.length mc):=(hB1.cell so).trans (by go_simp)
  have hbw1:Below w.heap.size w w1:=Below.r
  go_loopg [3,4] (x.l.length) (fun gk t3 i wr=>∃(j:Nat) (E:Int),gk+j=x.l.length∧i=.int .i64 j∧t3=.int .i64 E∧Hid (E=if nodeV x≠0 then nodeV x else allEs (x.l.take j))∧Below w.heap.size w wr∧w.heap.size < wr.heap.size∧wr.cell? ⟨w.heap.size,2,none⟩=some (.slice ma x.l.length mc))
  case atStart=>exact ⟨0,_,by omega,rfl,rfl,hid (by simp [allEs]),hbw1,by omega,q2⟩
  case round=>
   obtain ⟨j,E,hj,rfl,rfl,HE,hb,hz,hcell⟩:=hrel
   by_cases hE:E=0
   ·have hE':(E==0)=true:=by simp [hE]
    have h0:nodeV x=0∧allEs (x.l.take j)=0:=by
     have:=HE.out
     rw [hE] at this
     split at this
     ·rename_i h1;exact absurd this.symm h1
     ·rename_i h1;exact ⟨by simpa using h1,this.symm⟩
    have H0:=hid h0
    clear h0 hE
    by_cases hlt:j < x.l.length
    ·obtain ⟨b,o,mj,rfl,hA,hbs,g0,gx⟩:=HL.out.get j hlt
     obtain ⟨k0,k1,k2⟩:=At3.1 (g0.ext (Agree.below hb) (A:=fun _=>True) trivial)
     have hs1:b < wr.heap.size:=by omega
     have hq1:=sizeVs_get x.l j hlt
     clear g0
     go_wp2_with (go_at_call 144;refine (IH.out x.l[j] _ A mj (by omega) (O.out.get j hlt) (by exact RVs.ext (Agree.below Below.z) _ _ (RV_iff.1 gx))).mono ?_;rintro e w2 ⟨rfl,hb2⟩)
     have hbb:Below w.heap.size w w2:=hb.trans (hb2.mono (by omega))
     go_roundg (gk - 1)
     case measure=>omega
     case rel=>exact ⟨j+1,_,by omega,by go_num,rfl,hid (by rw [allEs_take _ _ hlt H0.out.2,if_neg (by simp [H0.out.1])]),hbb,by have:=hb2.size;omega,(hb2.cell (by simp;omega)).trans hcell⟩
    ·have hjl:j=x.l.length:=by omega
     go_wp2_with fail
     go_ret
     exact ⟨ret_int (by rw [HE.out,←HF.out,hjl,List.take_length]),hb⟩
   ·have hE':(E==0)=false:=by simp [hE]
    have hfin:E=F:=by
     rw [←HF.out]
     have:=HE.out
     split at this
     ·rename_i h1;rw [if_pos h1];exact this
     ·rename_i h1;rw [if_neg h1,this];exact (allEs_stop _ _ (by rw [←this];exact hE)).symm
    have HFI:=hid hfin
    clear hE hfin
    by_cases hlt:j < x.l.length
    all_goals
     go_wp2_with fail
     go_ret
     exact ⟨ret_int HFI.out,hb⟩
theorem sizeVs_takeS:∀(l:List GV) (j:Nat) (h:j < l.length),sizeVs (l.take (j+1))=sizeVs (l.take j)+sizeV l[j]
 | x::l,0,_=>by simp [sizeVs]
 | x::l,j+1,h=>by have:=sizeVs_takeS l j (by simpa using h);simp only [List.take_succ_cons,sizeVs,List.getElem_cons_succ] at this ⊢;omega
theorem sizeVs_takeL:∀(l:List GV) (j:Nat),sizeVs (l.take j)≤sizeVs l
 | [],j=>by simp
 | x::l,0=>by simp [sizeVs]
 | x::l,j+1=>by have:=sizeVs_takeL l j;simp only [List.take_succ_cons,sizeVs];omega
set_option maxRecDepth 100000 in
set_option maxHeartbeats 1000000 in
theorem r14size_any (N:Nat):∀(x:GV) (w:World) (A:Nat→Prop) (m:VA),sizeV x≤N→sizeV x≤1099511627776→okV x→RVs w A x.l m.a →
  Calls Tryz.prog 45 #[VV x m] w fun e w'=>e=.returned (.int .i64 (sizeV x))∧Below w.heap.size w w':=by
 induction N with
 | zero=>intro x;have:=sizeV_pos x;intros;omega
 | succ N ih=>
  rintro x w A ⟨ma,mc⟩ hN h40 ox hl
  have IH:=hid ih
  have HL:=hid hl
  obtain ⟨_,_,hlen,oa⟩:=okV_iff.1 ox
  have O:=hid oa
  have hse:=sizeV_eq x
  clear ih hl ox oa
  go_enter Tryz.func45,Tryz.ntmps45
  go_wp2_with fail
  go_loopg [3,4] (x.l.length) (fun gk t3 i wr=>∃(j n:Nat),gk+j=x.l.length∧i=.int .i64 j∧t3=.int .i64 n∧Hid (n=1+sizeVs (x.l.take j))∧n≤1099511627776∧Below w.heap.size w wr∧w.heap.size < wr.heap.size∧wr.cell? ⟨w.heap.size,2,none⟩=some (.slice ma x.l.length mc))
  case atStart=>exact ⟨0,1,by omega,rfl,rfl,hid (by simp [sizeVs]),by omega,Below.r,by simp,by go_simp⟩
  case round=>
   obtain ⟨j,n,hj,rfl,rfl,HE,hn,hb,hz,hcell⟩:=hrel
   by_cases hlt:j < x.l.length
   ·obtain ⟨b,o,mj,rfl,hA,hbs,g0,gx⟩:=HL.out.get j hlt
    obtain ⟨k0,k1,k2⟩:=At3.1 (g0.ext (Agree.below hb) (A:=fun _=>True) trivial)
    have hs1:b < wr.heap.size:=by omega
    have hq1:=sizeVs_get x.l j hlt
    have hq2:sizeVs (x.l.take (j+1))=sizeVs (x.l.take j)+sizeV x.l[j]∧sizeVs (x.l.take (j+1))≤sizeVs x.l:=⟨sizeVs_takeS _ _ hlt,sizeVs_takeL _ _⟩
    have hn2:n+sizeV x.l[j]≤1099511627776:=by have:=HE.out;omega
    have HQ:=hid hq2
    clear g0 hq2
    go_wp2_with (go_at_call 45;refine (IH.out x.l[j] _ A mj (by omega) (by omega) (O.out.get j hlt) (by exact RVs.ext (Agree.below Below.z) _ _ (RV_iff.1 gx))).mono ?_;rintro e w2 ⟨rfl,hb2⟩)
    have hbb:Below w.heap.size w w2:=hb.trans (hb2.mono (by omega))
    go_roundg (gk - 1)
    case measure=>omega
    case rel=>exact ⟨j+1,n+sizeV x.l[j],by omega,by go_num,by go_num,hid (by have:=HE.out;have:=HQ.out.1;omega),hn2,hbb,by have:=hb2.size;omega,(hb2.cell (by simp;omega)).trans hcell⟩
   ·have hjl:j=x.l.length:=by omega
    go_wp2_with fail
    go_ret
    exact ⟨ret_int (by have:=HE.out;rw [hjl,List.take_length] at this;omega),hb⟩
theorem deepVs_takeS:∀(l:List GV) (j:Nat) (h:j < l.length),deepVs (l.take (j+1))=max (deepVs (l.take j)) (deepV l[j])
 | x::l,0,_=>by simp [deepVs]
 | x::l,j+1,h=>by have:=deepVs_takeS l j (by simpa using h);simp only [List.take_succ_cons,deepVs,List.getElem_cons_succ] at this ⊢;omega
theorem deepVs_takeL:∀(l:List GV) (j:Nat),deepVs (l.take j)≤deepVs l
 | [],j=>by simp
 | x::l,0=>by simp [deepVs]
 | x::l,j+1=>by have:=deepVs_takeL l j;simp only [List.take_succ_cons,deepVs];omega
theorem deepVs_get:∀(l:List GV) (j:Nat) (h:j < l.length),deepV l[j]≤deepVs l
 | x::l,0,_=>by simp only [List.getElem_cons_zero,deepVs];omega
 | x::l,j+1,h=>by have:=deepVs_get l j (by simpa using h);simp only [deepVs,List.getElem_cons_succ] at this ⊢;omega
set_option maxRecDepth 100000 in
set_option maxHeartbeats 1000000 in
theorem r14deep_any (N:Nat):∀(x:GV) (w:World) (A:Nat→Prop) (m:VA),sizeV x≤N→sizeV x≤1099511627776→okV x→RVs w A x.l m.a →
  Calls Tryz.prog 111 #[VV x m] w fun e w'=>e=.returned (.int .i64 (deepV x))∧Below w.heap.size w w':=by
 induction N with
 | zero=>intro x;have:=sizeV_pos x;intros;omega
 | succ N ih=>
  rintro x w A ⟨ma,mc⟩ hN h40 ox hl
  have IH:=hid ih
  have HL:=hid hl
  obtain ⟨_,_,hlen,oa⟩:=okV_iff.1 ox
  have O:=hid oa
  have hse:=sizeV_eq x
  have hd1:=deepV_le x
  have hd2:=deepV_eq x
  have HD:=hid hd2
  clear ih hl ox oa hd2
  go_enter Tryz.func111,Tryz.ntmps111
  go_wp2_with fail
  go_loopg [3,4] (x.l.length) (fun gk t3 i wr=>∃(j n:Nat),gk+j=x.l.length∧i=.int .i64 j∧t3=.int .i64 n∧Hid (n=deepVs (x.l.take j))∧n≤1099511627775∧Below w.heap.size w wr∧w.heap.size < wr.heap.size∧wr.cell? ⟨w.heap.size,2,none⟩=some (.slice ma x.l.length mc))
  case atStart=>exact ⟨0,0,by omega,rfl,rfl,hid (by simp [deepVs]),by omega,Below.r,by simp,by go_simp⟩
  case round=>
   obtain ⟨j,n,hj,rfl,rfl,HE,hn,hb,hz,hcell⟩:=hrel
   by_cases hlt:j < x.l.length
   ·obtain ⟨b,o,mj,rfl,hA,hbs,g0,gx⟩:=HL.out.get j hlt
    obtain ⟨k0,k1,k2⟩:=At3.1 (g0.ext (Agree.below hb) (A:=fun _=>True) trivial)
    have hs1:b < wr.heap.size:=by omega
    have hq1:=sizeVs_get x.l j hlt
    have hq3:=deepVs_takeL x.l (j+1)
    have hq4:=deepVs_takeS x.l j hlt
    have hq5:deepV x.l[j]≤1099511627775:=by have:=deepVs_get x.l j hlt;have:=HD.out;omega
    have HQ:=hid hq4
    clear g0 hq4 hq3
    by_cases hmx:n < deepV x.l[j]
    all_goals
     go_wp2_with (go_at_call 111;refine (IH.out x.l[j] _ A mj (by omega) (by omega) (O.out.get j hlt) (by exact RVs.ext (Agree.below Below.z) _ _ (RV_iff.1 gx))).mono ?_;rintro e w2 ⟨rfl,hb2⟩)
     have hbb:Below w.heap.size w w2:=hb.trans (hb2.mono (by omega))
     go_roundg (gk - 1)
     case measure=>omega
     case rel=>exact ⟨j+1,max n (deepV x.l[j]),by omega,by go_num,by first|(rw [Nat.max_eq_right (by omega)];done)|(rw [Nat.max_eq_left (by omega)];done)|go_num,hid (by rw [HQ.out,HE.out]),by omega,hbb,by have:=hb2.size;omega,(hb2.cell (by simp;omega)).trans hcell⟩
   ·have hjl:j=x.l.length:=by omega
    go_wp2_with fail
    go_ret
    exact ⟨ret_int (by have:=HE.out;rw [hjl,List.take_length] at this;have:=HD.out;omega),hb⟩
set_option maxRecDepth 100000 in
set_option maxHeartbeats 1000000 in
theorem r14check_any (x:GV) (w:World) (A:Nat→Prop) (m:VA) (ox:okV x) (h40:sizeV x≤1099511627776) (hl:RVs w A x.l m.a):
  Calls Tryz.prog 106 #[VV x m] w fun e w'=>e=.returned (.int .i64 (checkV x))∧Below w.heap.size w w':=by
 obtain ⟨ma,mc⟩:=m
 have HL:=hid hl
 have OX:=hid ox
 have hF:checkV x=if allE x≠0 then allE x else if 128 < (deepV x:Int) then 9 else if 4096 < (sizeV x:Int) then 5 else 0:=by
  unfold checkV;rw [←allE_pre]
 rw [hF]
 clear hl ox hF
 by_cases h1:allE x=0
 case neg=>
  rw [if_pos h1]
  have h1':(allE x==0)=false:=by simp [h1]
  clear h1
  go_enter Tryz.func106,Tryz.ntmps106
  go_wp2_with (go_at_call 144;refine (r14all_any _ x _ A ⟨ma,mc⟩ (Nat.le_refl _) OX.out (by exact RVs.ext (Agree.below Below.z) _ _ HL.out)).mono ?_;rintro e w1 ⟨rfl,hb⟩;have hB1:=hb;clear hb;obtain ⟨hc1,hf1⟩:=bcells hB1)
  go_ret
  exact ⟨rfl,Below.r⟩
 rw [if_neg (by simp [h1])]
 have h1':(allE x==0)=true:=by simp [h1]
 generalize hF:(if 128 < (deepV x:Int) then (9:Int) else if 4096 < (sizeV x:Int) then 5 else 0)=F
 have HF:=hid hF
 clear hF
 have HA:=hid h1
 clear h1 h1'
 go_enter Tryz.func106,Tryz.ntmps106
 go_wp2_with (first
  | (go_at_call 144;refine (r14all_any _ x _ A ⟨ma,mc⟩ (Nat.le_refl _) OX.out (by exact RVs.ext (Agree.below Below.z) _ _ HL.out)).mono ?_;rw [HA.out];rintro e w1 ⟨rfl,hb⟩;have hB1:=hb;clear hb;obtain ⟨hc1,hf1⟩:=bcells hB1)
  | (go_at_call 111;refine (r14deep_any _ x _ A ⟨ma,mc⟩ (Nat.le_refl _) h40 OX.out (by exact RVs.ext (Agree.below Below.z) _ _ HL.out)).mono ?_;rintro e w2 ⟨rfl,hb⟩;have hB2:=Below.trans hB1 (Below.mono hb (Below.size hB1));clear hb;obtain ⟨hc2,hf2⟩:=bcells hB2)
  | (go_at_call 45;refine (r14size_any _ x _ A ⟨ma,mc⟩ (Nat.le_refl _) h40 OX.out (by exact RVs.ext (Agree.below Below.z) _ _ HL.out)).mono ?_;rintro e w3 ⟨rfl,hb⟩;have hB3:=Below.trans hB2 (Below.mono hb (Below.size hB2));clear hb;obtain ⟨hc3,hf3⟩:=bcells hB3))
 all_goals go_ret
 all_goals refine ⟨ret_int ?_,Below.z⟩
 all_goals rw [←HF.out]
 all_goals (first|rfl|omega|((try simp only [beq_iff_eq,beq_eq_false_iff_ne,bne_iff_ne,bne_eq_false_iff_eq,decide_eq_true_eq,decide_eq_false_iff_not,ne_eq,Bool.and_eq_true,Bool.or_eq_true,Bool.and_eq_false_iff,Bool.or_eq_false_iff,Bool.not_eq_true',Bool.not_eq_false'] at *);(repeat' split)<;>first|rfl|omega|contradiction|(simp_all;done)|(simp_all;omega)))
set_option maxRecDepth 100000 in
set_option maxHeartbeats 4000000 in
theorem r17node_any (p:GP) (A:Nat→Prop) (m:PA) (w:World) (ox:okP p) (hsz:sizeP p≤1099511627776) (hl:RP w A p m):
  Calls Tryz.prog 70 #[PV p m] w fun e w'=>e=.returned (.int .i64 (nodeP p))∧Below w.heap.size w w':=by
 obtain ⟨ma,mc,mb,md⟩:=m
 obtain ⟨k,v,n,a⟩:=p
 obtain ⟨⟨x1,x2⟩,ov,⟨x3,x4⟩,x5,oa⟩:=okP_iff.1 ox
 obtain ⟨v1,v2,v3,_⟩:=okV_iff.1 ov
 have HV:=hid (And.intro v1 (And.intro v2 v3))
 have OV:=hid ov
 have HLV:=hid (RV_iff.1 (RP_iff.1 hl).1)
 have hse:=sizeP_eq ⟨k,v,n,a⟩
 have hsv:sizeV v≤1099511627776:=by simp only at hse;omega
 dsimp only at HV OV HLV x1 x2 x3 x4 x5
 clear ox oa ov v1 v2 v3 hl hse hsz
 by_cases hk:k < 1∨11 < k
 ·have hF:nodeP ⟨k,v,n,a⟩=11:=by unfold nodeP;rw [if_pos hk]
  rw [hF]
  clear hF
  rcases hk with hk|hk
  all_goals go_enter Tryz.func70,Tryz.ntmps70
  all_goals go_wp2_with fail
  all_goals go_ret
  all_goals exact ⟨rfl,Below.r⟩
 rcases (by omega:k=1∨k=2∨k=3∨k=4∨k=5∨k=6∨k=7∨k=8∨k=9∨k=10∨k=11) with rfl|rfl|rfl|rfl|rfl|rfl|rfl|rfl|rfl|rfl|rfl
 all_goals clear hk
 all_goals
  generalize hF:nodeP _=F
  have HF:=hid hF
  clear hF
  go_enter Tryz.func70,Tryz.ntmps70
  go_wp2_with (first
   | (go_at_call 106;refine (r14check_any v _ A ⟨ma,mc⟩ OV.out hsv (by exact RVs.ext (Agree.below Below.z) _ _ HLV.out)).mono ?_;rintro e w1 ⟨rfl,hb⟩;have hB1:=hb;clear hb;obtain ⟨hc1,hf1⟩:=bcells hB1)
   | (go_at_call 110;refine (r17none_any v ⟨ma,mc⟩ _ HV.out).mono ?_;rintro e w1 ⟨rfl,hb⟩;have hB1:=hb;clear hb;obtain ⟨hc1,hf1⟩:=bcells hB1))
  all_goals go_ret
  all_goals refine ⟨ret_int ?_,Below.r⟩
  all_goals rw [←HF.out]
  all_goals unfold nodeP nodePrest numberE roomL roomM hasValueB
  all_goals first|(simp [*];done)|(simp_all;done)|(simp_all;omega)|(first|rfl|omega|((try simp only [beq_iff_eq,beq_eq_false_iff_ne,bne_iff_ne,bne_eq_false_iff_eq,decide_eq_true_eq,decide_eq_false_iff_not,ne_eq,Bool.and_eq_true,Bool.or_eq_true,Bool.and_eq_false_iff,Bool.or_eq_false_iff,Bool.not_eq_true',Bool.not_eq_false'] at *);(repeat' split)<;>first|rfl|omega|contradiction|(simp_all;done)|(simp_all;omega)))
set_option maxRecDepth 100000 in
set_option maxHeartbeats 1000000 in
theorem r17check_any (N:Nat):∀(p:GP) (w:World) (A:Nat→Prop) (m:PA) (pl d:Int),sizeP p≤N→okP p→0≤pl→pl+sizeP p≤1099511627776→0≤d→d≤13→RP w A p m →
  Calls Tryz.prog 47 #[PV p m,.int .i64 pl,.int .i64 d] w fun e w'=>e=.returned (.tuple #[.int .i64 (chkP pl d p).1,.int .i64 (chkP pl d p).2])∧Below w.heap.size w w':=by
 induction N with
 | zero=>intro p;have:=sizeP_pos p;intros;omega
 | succ N ih=>
  rintro p w A ⟨ma,mc,mb,md⟩ pl d hN ox hp0 hp1 hd0 hd1 hl
  have IH:=hid ih
  have HL:=hid (RP_iff.1 hl).2
  have HP:=hid hl
  have OX:=hid ox
  obtain ⟨⟨x1,x2⟩,ov,⟨x3,x4⟩,x5,oa⟩:=okP_iff.1 ox
  have O:=hid oa
  have hse:=sizeP_eq p
  have hsv:=sizeV_pos p.v
  clear ih hl ox oa ov
  rw [chkP_eq]
  by_cases hd:12 < d
  ·rw [if_pos hd]
   go_enter Tryz.func47,Tryz.ntmps47
   go_wp2_with fail
   go_ret2
   exact ⟨rfl,Below.z⟩
  rw [if_neg hd]
  have hsz:sizeP p≤1099511627776:=by omega
  by_cases hn:nodeP p=0
  case neg=>
   rw [if_pos hn]
   have hn':(nodeP p != 0)=true:=by simp [hn]
   clear hn
   go_enter Tryz.func47,Tryz.ntmps47
   go_wp2_with (go_at_call 70;refine (r17node_any p A ⟨ma,mc,mb,md⟩ _ OX.out hsz (by exact RP.ext (Agree.below Below.z) _ _ HP.out)).mono ?_;rintro e w1 ⟨rfl,hb⟩;have hB1:=hb;clear hb;obtain ⟨hc1,hf1⟩:=bcells hB1)
   go_ret2
   exact ⟨rfl,Below.z⟩
  rw [if_neg (by simp [hn])]
  have HN:=hid hn
  have hn':(nodeP p != 0)=false:=by simp [hn]
  clear hn
  generalize hF:chkPs (pl+1) (d+1) p.a=F
  have HF:=hid hF
  clear hF
  go_enter Tryz.func47,Tryz.ntmps47
  go_wp2_with (go_at_call 70;refine (r17node_any p A ⟨ma,mc,mb,md⟩ _ OX.out hsz (by exact RP.ext (Agree.below Below.z) _ _ HP.out)).mono ?_;rintro e w1 ⟨rfl,hb⟩;have hB1:=hb;clear hb;obtain ⟨hc1,hf1⟩:=bcells hB1)
  go_loopg [1,8,9] (p.a.length) (fun gk t1 t8 i wr=>∃j:Nat,gk+j=p.a.length∧i=.int .i64 j∧t1=.int .i64 (chkPs (pl+1) (d+1) (p.a.take j)).1∧t8=.int .i64 0∧Hid ((chkPs (pl+1) (d+1) (p.a.take j)).2=0)∧Below w.heap.size w wr∧w.heap.size < wr.heap.size∧wr.cell? ⟨w.heap.size,5,none⟩=some (.slice mb p.a.length md))
  case atStart=>exact ⟨0,by omega,rfl,by simp [chkPs],by rw [HN.out],by simp [chkPs,Hid],Below.z,by have:=hB1.size;simp at this;omega,(hB1.cell so).trans (by go_simp)⟩
  case round=>
   obtain ⟨j,hj,rfl,rfl,rfl,HZ,hb,hz,hcell⟩:=hrel
   by_cases hlt:j < p.a.length
   ·obtain ⟨b,o,mj,rfl,hA,hbs,g0,gx⟩:=HL.out.get j hlt
    obtain ⟨k0,k1,k2,k3,k4,k5⟩:=At6.1 (g0.ext (Agree.below hb) (A:=fun _=>True) trivial)
    have hs1:b < wr.heap.size:=by omega
    have hq:=chkPs_place (p.a.take j) (pl+1) (d+1)
    have hq1:=sizePs_take p.a j
    have hq2:=sizePs_take_succ p.a j hlt
    have hq3:=sizePs_take p.a (j+1)
    have hst:=chkPs_take (pl+1) (d+1) p.a j hlt HZ.out
    have HST:=hid hst
    clear hst g0
    generalize hQ:(chkPs (pl+1) (d+1) (p.a.take j)).1=Q at *
    have HQ:=hid hQ
    clear hQ
    go_wp2_with (go_at_call 47;refine (IH.out p.a[j] _ A mj Q (d+1) (by omega) (O.out.get j hlt) (by omega) (by omega) (by omega) (by omega) (by exact RP.ext (Agree.below Below.z) _ _ gx)).mono ?_;rintro e w2 ⟨rfl,hb2⟩)
    all_goals have hbb:Below w.heap.size w w2:=hb.trans (hb2.mono (by omega))
    ·have hne:(chkP Q (d+1) p.a[j]).2≠0:=by simpa using ‹((chkP Q (d+1) p.a[j]).2 != 0)=true›
     go_ret2
     have h1:chkP Q (d+1) p.a[j]=F:=by
      rw [←HF.out,←HST.out];exact (chkPs_stop _ _ _ _ (by rw [HST.out];exact hne)).symm
     exact ⟨ret_ii (congrArg Prod.fst h1) (congrArg Prod.snd h1),hbb⟩
    ·have hne:(chkP Q (d+1) p.a[j]).2=0:=by simpa using ‹((chkP Q (d+1) p.a[j]).2 != 0)=false›
     go_roundg (gk - 1)
     case measure=>omega
     case rel=>exact ⟨j+1,by omega,by go_num,by rw [HST.out],by rw [hne],by rw [HST.out];exact hne,hbb,by have:=hb2.size;omega,(hb2.cell (by simp;omega)).trans hcell⟩
   ·have hjl:j=p.a.length:=by omega
    go_wp2_with fail
    go_ret2
    have h1:chkPs (pl+1) (d+1) (p.a.take j)=F:=by rw [hjl,List.take_length];exact HF.out
    exact ⟨ret_ii (by rw [h1]) (by rw [←h1,HZ.out]),hb⟩
set_option maxRecDepth 100000 in
set_option maxHeartbeats 1000000 in
theorem r17nodes_any (N:Nat):∀(p:GP) (w:World) (A:Nat→Prop) (m:PA),sizeP p≤N→okP p→sizeP p≤1099511627776→RP w A p m →
  Calls Tryz.prog 48 #[PV p m] w fun e w'=>e=.returned (.int .i64 (nodesP p))∧Below w.heap.size w w':=by
 induction N with
 | zero=>intro p;have:=sizeP_pos p;intros;omega
 | succ N ih=>
  rintro p w A ⟨ma,mc,mb,md⟩ hN ox hs hl
  have IH:=hid ih
  have HL:=hid (RP_iff.1 hl).2
  have HLV:=hid (RV_iff.1 (RP_iff.1 hl).1)
  obtain ⟨⟨x1,x2⟩,ov,⟨x3,x4⟩,x5,oa⟩:=okP_iff.1 ox
  have O:=hid oa
  have OV:=hid ov
  have hse:=sizeP_eq p
  have hsv:sizeV p.v≤1099511627776:=by omega
  have hpos:=sizeV_pos p.v
  clear ih hl ox oa ov
  rw [nodesP_eq]
  obtain ⟨G,hGd⟩:∃G,G=(if hasValueB p.k=true then sizeV p.v else 0):=⟨_,rfl⟩
  rw [←hGd]
  have hGl:G≤sizeV p.v:=by rw [hGd];split<;>omega
  cases h3:(p.k==3)
  all_goals cases h4:(p.k==4)
  all_goals unfold hasValueB at hGd
  all_goals simp only [h3,h4,Bool.or_self,Bool.or_true,Bool.true_or,Bool.or_false,Bool.false_or,if_true,if_false,Bool.false_eq_true,reduceIte] at hGd
  all_goals have HGD:=hid hGd
  all_goals clear hGd
  all_goals go_enter Tryz.func48,Tryz.ntmps48
  all_goals go_wp2_with (go_at_call 45;refine (r14size_any _ p.v _ A ⟨ma,mc⟩ (Nat.le_refl _) hsv OV.out (by exact RVs.ext (Agree.below Below.z) _ _ HLV.out)).mono ?_;rw [←HGD.out];rintro e w1 ⟨rfl,hb1⟩;have hz1:=hb1.size;(try simp at hz1);obtain ⟨hc1,hf1⟩:=bcells hb1)
  all_goals
   go_loopg [3,4] (p.a.length) (fun gk t3 i wr=>∃(j n:Nat),gk+j=p.a.length∧i=.int .i64 j∧t3=.int .i64 n∧Hid (n=1+G+nodesPs (p.a.take j))∧n≤1099511627776∧Below w.heap.size w wr∧w.heap.size < wr.heap.size∧wr.cell? ⟨w.heap.size,5,none⟩=some (.slice mb p.a.length md))
   case atStart=>exact ⟨0,1+G,by omega,rfl,by first|go_num|(have hg0:=HGD.out;subst hg0;rfl),hid (by simp [nodesPs]),by omega,Below.r,by first|(simp;done)|(simp;omega)|omega,by go_simp⟩
   case round=>
    obtain ⟨j,n,hj,rfl,rfl,HE,hn,hb,hz,hcell⟩:=hrel
    by_cases hlt:j < p.a.length
    ·obtain ⟨b,o,mj,rfl,hA,hbs,g0,gx⟩:=HL.out.get j hlt
     obtain ⟨k0,k1,k2,k3,k4,k5⟩:=At6.1 (g0.ext (Agree.below hb) (A:=fun _=>True) trivial)
     have hs1:b < wr.heap.size:=by omega
     have hq1:=sizePs_get p.a j hlt
     have hq2:=nodesPs_take_succ p.a j hlt
     have hq3:=nodesPs_take_le p.a (j+1)
     have hn2:n+nodesP p.a[j]≤1099511627776:=by have:=HE.out;omega
     have hn3:=nodesP_le p.a[j]
     have HQ:=hid hq2
     clear hq2 hq3 g0
     go_wp2_with (go_at_call 48;refine (IH.out p.a[j] _ A mj (by omega) (O.out.get j hlt) (by omega) (by exact RP.ext (Agree.below Below.z) _ _ gx)).mono ?_;rintro e w2 ⟨rfl,hb2⟩)
     have hbb:Below w.heap.size w w2:=hb.trans (hb2.mono (by omega))
     go_roundg (gk - 1)
     case measure=>omega
     case rel=>exact ⟨j+1,n+nodesP p.a[j],by omega,by go_num,by go_num,hid (by have:=HE.out;have:=HQ.out;omega),hn2,hbb,by have:=hb2.size;omega,(hb2.cell (by simp;omega)).trans hcell⟩
    ·have hjl:j=p.a.length:=by omega
     go_wp2_with fail
     go_ret
     exact ⟨ret_int (by have:=HE.out;rw [hjl,List.take_length] at this;omega),hb⟩
set_option maxRecDepth 100000 in
theorem r17checkE_any (p:GP) (w:World) (A:Nat→Prop) (m:PA) (ox:okP p) (hs:sizeP p≤1099511627776) (hl:RP w A p m):
  Calls Tryz.prog 30 #[PV p m] w fun e w'=>e=.returned (.tuple #[.int .i64 (checkPE p).1,.int .i64 (checkPE p).2])∧Below w.heap.size w w':=by
 obtain ⟨ma,mc,mb,md⟩:=m
 have HL:=hid hl
 have OX:=hid ox
 have hnl:=nodesP_le p
 clear hl ox
 unfold checkPE
 by_cases h1:(chkP 0 1 p).2=0
 case neg=>
  have h1':((chkP 0 1 p).2 != 0)=true:=by simp [h1]
  rw [if_pos h1]
  clear h1
  go_enter Tryz.func30,Tryz.ntmps30
  go_wp2_with (go_at_call 47;refine (r17check_any _ p _ A ⟨ma,mc,mb,md⟩ 0 1 (Nat.le_refl _) OX.out (by omega) (by omega) (by omega) (by omega) (by exact RP.ext (Agree.below Below.z) _ _ HL.out)).mono ?_;rintro e w1 ⟨rfl,hb⟩;have hB1:=hb;clear hb;obtain ⟨hc1,hf1⟩:=bcells hB1)
  go_ret2
  exact ⟨rfl,Below.z⟩
 have h1':((chkP 0 1 p).2 != 0)=false:=by simp [h1]
 rw [if_neg (by simp [h1])]
 clear h1
 generalize hF:(if 512 < (nodesP p:Int) then ((0:Int),(5:Int)) else (0,0))=F
 have HF:=hid hF
 clear hF
 go_enter Tryz.func30,Tryz.ntmps30
 go_wp2_with (first
  | (go_at_call 47;refine (r17check_any _ p _ A ⟨ma,mc,mb,md⟩ 0 1 (Nat.le_refl _) OX.out (by omega) (by omega) (by omega) (by omega) (by exact RP.ext (Agree.below Below.z) _ _ HL.out)).mono ?_;rintro e w1 ⟨rfl,hb⟩;have hB1:=hb;clear hb;obtain ⟨hc1,hf1⟩:=bcells hB1)
  | (go_at_call 48;refine (r17nodes_any _ p _ A ⟨ma,mc,mb,md⟩ (Nat.le_refl _) OX.out hs (by exact RP.ext (Agree.below Below.z) _ _ HL.out)).mono ?_;rintro e w2 ⟨rfl,hb⟩;have hB2:=Below.trans hB1 (Below.mono hb (Below.size hB1));clear hb;obtain ⟨hc2,hf2⟩:=bcells hB2))
 all_goals go_ret2
 all_goals refine ⟨?_,Below.z⟩
 all_goals rw [←HF.out]
 ·rw [if_pos (by assumption)];rfl
 ·rw [if_neg (by omega)];rfl
set_option maxRecDepth 100000 in
set_option maxHeartbeats 1000000 in
theorem r11wrong_any (l:List Int) (w:World) (A:Nat→Prop) (a:Option Addr) (cp:Nat) (hlen:l.length≤1048576) (ol:okIs l) (hl:RIs w A l a):
  Calls Tryz.prog 109 #[.slice a l.length cp] w fun e w'=>e=.returned (.int .i64 (freqE l))∧Below w.heap.size w w':=by
 have HL:=hid hl
 have O:=hid ol
 clear hl ol
 by_cases h0:l.length=0
 ·have hF:freqE l=4:=by unfold freqE;rw [if_pos h0]
  have h0':((l.length:Int)==0)=true:=by simp [h0]
  rw [hF]
  clear hF h0
  go_enter Tryz.func109,Tryz.ntmps109
  go_wp2_with fail
  go_ret
  exact ⟨rfl,Below.r⟩
 have h0':((l.length:Int)==0)=false:=beq_eq_false_iff_ne.2 (by omega)
 by_cases h6:64 < l.length
 ·have hF:freqE l=5:=by unfold freqE;rw [if_neg h0,if_pos h6]
  rw [hF]
  clear hF h0
  go_enter Tryz.func109,Tryz.ntmps109
  go_wp2_with fail
  go_ret
  exact ⟨rfl,Below.r⟩
 have hF:freqE l=freqLoop 0 l:=by unfold freqE;rw [if_neg h0,if_neg h6]
 rw [hF]
 clear hF
 generalize hF:freqLoop 0 l=F
 have HF:=hid hF
 clear hF
 clear h0
 go_enter Tryz.func109,Tryz.ntmps109
 go_wp2_with fail
 go_loopg [3,4] (l.length) (fun gk t3 i wr=>∃(j:Nat) (S:Int),gk+j=l.length∧i=.int .i64 j∧t3=.int .i64 S∧0≤S∧S≤1048576*j∧Hid (freqLoop S (l.drop j)=F)∧w=wr)
 case atStart=>exact ⟨0,0,by omega,rfl,rfl,by omega,by omega,hid (by rw [List.drop_zero];exact HF.out),rfl⟩
 case round=>
  obtain ⟨j,S,hj,rfl,rfl,hS0,hS1,HE,rfl⟩:=hrel
  by_cases hlt:j < l.length
  ·obtain ⟨b,o,rfl,hA,hbs,g0⟩:=HL.out.get j hlt
   obtain ⟨i1,i2⟩:=O.out.get j hlt
   have hst:=HE.out
   rw [List.drop_eq_getElem_cons hlt,freqLoop] at hst
   by_cases hlo:l[j] < 0
   ·rw [if_pos (.inl hlo)] at hst
    have HST:=hid hst
    clear hst
    go_wp2_with fail
    go_ret
    exact ⟨ret_int HST.out,Below.r⟩
   ·by_cases hhi:1048576 < l[j]
    ·rw [if_pos (.inr hhi)] at hst
     have HST:=hid hst
     clear hst
     go_wp2_with fail
     go_ret
     exact ⟨ret_int HST.out,Below.r⟩
    ·rw [if_neg (by omega)] at hst
     have HST:=hid hst
     clear hst
     go_wp2_with fail
     go_roundg (gk - 1)
     case measure=>omega
     case rel=>exact ⟨j+1,S+l[j],by omega,by go_num,rfl,by omega,by omega,HST,rfl⟩
  ·have hjl:j=l.length:=by omega
   have hst:=HE.out
   rw [hjl,List.drop_length,freqLoop] at hst
   by_cases hz:S=0
   ·rw [if_pos hz] at hst
    have hz':(S==0)=true:=by simp [hz]
    have HST:=hid hst
    clear hst hz hjl
    go_wp2_with fail
    go_ret
    exact ⟨ret_int HST.out,Below.r⟩
   ·rw [if_neg hz] at hst
    have hz':(S==0)=false:=by simp [hz]
    have HST:=hid hst
    clear hst hz hjl
    go_wp2_with fail
    go_ret
    exact ⟨ret_int HST.out,Below.r⟩
theorem r19ends_x (t:GT) (m:TA) (w:World) (ox:okT t) (h2:(t.k==2)=false) (h6:(t.k==6)=false) (h8:(t.k==8)=false) (h10:(t.k==10)=false):
  Calls Tryz.prog 67 #[TV t m] w fun e w'=>e=.returned (.int .i64 (endsE t))∧Below w.heap.size w w':=by
 obtain ⟨⟨x1,x2⟩,ov,⟨ovl,_⟩,⟨l1,l2⟩,⟨l3,l4⟩,⟨owl,_⟩,op,oal,oa⟩:=okT_iff.1 ox
 obtain ⟨ma,mb,mc,md,me,mf,mg,mh,mi,mj,mk,ml⟩:=m
 have hF:endsE t=if t.lo=0∧t.hi=0 then 0 else 3:=by
  unfold endsE
  rw [if_neg (by simpa using h2),if_neg (by simpa using h6),if_neg (by simpa using h8),if_neg (by simpa using h10)]
 rw [hF]
 clear ox ov oa op hF
 by_cases a:t.lo=0
 ·by_cases b:t.hi=0
  ·rw [if_pos ⟨a,b⟩]
   have a':(t.lo != 0)=false:=by simp [a]
   have b':(t.hi != 0)=false:=by simp [b]
   clear a b
   go_enter Tryz.func67,Tryz.ntmps67
   go_wp2_with fail
   go_ret
   exact ⟨rfl,Below.r⟩
  ·rw [if_neg (fun h=>b h.2)]
   have a':(t.lo != 0)=false:=by simp [a]
   have b':(t.hi != 0)=true:=by simp [b]
   clear a b
   go_enter Tryz.func67,Tryz.ntmps67
   go_wp2_with fail
   go_ret
   exact ⟨rfl,Below.r⟩
 ·rw [if_neg (fun h=>a h.1)]
  have a':(t.lo != 0)=true:=by simp [a]
  clear a
  go_enter Tryz.func67,Tryz.ntmps67
  go_wp2_with fail
  go_ret
  exact ⟨rfl,Below.r⟩
set_option maxRecDepth 100000 in
set_option maxHeartbeats 4000000 in
theorem r19ends_any (t:GT) (m:TA) (w:World) (ox:okT t):
  Calls Tryz.prog 67 #[TV t m] w fun e w'=>e=.returned (.int .i64 (endsE t))∧Below w.heap.size w w':=by
 by_cases hk:t.k=2∨t.k=6∨t.k=8∨t.k=10
 case neg=>exact r19ends_x t m w ox (beq_eq_false_iff_ne.2 (by omega)) (beq_eq_false_iff_ne.2 (by omega)) (beq_eq_false_iff_ne.2 (by omega)) (beq_eq_false_iff_ne.2 (by omega))
 obtain ⟨k,v,vs,lo,hi,ws,p,l⟩:=t
 obtain ⟨⟨x1,x2⟩,ov,⟨ovl,_⟩,⟨l1,l2⟩,⟨l3,l4⟩,⟨owl,_⟩,op,oal,oa⟩:=okT_iff.1 ox
 obtain ⟨ma,mb,mc,md,me,mf,mg,mh,mi,mj,mk,ml⟩:=m
 dsimp only at hk x1 x2 l1 l2 l3 l4 oal
 clear ox ov oa op ovl owl
 rcases hk with rfl|rfl|rfl|rfl
 all_goals
  generalize hF:endsE _=F
  have HF:=hid hF
  clear hF
  go_enter Tryz.func67,Tryz.ntmps67
  go_wp2_with fail
  all_goals go_ret
  all_goals refine ⟨ret_int ?_,Below.r⟩
  all_goals rw [←HF.out]
  all_goals unfold endsE withinB
  all_goals first|(simp;omega)|(simp [*];done)|(simp_all;done)|(simp_all;omega)|(first|rfl|omega|((try simp only [beq_iff_eq,beq_eq_false_iff_ne,bne_iff_ne,bne_eq_false_iff_eq,decide_eq_true_eq,decide_eq_false_iff_not,ne_eq,Bool.and_eq_true,Bool.or_eq_true,Bool.and_eq_false_iff,Bool.or_eq_false_iff,Bool.not_eq_true',Bool.not_eq_false'] at *);(repeat' split)<;>first|rfl|omega|contradiction|(simp_all;done)|(simp_all;omega)))
def hasE (t:GT):Int:=if valuesE t≠0 then valuesE t else weightsE t
def headE (t:GT):Int:=if t.k=1 then checkV t.v else if noneV t.v=true then 0 else 3
theorem valuesE_head (t:GT):valuesE t=if headE t≠0 then headE t else restV t:=by
 unfold valuesE headE
 split
 ·rfl
 ·split
  ·simp
  ·simp
set_option maxRecDepth 100000 in
set_option maxHeartbeats 2000000 in
theorem r19has_head (t:GT) (A:Nat→Prop) (m:TA) (w:World) (ox:okT t) (hs:sizeT t≤1099511627776) (hl:RT w A t m) (h:headE t≠0):
  Calls Tryz.prog 66 #[TV t m] w fun e w'=>e=.returned (.int .i64 (headE t))∧Below w.heap.size w w':=by
 obtain ⟨x1,ov,⟨ovl,ovs⟩,l1,l2,⟨owl,ow⟩,op,oal,oa⟩:=okT_iff.1 ox
 obtain ⟨v1,v2,v3,_⟩:=okV_iff.1 ov
 obtain ⟨ma,mb,mc,md,me,mf,mg,mh,mi,mj,mk,ml⟩:=m
 have HV:=hid (And.intro v1 (And.intro v2 v3))
 have OV:=hid ov
 have HLV:=hid (RV_iff.1 (RT_iff.1 hl).1)
 have hse:=sizeT_eq t
 have hsv:sizeV t.v≤1099511627776:=by omega
 clear ox ov ovs ow op oa v1 v2 v3 hl hse
 by_cases hk:t.k=1
 ·have hF:headE t=checkV t.v:=by unfold headE;rw [if_pos hk]
  rw [hF] at h ⊢
  have h':(checkV t.v != 0)=true:=by simp [h]
  have hk':(t.k==1)=true:=by simp [hk]
  clear hF h hk
  go_enter Tryz.func66,Tryz.ntmps66
  go_wp2_with (go_at_call 106;refine (r14check_any t.v _ A ⟨ma,mb⟩ OV.out hsv (by exact RVs.ext (Agree.below Below.z) _ _ HLV.out)).mono ?_;rintro e w1 ⟨rfl,hb⟩;have hB1:=hb;clear hb;obtain ⟨hc1,hf1⟩:=bcells hB1)
  go_ret
  exact ⟨rfl,Below.r⟩
 ·have hn:noneV t.v=false:=by
   cases hn:noneV t.v
   ·rfl
   ·unfold headE at h;rw [if_neg hk,if_pos hn] at h;exact absurd rfl h
  have hF:headE t=3:=by unfold headE;rw [if_neg hk,if_neg (by simp [hn])]
  rw [hF]
  have hk':(t.k==1)=false:=by simp [hk]
  have HN:=hid hn
  clear hF h hk hn
  go_enter Tryz.func66,Tryz.ntmps66
  go_wp2_with (go_at_call 107;refine (r19none_any t.v ⟨ma,mb⟩ _ HV.out).mono ?_;rw [HN.out];rintro e w1 ⟨rfl,hb⟩;have hB1:=hb;clear hb)
  go_ret
  exact ⟨rfl,Below.r⟩
end Go.Proofs.YtclphfojkggcpaaGreat
