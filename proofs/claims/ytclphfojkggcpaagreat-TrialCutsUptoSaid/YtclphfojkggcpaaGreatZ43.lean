/- What the proofs of the Trial statements need: part 44. -/
import Derived.Test.YtclphfojkggcpaaGreatZ6
import Derived.Test.YtclphfojkggcpaaGreatZ42
set_option linter.unusedVariables false
set_option linter.unusedSimpArgs false
namespace Go.Proofs.YtclphfojkggcpaaGreat
open Go.Lib (hid)
open Go Go.RowKit
set_option maxRecDepth 100000 in
set_option maxHeartbeats 4000000 in
theorem r19node_xb (t:GT) (A:Nat→Prop) (m:TA) (w:World) (ox:okT t) (hs:sizeT t≤1099511627776) (hl:RT w A t m) (hh:hasE t=0) (he:endsE t=0) (h4:t.k=5∨t.k=6∨t.k=7):
  Calls Tryz.prog 44 #[TV t m] w fun e w'=>e=.returned (.int .i64 (argumentsE t))∧Below w.heap.size w w':=by
 obtain ⟨ma,mb,mc,md,me,mf,mg,mh,mi,mj,mk,ml⟩:=m
 obtain ⟨⟨x1,x2⟩,ov,⟨ovl,ovs⟩,l1,l2,⟨owl,ow⟩,op,oal,oa⟩:=okT_iff.1 ox
 have HL:=hid hl
 have OX:=hid ox
 have HH:=hid hh
 have HE:=hid he
 clear hl ox ov ovs l1 l2 ow op oa hh he
 obtain ⟨k,v,vs,lo,hi,ws,p,l⟩:=t
 dsimp only at h4 ovl owl oal x1 x2
 rcases h4 with rfl|rfl|rfl
 all_goals clear x1 x2
 all_goals
  go_enter Tryz.func44,Tryz.ntmps44
  go_wp2_with (first|(go_at_call 66;refine (r19has_any _ A ⟨ma,mb,mc,md,me,mf,mg,mh,mi,mj,mk,ml⟩ _ OX.out hs (by exact RT.ext (Agree.below Below.r) _ _ HL.out)).mono ?_;rw [HH.out];rintro e w1 ⟨rfl,hbx⟩;have hB1:=hbx;clear hbx;obtain ⟨hc1,hf1⟩:=bcells hB1)|(go_at_call 67;refine (r19ends_any _ ⟨ma,mb,mc,md,me,mf,mg,mh,mi,mj,mk,ml⟩ _ OX.out).mono ?_;rw [HE.out];rintro e w2 ⟨rfl,hbx⟩;have hB2:=Below.trans hB1 (Below.mono hbx (Below.size hB1));clear hbx;obtain ⟨hc2,hf2⟩:=bcells hB2)|(go_at_call 68;refine (r19many_any _ _ _ _ ⟨by omega,by omega⟩ ⟨by omega,by omega⟩ ⟨by omega,by omega⟩).mono ?_;rintro e w3 ⟨rfl,hbx⟩;have hB3:=Below.trans hB2 (Below.mono hbx (Below.size hB2));clear hbx;obtain ⟨hc3,hf3⟩:=bcells hB3))
  go_ret
  exact ⟨ret_int (by simp [argumentsE]),Below.r⟩
set_option maxRecDepth 100000 in
set_option maxHeartbeats 4000000 in
theorem r19node_xc (t:GT) (A:Nat→Prop) (m:TA) (w:World) (ox:okT t) (hs:sizeT t≤1099511627776) (hl:RT w A t m) (hh:hasE t=0) (he:endsE t=0) (h4:t.k=8∨t.k=9):
  Calls Tryz.prog 44 #[TV t m] w fun e w'=>e=.returned (.int .i64 (argumentsE t))∧Below w.heap.size w w':=by
 obtain ⟨ma,mb,mc,md,me,mf,mg,mh,mi,mj,mk,ml⟩:=m
 obtain ⟨⟨x1,x2⟩,ov,⟨ovl,ovs⟩,l1,l2,⟨owl,ow⟩,op,oal,oa⟩:=okT_iff.1 ox
 have HL:=hid hl
 have OX:=hid ox
 have HH:=hid hh
 have HE:=hid he
 clear hl ox ov ovs l1 l2 ow op oa hh he
 obtain ⟨k,v,vs,lo,hi,ws,p,l⟩:=t
 dsimp only at h4 ovl owl oal x1 x2
 rcases h4 with rfl|rfl
 all_goals clear x1 x2
 all_goals
  go_enter Tryz.func44,Tryz.ntmps44
  go_wp2_with (first|(go_at_call 66;refine (r19has_any _ A ⟨ma,mb,mc,md,me,mf,mg,mh,mi,mj,mk,ml⟩ _ OX.out hs (by exact RT.ext (Agree.below Below.r) _ _ HL.out)).mono ?_;rw [HH.out];rintro e w1 ⟨rfl,hbx⟩;have hB1:=hbx;clear hbx;obtain ⟨hc1,hf1⟩:=bcells hB1)|(go_at_call 67;refine (r19ends_any _ ⟨ma,mb,mc,md,me,mf,mg,mh,mi,mj,mk,ml⟩ _ OX.out).mono ?_;rw [HE.out];rintro e w2 ⟨rfl,hbx⟩;have hB2:=Below.trans hB1 (Below.mono hbx (Below.size hB1));clear hbx;obtain ⟨hc2,hf2⟩:=bcells hB2)|(go_at_call 68;refine (r19many_any _ _ _ _ ⟨by omega,by omega⟩ ⟨by omega,by omega⟩ ⟨by omega,by omega⟩).mono ?_;rintro e w3 ⟨rfl,hbx⟩;have hB3:=Below.trans hB2 (Below.mono hbx (Below.size hB2));clear hbx;obtain ⟨hc3,hf3⟩:=bcells hB3))
  go_ret
  exact ⟨ret_int (by simp [argumentsE]),Below.r⟩
set_option maxRecDepth 100000 in
set_option maxHeartbeats 4000000 in
theorem r19node_xd (t:GT) (A:Nat→Prop) (m:TA) (w:World) (ox:okT t) (hs:sizeT t≤1099511627776) (hl:RT w A t m) (hh:hasE t=0) (he:endsE t=0) (h4:t.k=10∨t.k=11):
  Calls Tryz.prog 44 #[TV t m] w fun e w'=>e=.returned (.int .i64 (argumentsE t))∧Below w.heap.size w w':=by
 obtain ⟨ma,mb,mc,md,me,mf,mg,mh,mi,mj,mk,ml⟩:=m
 obtain ⟨⟨x1,x2⟩,ov,⟨ovl,ovs⟩,l1,l2,⟨owl,ow⟩,op,oal,oa⟩:=okT_iff.1 ox
 have HL:=hid hl
 have OX:=hid ox
 have HH:=hid hh
 have HE:=hid he
 clear hl ox ov ovs l1 l2 ow op oa hh he
 obtain ⟨k,v,vs,lo,hi,ws,p,l⟩:=t
 dsimp only at h4 ovl owl oal x1 x2
 rcases h4 with rfl|rfl
 all_goals clear x1 x2
 all_goals
  go_enter Tryz.func44,Tryz.ntmps44
  go_wp2_with (first|(go_at_call 66;refine (r19has_any _ A ⟨ma,mb,mc,md,me,mf,mg,mh,mi,mj,mk,ml⟩ _ OX.out hs (by exact RT.ext (Agree.below Below.r) _ _ HL.out)).mono ?_;rw [HH.out];rintro e w1 ⟨rfl,hbx⟩;have hB1:=hbx;clear hbx;obtain ⟨hc1,hf1⟩:=bcells hB1)|(go_at_call 67;refine (r19ends_any _ ⟨ma,mb,mc,md,me,mf,mg,mh,mi,mj,mk,ml⟩ _ OX.out).mono ?_;rw [HE.out];rintro e w2 ⟨rfl,hbx⟩;have hB2:=Below.trans hB1 (Below.mono hbx (Below.size hB1));clear hbx;obtain ⟨hc2,hf2⟩:=bcells hB2)|(go_at_call 68;refine (r19many_any _ _ _ _ ⟨by omega,by omega⟩ ⟨by omega,by omega⟩ ⟨by omega,by omega⟩).mono ?_;rintro e w3 ⟨rfl,hbx⟩;have hB3:=Below.trans hB2 (Below.mono hbx (Below.size hB2));clear hbx;obtain ⟨hc3,hf3⟩:=bcells hB3))
  go_ret
  exact ⟨ret_int (by simp [argumentsE]),Below.r⟩
set_option maxRecDepth 100000 in
set_option maxHeartbeats 4000000 in
theorem r19node_4 (t:GT) (A:Nat→Prop) (m:TA) (w:World) (ox:okT t) (hs:sizeT t≤1099511627776) (hl:RT w A t m) (hh:hasE t=0) (he:endsE t=0) (h4:t.k=4):
  Calls Tryz.prog 44 #[TV t m] w fun e w'=>e=.returned (.int .i64 (argumentsE t))∧Below w.heap.size w w':=by
 obtain ⟨ma,mb,mc,md,me,mf,mg,mh,mi,mj,mk,ml⟩:=m
 obtain ⟨⟨x1,x2⟩,ov,⟨ovl,ovs⟩,l1,l2,⟨owl,ow⟩,op,oal,oa⟩:=okT_iff.1 ox
 have HL:=hid hl
 have OX:=hid ox
 have HH:=hid hh
 have HE:=hid he
 clear hl ox ov ovs l1 l2 ow op oa hh he
 obtain ⟨k,v,vs,lo,hi,ws,p,l⟩:=t
 dsimp only at h4 ovl owl oal x1 x2
 have ma1:isI64 ((l.length:Nat):Int):=⟨by omega,by omega⟩
 have ma2:isI64 ((ws.length:Nat):Int):=⟨by omega,by omega⟩
 have ma3:isI64 ((vs.length:Nat):Int):=⟨by omega,by omega⟩
 have MA1:=hid ma1
 have MA2:=hid ma2
 have MA3:=hid ma3
 clear ma1 ma2 ma3
 clear MA1 MA2 MA3
 subst h4
 clear x1 x2
 by_cases hM0:manyE (vs.length:Int) (ws.length:Int) (ws.length:Int)=0
 ·have hF:argumentsE ⟨4,v,vs,lo,hi,ws,p,l⟩=manyE (l.length:Int) 0 0:=by simp [argumentsE,hM0]
  rw [hF]
  have hm2:(manyE (vs.length:Int) (ws.length:Int) (ws.length:Int) != 0)=false:=by simp [hM0]
  have hm3:(manyE (vs.length:Int) (ws.length:Int) (ws.length:Int)==0)=true:=by simp [hM0]
  clear hM0 hF
  go_enter Tryz.func44,Tryz.ntmps44
  go_wp2_with (first|(go_at_call 66;refine (r19has_any _ A ⟨ma,mb,mc,md,me,mf,mg,mh,mi,mj,mk,ml⟩ _ OX.out hs (by exact RT.ext (Agree.below Below.r) _ _ HL.out)).mono ?_;rw [HH.out];rintro e w1 ⟨rfl,hbx⟩;have hB1:=hbx;clear hbx;obtain ⟨hc1,hf1⟩:=bcells hB1)|(go_at_call 67;refine (r19ends_any _ ⟨ma,mb,mc,md,me,mf,mg,mh,mi,mj,mk,ml⟩ _ OX.out).mono ?_;rw [HE.out];rintro e w2 ⟨rfl,hbx⟩;have hB2:=Below.trans hB1 (Below.mono hbx (Below.size hB1));clear hbx;obtain ⟨hc2,hf2⟩:=bcells hB2)|(go_at_call 68;refine (r19many_any _ _ _ _ ⟨by omega,by omega⟩ ⟨by omega,by omega⟩ ⟨by omega,by omega⟩).mono ?_;rintro e w3 ⟨rfl,hbx⟩;first|(have hB4:=Below.trans hB3 (Below.mono hbx (Below.size hB3));clear hbx;obtain ⟨hc4,hf4⟩:=bcells hB4)|(have hB3:=Below.trans hB2 (Below.mono hbx (Below.size hB2));clear hbx;obtain ⟨hc3,hf3⟩:=bcells hB3)))
  go_ret
  exact ⟨ret_int rfl,Below.r⟩
 ·have hF:argumentsE ⟨4,v,vs,lo,hi,ws,p,l⟩=manyE (vs.length:Int) (ws.length:Int) (ws.length:Int):=by simp [argumentsE,hM0]
  rw [hF]
  have hm2:(manyE (vs.length:Int) (ws.length:Int) (ws.length:Int) != 0)=true:=by simp [hM0]
  clear hM0 hF
  go_enter Tryz.func44,Tryz.ntmps44
  go_wp2_with (first|(go_at_call 66;refine (r19has_any _ A ⟨ma,mb,mc,md,me,mf,mg,mh,mi,mj,mk,ml⟩ _ OX.out hs (by exact RT.ext (Agree.below Below.r) _ _ HL.out)).mono ?_;rw [HH.out];rintro e w1 ⟨rfl,hbx⟩;have hB1:=hbx;clear hbx;obtain ⟨hc1,hf1⟩:=bcells hB1)|(go_at_call 67;refine (r19ends_any _ ⟨ma,mb,mc,md,me,mf,mg,mh,mi,mj,mk,ml⟩ _ OX.out).mono ?_;rw [HE.out];rintro e w2 ⟨rfl,hbx⟩;have hB2:=Below.trans hB1 (Below.mono hbx (Below.size hB1));clear hbx;obtain ⟨hc2,hf2⟩:=bcells hB2)|(go_at_call 68;refine (r19many_any _ _ _ _ ⟨by omega,by omega⟩ ⟨by omega,by omega⟩ ⟨by omega,by omega⟩).mono ?_;rintro e w3 ⟨rfl,hbx⟩;have hB3:=Below.trans hB2 (Below.mono hbx (Below.size hB2));clear hbx;obtain ⟨hc3,hf3⟩:=bcells hB3))
  go_ret
  exact ⟨ret_int rfl,Below.r⟩
set_option maxRecDepth 100000 in
set_option maxHeartbeats 4000000 in
theorem r19node_any (t:GT) (A:Nat→Prop) (m:TA) (w:World) (ox:okT t) (hs:sizeT t≤1099511627776) (hl:RT w A t m):
  Calls Tryz.prog 44 #[TV t m] w fun e w'=>e=.returned (.int .i64 (nodeT t))∧Below w.heap.size w w':=by
 obtain ⟨ma,mb,mc,md,me,mf,mg,mh,mi,mj,mk,ml⟩:=m
 obtain ⟨⟨x1,x2⟩,ov,⟨ovl,ovs⟩,l1,l2,⟨owl,ow⟩,op,oal,oa⟩:=okT_iff.1 ox
 have HL:=hid hl
 have OX:=hid ox
 clear hl ox ov ovs l1 l2 ow op oa
 by_cases hk:t.k < 1∨11 < t.k
 ·have hF:nodeT t=11:=by unfold nodeT;rw [if_pos hk]
  rw [hF]
  clear hF
  rcases hk with hk|hk
  all_goals go_enter Tryz.func44,Tryz.ntmps44
  all_goals go_wp2_with fail
  all_goals go_ret
  all_goals exact ⟨rfl,Below.r⟩
 rw [nodeT_has t hk]
 have hk1:1≤t.k:=by omega
 have hk2:t.k≤11:=by omega
 clear hk
 by_cases hh:hasE t=0
 case neg=>
  rw [if_pos hh]
  have h1:(hasE t==0)=false:=by simp [hh]
  have h2:(hasE t != 0)=true:=by simp [hh]
  clear hh
  go_enter Tryz.func44,Tryz.ntmps44
  go_wp2_with (go_at_call 66;refine (r19has_any t A ⟨ma,mb,mc,md,me,mf,mg,mh,mi,mj,mk,ml⟩ _ OX.out hs (by exact RT.ext (Agree.below Below.z) _ _ HL.out)).mono ?_;rintro e w1 ⟨rfl,hb⟩;have hB1:=hb;clear hb;obtain ⟨hc1,hf1⟩:=bcells hB1)
  go_ret
  exact ⟨rfl,Below.r⟩
 rw [if_neg (by simp [hh])]
 have hh0:=hh
 have HH:=hid hh
 clear hh
 by_cases he:endsE t=0
 case neg=>
  rw [if_pos he]
  have h1:(endsE t==0)=false:=by simp [he]
  have h2:(endsE t != 0)=true:=by simp [he]
  clear he
  go_enter Tryz.func44,Tryz.ntmps44
  go_wp2_with (first
   | (go_at_call 66;refine (r19has_any t A ⟨ma,mb,mc,md,me,mf,mg,mh,mi,mj,mk,ml⟩ _ OX.out hs (by exact RT.ext (Agree.below Below.z) _ _ HL.out)).mono ?_;rw [HH.out];rintro e w1 ⟨rfl,hbx⟩;have hB1:=hbx;clear hbx;obtain ⟨hc1,hf1⟩:=bcells hB1)
   | (go_at_call 67;refine (r19ends_any t ⟨ma,mb,mc,md,me,mf,mg,mh,mi,mj,mk,ml⟩ _ OX.out).mono ?_;rintro e w2 ⟨rfl,hb⟩;have hB2:=Below.trans hB1 (Below.mono hb (Below.size hB1));clear hb;obtain ⟨hc2,hf2⟩:=bcells hB2))
  go_ret
  exact ⟨rfl,Below.r⟩
 rw [if_neg (by simp [he])]
 by_cases h4:t.k=4
 ·exact r19node_4 t A _ w OX.out hs HL.out hh0 he h4
 ·rcases (by omega:(t.k=1∨t.k=2∨t.k=3)∨(t.k=5∨t.k=6∨t.k=7)∨(t.k=8∨t.k=9)∨(t.k=10∨t.k=11)) with h|h|h|h
  ·exact r19node_xa t A _ w OX.out hs HL.out hh0 he h
  ·exact r19node_xb t A _ w OX.out hs HL.out hh0 he h
  ·exact r19node_xc t A _ w OX.out hs HL.out hh0 he h
  ·exact r19node_xd t A _ w OX.out hs HL.out hh0 he h
end Go.Proofs.YtclphfojkggcpaaGreat
