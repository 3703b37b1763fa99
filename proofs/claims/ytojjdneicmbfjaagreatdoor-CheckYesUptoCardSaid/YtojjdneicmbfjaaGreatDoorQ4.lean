/- What the proofs of the Trial statements need: part 5. -/
import Derived.Test.YtojjdneicmbfjaaGreatDoorQ0
import Derived.Test.YtojjdneicmbfjaaGreatDoorQ2
import Derived.Test.YtojjdneicmbfjaaGreatDoorQ3
set_option linter.unusedVariables false
set_option linter.unusedSimpArgs false
namespace Go.Proofs.YtojjdneicmbfjaaGreatDoor
open Go.Lib (hid)
open Go Go.RowKit
theorem ret_b1 {a b:Bool} (h:a=b):Ending.returned (.bool a)=.returned (.bool b):=by rw [h]
def checkPE (p:GP):Int×Int:=if (chkP 0 1 p).2≠0 then chkP 0 1 p else if 512 < (nodesP p:Int) then (0,5) else (0,0)
set_option maxRecDepth 100000 in
theorem checkP_any (p:GP) (w:World) (A:Nat→Prop) (m:PA) (ox:okP p) (hs:sizeP p≤1099511627776) (hl:RP w A p m):
  Calls Tryz.prog 46 #[PV p m] w fun e w'=>e=.returned (.tuple #[.int .i64 (checkPE p).1,.int .i64 (checkPE p).2])∧Below w.heap.size w w':=by
 obtain ⟨ma,mc,mb,md⟩:=m
 have HL:=hid hl
 have OX:=hid ox
 have hnl:=nodesP_le p
 clear hl ox
 unfold checkPE
 by_cases h1:(chkP 0 1 p).2=0
 case neg=>
  have h1':((chkP 0 1 p).2 != 0)=true:=by simp [h1]
  rw [if_pos h1]
  clear h1
  go_enter Tryz.func46,Tryz.ntmps46
  go_wp2_with (go_at_call 74;refine (check_any _ p _ A ⟨ma,mc,mb,md⟩ 0 1 (Nat.le_refl _) OX.out (by omega) (by omega) (by omega) (by omega) (by exact RP.ext (Agree.below Below.z) _ _ HL.out)).mono ?_;rintro e w1 ⟨rfl,hb⟩;have hB1:=hb;clear hb;obtain ⟨hc1,hf1⟩:=bcells hB1)
  go_ret2
  exact ⟨rfl,Below.z⟩
 have h1':((chkP 0 1 p).2 != 0)=false:=by simp [h1]
 rw [if_neg (by simp [h1])]
 clear h1
 generalize hF:(if 512 < (nodesP p:Int) then ((0:Int),(5:Int)) else (0,0))=F
 have HF:=hid hF
 clear hF
 go_enter Tryz.func46,Tryz.ntmps46
 go_wp2_with (first
  | (go_at_call 74;refine (check_any _ p _ A ⟨ma,mc,mb,md⟩ 0 1 (Nat.le_refl _) OX.out (by omega) (by omega) (by omega) (by omega) (by exact RP.ext (Agree.below Below.z) _ _ HL.out)).mono ?_;rintro e w1 ⟨rfl,hb⟩;have hB1:=hb;clear hb;obtain ⟨hc1,hf1⟩:=bcells hB1)
  | (go_at_call 75;refine (nodes_any _ p _ A ⟨ma,mc,mb,md⟩ (Nat.le_refl _) OX.out hs (by exact RP.ext (Agree.below Below.z) _ _ HL.out)).mono ?_;rintro e w2 ⟨rfl,hb⟩;have hB2:=Below.trans hB1 (Below.mono hb (Below.size hB1));clear hb;obtain ⟨hc2,hf2⟩:=bcells hB2))
 all_goals go_ret2
 all_goals refine ⟨?_,Below.z⟩
 all_goals rw [←HF.out]
 ·rw [if_pos (by assumption)];rfl
 ·rw [if_neg (by omega)];rfl
def mayP (p:GP):Bool:=(checkPE p).2==0
theorem mayP_any (p:GP) (w:World) (A:Nat→Prop) (m:PA) (ox:okP p) (hs:sizeP p≤1099511627776) (hl:RP w A p m):
  Calls Tryz.prog 29 #[PV p m] w fun e w'=>e=.returned (.bool (mayP p))∧Below w.heap.size w w':=by
 obtain ⟨ma,mc,mb,md⟩:=m
 have HL:=hid hl
 have OX:=hid ox
 clear hl ox
 generalize hF:mayP p=F
 have HF:=hid hF
 clear hF
 go_enter Tryz.func29,Tryz.ntmps29
 go_wp2_with (go_at_call 46;refine (checkP_any p _ A ⟨ma,mc,mb,md⟩ OX.out hs (by exact RP.ext (Agree.below Below.z) _ _ HL.out)).mono ?_;rintro e w1 ⟨rfl,hb⟩;have hB1:=hb;clear hb;obtain ⟨hc1,hf1⟩:=bcells hB1)
 all_goals go_ret
 all_goals exact ⟨by rw [←HF.out];simp [mayP],Below.z⟩
def nothingP (p:GP):Bool:=p.k==0&&noneV p.v&&p.n==0&&(p.a.length:Int)==0
set_option maxRecDepth 100000 in
theorem nothing_any (p:GP) (m:PA) (w:World) (ox:okP p):
  Calls Tryz.prog 207 #[PV p m] w fun e w'=>e=.returned (.bool (nothingP p))∧Below w.heap.size w w':=by
 obtain ⟨⟨x1,x2⟩,ov,⟨x3,x4⟩,x5,oa⟩:=okP_iff.1 ox
 obtain ⟨v1,v2,v3,_⟩:=okV_iff.1 ov
 have HV:=hid (show isU8 p.v.k∧isI64 p.v.n∧p.v.l.length≤1048576 from ⟨v1,v2,v3⟩)
 obtain ⟨ma,mc,mb,md⟩:=m
 clear ox oa ov v1 v2
 generalize hF:nothingP p=F
 have HF:=hid hF
 clear hF
 go_enter Tryz.func207,Tryz.ntmps207
 go_wp2_with (go_at_call 161;refine (none_any p.v ⟨ma,mc⟩ _ HV.out).mono ?_;rintro e w1 ⟨rfl,hb⟩;have hB1:=hb;clear hb;obtain ⟨hc1,hf1⟩:=bcells hB1)
 all_goals go_ret
 all_goals refine ⟨ret_bool ?_,Below.z⟩
 all_goals rw [←HF.out]
 all_goals unfold nothingP
 all_goals (first|(simp;done)|(simp [*];done)|(simp_all;done)|(simp_all;omega)|(simp;omega))
set_option maxRecDepth 100000 in
theorem r17nothing_any (p:GP) (m:PA) (w:World) (ox:okP p):
  Calls Tryz.prog 191 #[PV p m] w fun e w'=>e=.returned (.bool (nothingP p))∧Below w.heap.size w w':=by
 obtain ⟨⟨x1,x2⟩,ov,⟨x3,x4⟩,x5,oa⟩:=okP_iff.1 ox
 obtain ⟨v1,v2,v3,_⟩:=okV_iff.1 ov
 have HV:=hid (show isU8 p.v.k∧isI64 p.v.n∧p.v.l.length≤1048576 from ⟨v1,v2,v3⟩)
 obtain ⟨ma,mc,mb,md⟩:=m
 clear ox oa ov v1 v2
 generalize hF:nothingP p=F
 have HF:=hid hF
 clear hF
 go_enter Tryz.func191,Tryz.ntmps191
 go_wp2_with (go_at_call 155;refine (r17none_any p.v ⟨ma,mc⟩ _ HV.out).mono ?_;rintro e w1 ⟨rfl,hb⟩;have hB1:=hb;clear hb;obtain ⟨hc1,hf1⟩:=bcells hB1)
 all_goals go_ret
 all_goals refine ⟨ret_bool ?_,Below.z⟩
 all_goals rw [←HF.out]
 all_goals unfold nothingP
 all_goals (first|(simp;done)|(simp [*];done)|(simp_all;done)|(simp_all;omega)|(simp;omega))
theorem freqNew_err (l:List Int) (w:World) (A:Nat→Prop) (wa:Option Addr) (wc:Nat) (ol:okIs l) (hln:l.length≤1048576) (hl:RIs w A l wa):
  Calls Tryz.prog 116 #[.slice wa l.length wc] w fun e w'=>(∃q,e=.returned (.tuple #[.pointer q,.int .i64 (freqE l)]))∧Below w.heap.size w w':=
 (freqNew_any l w A wa wc ol hln hl).mono fun e w' ⟨hb,h⟩=>⟨by
  rcases h with ⟨_,h⟩|⟨h0,b,a,c,h,_⟩
  ·exact ⟨_,h⟩
  ·exact ⟨_,by rw [h,h0]⟩,hb⟩
def restW (t:GT):Int:=if t.k≠3∧t.k≠4 then (if (t.w.length:Int)=0 then 0 else 3) else freqE t.w
def weightsE (t:GT):Int:=
 if t.k=9 then (if (checkPE t.p).2≠0 then (checkPE t.p).2 else restW t) else if nothingP t.p=true then restW t else 3
def argumentsE (t:GT):Int:=
 if t.k=3 then manyE t.a.length t.w.length t.w.length
 else if t.k=5∨t.k=7∨t.k=8 then manyE t.a.length 0 64
 else if t.k=6∨t.k=9 then manyE t.a.length 1 1
 else if t.k=10 then manyE t.a.length 2 2
 else if t.k=4 then (if manyE t.vs.length t.w.length t.w.length≠0 then manyE t.vs.length t.w.length t.w.length else manyE t.a.length 0 0)
 else manyE t.a.length 0 0
set_option maxRecDepth 100000 in
set_option maxHeartbeats 1000000 in
theorem arguments_any (t:GT) (m:TA) (w:World) (ox:okT t):
  Calls Tryz.prog 168 #[TV t m] w fun e w'=>e=.returned (.int .i64 (argumentsE t))∧Below w.heap.size w w':=by
 obtain ⟨⟨x1,x2⟩,ov,⟨ovl,_⟩,⟨l1,l2⟩,⟨l3,l4⟩,⟨owl,_⟩,op,oal,oa⟩:=okT_iff.1 ox
 obtain ⟨ma,mb,mc,md,me,mf,mg,mh,mi,mj,mk,ml⟩:=m
 clear ox ov oa op
 generalize hF:argumentsE t=F
 have HF:=hid hF
 clear hF
 go_enter Tryz.func168,Tryz.ntmps168
 go_wp2_with (first
  | (go_at_call 209;refine (many_any _ _ _ _ ⟨by omega,by omega⟩ ⟨by omega,by omega⟩ ⟨by omega,by omega⟩).mono ?_;rintro e w2 ⟨rfl,hb⟩;have hB2:=Below.trans hB1 (Below.mono hb (Below.size hB1));clear hb;obtain ⟨hc2,hf2⟩:=bcells hB2)
  | (go_at_call 209;refine (many_any _ _ _ _ ⟨by omega,by omega⟩ ⟨by omega,by omega⟩ ⟨by omega,by omega⟩).mono ?_;rintro e w1 ⟨rfl,hb⟩;have hB1:=hb;clear hb;obtain ⟨hc1,hf1⟩:=bcells hB1))
 all_goals go_ret
 all_goals refine ⟨ret_int ?_,Below.z⟩
 all_goals rw [←HF.out]
 all_goals unfold argumentsE
 all_goals (first|rfl|omega|((try simp only [beq_iff_eq,beq_eq_false_iff_ne,bne_iff_ne,bne_eq_false_iff_eq,decide_eq_true_eq,decide_eq_false_iff_not,ne_eq,Bool.and_eq_true,Bool.or_eq_true,Bool.and_eq_false_iff,Bool.or_eq_false_iff,Bool.not_eq_true',Bool.not_eq_false'] at *);(repeat' split)<;>first|rfl|omega|contradiction|(simp_all;done)|(simp_all;omega)))
def endsE (t:GT):Int:=
 if t.k=2 then (if (withinB t.lo (-1099511627776) t.hi&&withinB t.hi t.lo 1099511627776)=true then 0 else 1)
 else if t.k=6 then (if (withinB t.lo 0 t.hi&&withinB t.hi t.lo 16)=true then 0 else 1)
 else if t.k=8 then (if withinB t.lo 0 t.a.length=true then (if t.hi=0 then 0 else 3) else 1)
 else if t.k=10 then (if withinB t.lo 0 8=true then (if t.hi=0 then 0 else 3) else 1)
 else if t.lo=0∧t.hi=0 then 0 else 3
set_option maxRecDepth 100000 in
set_option maxHeartbeats 1000000 in
theorem ends_any (t:GT) (m:TA) (w:World) (ox:okT t):
  Calls Tryz.prog 167 #[TV t m] w fun e w'=>e=.returned (.int .i64 (endsE t))∧Below w.heap.size w w':=by
 obtain ⟨⟨x1,x2⟩,ov,⟨ovl,_⟩,⟨l1,l2⟩,⟨l3,l4⟩,⟨owl,_⟩,op,oal,oa⟩:=okT_iff.1 ox
 obtain ⟨ma,mb,mc,md,me,mf,mg,mh,mi,mj,mk,ml⟩:=m
 clear ox ov oa op
 generalize hF:endsE t=F
 have HF:=hid hF
 clear hF
 go_enter Tryz.func167,Tryz.ntmps167
 go_wp2_with (first
  | (go_at_call 205;refine (unless_any _ _).mono ?_;rintro e w3 ⟨rfl,hb⟩;have hB3:=Below.trans hB2 (Below.mono hb (Below.size hB2));clear hb;obtain ⟨hc3,hf3⟩:=bcells hB3)
  | (go_at_call 205;refine (unless_any _ _).mono ?_;rintro e w3 ⟨rfl,hb⟩;have hB3:=Below.trans hB1 (Below.mono hb (Below.size hB1));clear hb;obtain ⟨hc3,hf3⟩:=bcells hB3)
  | (go_at_call 205;refine (unless_any _ _).mono ?_;rintro e w3 ⟨rfl,hb⟩;have hB3:=hb;clear hb;obtain ⟨hc3,hf3⟩:=bcells hB3)
  | (go_at_call 208;refine (within_any _ _ _ _ ⟨by omega,by omega⟩ ⟨by omega,by omega⟩ ⟨by omega,by omega⟩).mono ?_;rintro e w2 ⟨rfl,hb⟩;have hB2:=Below.trans hB1 (Below.mono hb (Below.size hB1));clear hb;obtain ⟨hc2,hf2⟩:=bcells hB2)
  | (go_at_call 208;refine (within_any _ _ _ _ ⟨by omega,by omega⟩ ⟨by omega,by omega⟩ ⟨by omega,by omega⟩).mono ?_;rintro e w1 ⟨rfl,hb⟩;have hB1:=hb;clear hb;obtain ⟨hc1,hf1⟩:=bcells hB1))
 all_goals go_ret
 all_goals refine ⟨ret_int ?_,Below.z⟩
 all_goals rw [←HF.out]
 all_goals unfold endsE
 all_goals (try unfold unlessE)
 all_goals (first|rfl|omega|((try simp only [beq_iff_eq,beq_eq_false_iff_ne,bne_iff_ne,bne_eq_false_iff_eq,decide_eq_true_eq,decide_eq_false_iff_not,ne_eq,Bool.and_eq_true,Bool.or_eq_true,Bool.and_eq_false_iff,Bool.or_eq_false_iff,Bool.not_eq_true',Bool.not_eq_false'] at *);(repeat' split)<;>first|rfl|omega|contradiction|(simp_all;done)|(simp_all;omega)))
set_option maxRecDepth 100000 in
set_option maxHeartbeats 1000000 in
theorem weights_any (t:GT) (A:Nat→Prop) (m:TA) (w:World) (ox:okT t) (hs:sizeT t≤1099511627776) (hl:RT w A t m):
  Calls Tryz.prog 166 #[TV t m] w fun e w'=>e=.returned (.int .i64 (weightsE t))∧Below w.heap.size w w':=by
 obtain ⟨⟨x1,x2⟩,ov,⟨ovl,_⟩,⟨l1,l2⟩,⟨l3,l4⟩,⟨owl,ow⟩,op,oal,oa⟩:=okT_iff.1 ox
 obtain ⟨ma,mb,mc,md,me,mf,mg,mh,mi,mj,mk,ml⟩:=m
 obtain ⟨_,_,h3,h4,_⟩:=RT_iff.1 hl
 have H3:=hid h3
 have H4:=hid h4
 have OW:=hid ow
 have OP:=hid op
 have hps:sizeP t.p≤1099511627776:=by have:=sizeT_eq t;omega
 clear ox ov oa op hl h3 h4 ow
 generalize hF:weightsE t=F
 have HF:=hid hF
 clear hF
 go_enter Tryz.func166,Tryz.ntmps166
 go_wp2_with (first
  | (go_at_call 46;refine (checkP_any t.p _ A ⟨mg,mh,mi,mj⟩ OP.out hps (by exact RP.ext (Agree.below Below.z) _ _ H4.out)).mono ?_;rintro e w1 ⟨rfl,hb⟩;have hB1:=hb;clear hb;obtain ⟨hc1,hf1⟩:=bcells hB1)
  | (go_at_call 207;refine (nothing_any t.p ⟨mg,mh,mi,mj⟩ _ OP.out).mono ?_;rintro e w1 ⟨rfl,hb⟩;have hB1:=hb;clear hb;obtain ⟨hc1,hf1⟩:=bcells hB1)
  | (go_at_call 205;refine (unless_any _ _).mono ?_;rintro e w2 ⟨rfl,hb⟩;have hB2:=Below.trans hB1 (Below.mono hb (Below.size hB1));clear hb;obtain ⟨hc2,hf2⟩:=bcells hB2)
  | (go_at_call 116;refine (freqNew_err t.w _ A me mf OW.out owl (by exact RIs.ext (Agree.below Below.z) _ _ H3.out)).mono ?_;rintro e w2 ⟨⟨q,rfl⟩,hb⟩;have hB2:=Below.trans hB1 (Below.mono hb (Below.size hB1));clear hb;obtain ⟨hc2,hf2⟩:=bcells hB2))
 all_goals go_ret
 all_goals refine ⟨ret_int ?_,Below.z⟩
 all_goals rw [←HF.out]
 all_goals unfold weightsE restW
 all_goals (try unfold unlessE)
 all_goals (first|rfl|omega|((try simp only [beq_iff_eq,beq_eq_false_iff_ne,bne_iff_ne,bne_eq_false_iff_eq,decide_eq_true_eq,decide_eq_false_iff_not,ne_eq,Bool.and_eq_true,Bool.or_eq_true,Bool.and_eq_false_iff,Bool.or_eq_false_iff,Bool.not_eq_true',Bool.not_eq_false'] at *);(repeat' split)<;>first|rfl|omega|contradiction|(simp_all;done)|(simp_all;omega)))
def firstVs:List GV→Int
 | []=>0
 | x::l=>if checkV x≠0 then checkV x else firstVs l
theorem firstVs_get (l:List GV) (j:Nat) (h:j < l.length) (h0:∀q (hq:q < l.length),q < j→checkV l[q]=0) (h1:checkV l[j]≠0):firstVs l=checkV l[j]:=by
 induction l generalizing j with
 | nil=>simp at h
 | cons x l ih=>cases j with
  | zero=>simp only [List.getElem_cons_zero] at h1 ⊢;rw [firstVs,if_pos h1]
  | succ j=>
   have:=h0 0 (by simp) (by omega)
   simp only [List.getElem_cons_zero] at this
   rw [firstVs,if_neg (by simp [this])]
   simp only [List.getElem_cons_succ] at h1 ⊢
   exact ih j (by simpa using h) (fun q hq hj=>by have:=h0 (q+1) (by simpa using hq) (by omega);simpa only [List.getElem_cons_succ] using this) h1
theorem firstVs_zero (l:List GV) (h0:∀q (hq:q < l.length),checkV l[q]=0):firstVs l=0:=by
 induction l with
 | nil=>rfl
 | cons x l ih=>
  have:=h0 0 (by simp)
  simp only [List.getElem_cons_zero] at this
  rw [firstVs,if_neg (by simp [this])]
  exact ih fun q hq=>by have:=h0 (q+1) (by simpa using hq);simpa only [List.getElem_cons_succ] using this
def restV (t:GT):Int:=if t.k≠4 then (if (t.vs.length:Int)=0 then 0 else 3) else firstVs t.vs
def valuesE (t:GT):Int:=if t.k=1 then (if checkV t.v≠0 then checkV t.v else restV t) else if noneV t.v=true then restV t else 3
set_option maxRecDepth 100000 in
set_option maxHeartbeats 1000000 in
theorem values_any (t:GT) (A:Nat→Prop) (m:TA) (w:World) (ox:okT t) (hs:sizeT t≤1099511627776) (hl:RT w A t m):
  Calls Tryz.prog 165 #[TV t m] w fun e w'=>e=.returned (.int .i64 (valuesE t))∧Below w.heap.size w w':=by
 obtain ⟨⟨x1,x2⟩,ov,⟨ovl,ovs⟩,⟨l1,l2⟩,⟨l3,l4⟩,⟨owl,ow⟩,op,oal,oa⟩:=okT_iff.1 ox
 obtain ⟨ma,mb,mc,md,me,mf,mg,mh,mi,mj,mk,ml⟩:=m
 obtain ⟨h1,h2,_⟩:=RT_iff.1 hl
 have H1:=hid (RV_iff.1 h1)
 have H2:=hid h2
 have OV:=hid ov
 have OVS:=hid ovs
 obtain ⟨v1,v2,v3,_⟩:=okV_iff.1 ov
 have HV:=hid (show isU8 t.v.k∧isI64 t.v.n∧t.v.l.length≤1048576 from ⟨v1,v2,v3⟩)
 have hse:=sizeT_eq t
 have hvs:sizeV t.v≤1099511627776:=by omega
 clear ox ov oa op hl h1 h2 ow ovs v1 v2
 by_cases hk:t.k=4
 case neg=>
  have hk2:(t.k != 4)=true:=by simp [hk]
  have HK:=hid hk
  clear hk
  generalize hF:valuesE t=F
  have HF:=hid hF
  clear hF
  go_enter Tryz.func165,Tryz.ntmps165
  go_wp2_with (first
   | (go_at_call 206;refine (tnone_any t.v ⟨ma,mb⟩ _ HV.out).mono ?_;rintro e w1 ⟨rfl,hb⟩;have hB1:=hb;clear hb;obtain ⟨hc1,hf1⟩:=bcells hB1)
   | (go_at_call 205;refine (unless_any _ _).mono ?_;rintro e w4 ⟨rfl,hb⟩;have hB4:=Below.trans hB3 (Below.mono hb (Below.size hB3));clear hb;obtain ⟨hc4,hf4⟩:=bcells hB4)
   | (go_at_call 205;refine (unless_any _ _).mono ?_;rintro e w3 ⟨rfl,hb⟩;have hB3:=Below.trans hB2 (Below.mono hb (Below.size hB2));clear hb;obtain ⟨hc3,hf3⟩:=bcells hB3)
   | (go_at_call 205;refine (unless_any _ _).mono ?_;rintro e w2 ⟨rfl,hb⟩;have hB2:=Below.trans hB1 (Below.mono hb (Below.size hB1));clear hb;obtain ⟨hc2,hf2⟩:=bcells hB2)
   | (go_at_call 205;refine (unless_any _ _).mono ?_;rintro e w2 ⟨rfl,hb⟩;have hB2:=hb;clear hb;obtain ⟨hc2,hf2⟩:=bcells hB2)
   | (go_at_call 160;refine (checkV_any t.v A ⟨ma,mb⟩ _ OV.out hvs (by exact RVs.ext (Agree.below Below.z) _ _ H1.out)).mono ?_;rintro e w3 ⟨rfl,hb⟩;have hB3:=Below.trans hB2 (Below.mono hb (Below.size hB2));clear hb;obtain ⟨hc3,hf3⟩:=bcells hB3))
  all_goals go_ret
  all_goals refine ⟨ret_int ?_,Below.z⟩
  all_goals rw [←HF.out]
  all_goals unfold valuesE restV
  all_goals rw [if_pos HK.out]
  all_goals (try unfold unlessE at *)
  all_goals (first|rfl|omega|((try simp only [beq_iff_eq,beq_eq_false_iff_ne,bne_iff_ne,bne_eq_false_iff_eq,decide_eq_true_eq,decide_eq_false_iff_not,ne_eq,Bool.and_eq_true,Bool.or_eq_true,Bool.and_eq_false_iff,Bool.or_eq_false_iff,Bool.not_eq_true',Bool.not_eq_false'] at *);(repeat' split)<;>first|rfl|omega|contradiction|(simp_all;done)|(simp_all;omega)))
 have hk1:(t.k==1)=false:=by rw [hk];rfl
 have hk2:(t.k != 4)=false:=by rw [hk];rfl
 have hF:valuesE t=if noneV t.v=true then firstVs t.vs else 3:=by simp [valuesE,restV,hk]
 rw [hF]
 clear hk hF
 cases hn:noneV t.v
 ·have HN:=hid hn
  clear hn
  go_enter Tryz.func165,Tryz.ntmps165
  go_wp2_with (first
   | (go_at_call 206;refine (tnone_any t.v ⟨ma,mb⟩ _ HV.out).mono ?_;rw [HN.out];rintro e w1 ⟨rfl,hb⟩;have hB1:=hb;clear hb;obtain ⟨hc1,hf1⟩:=bcells hB1)
   | (go_at_call 205;refine (unless_any _ _).mono ?_;rintro e w4 ⟨rfl,hb⟩;have hB4:=Below.trans hB3 (Below.mono hb (Below.size hB3));clear hb;obtain ⟨hc4,hf4⟩:=bcells hB4)
   | (go_at_call 205;refine (unless_any _ _).mono ?_;rintro e w3 ⟨rfl,hb⟩;have hB3:=Below.trans hB2 (Below.mono hb (Below.size hB2));clear hb;obtain ⟨hc3,hf3⟩:=bcells hB3)
   | (go_at_call 205;refine (unless_any false _).mono ?_;rintro e w2 ⟨rfl,hb⟩;have hB2:=Below.trans hB1 (Below.mono hb (Below.size hB1));clear hb;obtain ⟨hc2,hf2⟩:=bcells hB2)
   | (go_at_call 205;refine (unless_any _ _).mono ?_;rintro e w2 ⟨rfl,hb⟩;have hB2:=hb;clear hb;obtain ⟨hc2,hf2⟩:=bcells hB2)
   | (go_at_call 160;refine (checkV_any t.v A ⟨ma,mb⟩ _ OV.out hvs (by exact RVs.ext (Agree.below Below.z) _ _ H1.out)).mono ?_;rintro e w3 ⟨rfl,hb⟩;have hB3:=Below.trans hB2 (Below.mono hb (Below.size hB2));clear hb;obtain ⟨hc3,hf3⟩:=bcells hB3))
  all_goals go_ret
  all_goals exact ⟨rfl,Below.z⟩
 ·have HN:=hid hn
  clear hn
  rw [if_pos rfl]
  generalize hF:firstVs t.vs=F
  have HF:=hid hF
  clear hF
  go_enter Tryz.func165,Tryz.ntmps165
  go_wp2_with (first
   | (go_at_call 206;refine (tnone_any t.v ⟨ma,mb⟩ _ HV.out).mono ?_;rw [HN.out];rintro e w1 ⟨rfl,hb⟩;have hB1:=hb;clear hb;obtain ⟨hc1,hf1⟩:=bcells hB1)
   | (go_at_call 205;refine (unless_any _ _).mono ?_;rintro e w4 ⟨rfl,hb⟩;have hB4:=Below.trans hB3 (Below.mono hb (Below.size hB3));clear hb;obtain ⟨hc4,hf4⟩:=bcells hB4)
   | (go_at_call 205;refine (unless_any _ _).mono ?_;rintro e w3 ⟨rfl,hb⟩;have hB3:=Below.trans hB2 (Below.mono hb (Below.size hB2));clear hb;obtain ⟨hc3,hf3⟩:=bcells hB3)
   | (go_at_call 205;refine (unless_any true _).mono ?_;rintro e w2 ⟨rfl,hb⟩;have hB2:=Below.trans hB1 (Below.mono hb (Below.size hB1));clear hb;obtain ⟨hc2,hf2⟩:=bcells hB2)
   | (go_at_call 205;refine (unless_any _ _).mono ?_;rintro e w2 ⟨rfl,hb⟩;have hB2:=hb;clear hb;obtain ⟨hc2,hf2⟩:=bcells hB2)
   | (go_at_call 160;refine (checkV_any t.v A ⟨ma,mb⟩ _ OV.out hvs (by exact RVs.ext (Agree.below Below.z) _ _ H1.out)).mono ?_;rintro e w3 ⟨rfl,hb⟩;have hB3:=Below.trans hB2 (Below.mono hb (Below.size hB2));clear hb;obtain ⟨hc3,hf3⟩:=bcells hB3))
  go_loopg [36] (t.vs.length) (fun gk i wr=>∃j:Nat,gk+j=t.vs.length∧i=.int .i64 j∧Hid (∀q (hq:q < t.vs.length),q < j→checkV t.vs[q]=0)∧Below w.heap.size w wr∧w.heap.size < wr.heap.size)
  case atStart=>exact ⟨0,by omega,rfl,fun q hq hj=>absurd hj (by omega),Below.z,by have:=hB2.size;simp at this;omega⟩
  case round=>
   obtain ⟨j,hj,rfl,HZ,hb,hz⟩:=hrel
   by_cases hlt:j < t.vs.length
   ·obtain ⟨b,o,mj',rfl,hA,hbs,g0,gx⟩:=H2.out.get j hlt
    obtain ⟨k0,k1,k2⟩:=At3.1 (g0.ext (Agree.below hb) (A:=fun _=>True) trivial)
    have hs1:b < wr.heap.size:=by omega
    have hq1:=sizeVs_get t.vs j hlt
    clear g0
    go_wp2_with (go_at_call 160;refine (checkV_any t.vs[j] A mj' _ (OVS.out.get j hlt) (by omega) (by exact RV_iff.1 (RV.ext (Agree.below Below.z) _ _ gx))).mono ?_;rintro e w4 ⟨rfl,hb4⟩)
    all_goals have hbb:Below w.heap.size w w4:=(hb.alloc (by omega) _).trans (hb4.mono (by simp;omega))
    ·have hne:checkV t.vs[j]≠0:=by simpa using ‹(checkV t.vs[j] != 0)=true›
     go_ret
     exact ⟨ret_int (by rw [←HF.out,firstVs_get _ j hlt HZ.out hne]),hbb⟩
    ·have hne:checkV t.vs[j]=0:=by simpa using ‹(checkV t.vs[j] != 0)=false›
     go_roundg (gk - 1)
     case measure=>omega
     case rel=>exact ⟨j+1,by omega,by go_num,fun q hq hj'=>(by
      by_cases hqj:q=j
      ·subst hqj;exact hne
      ·exact HZ.out q hq (by omega)),hbb,by have:=hb4.size;simp at this;omega⟩
   ·have hjl:j=t.vs.length:=by omega
    go_wp2_with fail
    go_ret
    exact ⟨ret_int (by rw [←HF.out,firstVs_zero _ fun q hq=>HZ.out q hq (by omega)]),hb⟩
def nodeT (t:GT):Int:=
 if t.k < 1∨11 < t.k then 11 else if valuesE t≠0 then valuesE t else if weightsE t≠0 then weightsE t else if endsE t≠0 then endsE t else argumentsE t
set_option maxRecDepth 100000 in
set_option maxHeartbeats 1000000 in
theorem nodeT_any (t:GT) (A:Nat→Prop) (m:TA) (w:World) (ox:okT t) (hs:sizeT t≤1099511627776) (hl:RT w A t m):
  Calls Tryz.prog 112 #[TV t m] w fun e w'=>e=.returned (.int .i64 (nodeT t))∧Below w.heap.size w w':=by
 obtain ⟨⟨x1,x2⟩,ov,⟨ovl,ovs⟩,⟨l1,l2⟩,⟨l3,l4⟩,⟨owl,ow⟩,op,oal,oa⟩:=okT_iff.1 ox
 obtain ⟨ma,mb,mc,md,me,mf,mg,mh,mi,mj,mk,ml⟩:=m
 have HL:=hid hl
 have OX:=hid ox
 clear ov oa op hl ow ovs ox
 by_cases hk:t.k < 1∨11 < t.k
 ·have hF:nodeT t=11:=by rw [nodeT,if_pos hk]
  rw [hF]
  clear hF
  rcases hk with hk|hk
  all_goals go_enter Tryz.func112,Tryz.ntmps112
  all_goals go_wp2_with fail
  all_goals go_ret
  all_goals exact ⟨rfl,Below.z⟩
 have hF:nodeT t=if valuesE t≠0 then valuesE t else if weightsE t≠0 then weightsE t else if endsE t≠0 then endsE t else argumentsE t:=by rw [nodeT,if_neg hk]
 rw [hF]
 clear hF
 generalize hF:(if valuesE t≠0 then valuesE t else if weightsE t≠0 then weightsE t else if endsE t≠0 then endsE t else argumentsE t)=F
 have HF:=hid hF
 clear hF
 have hk1:1≤t.k:=by omega
 have hk2:t.k≤11:=by omega
 clear hk
 go_enter Tryz.func112,Tryz.ntmps112
 go_wp2_with fail
 go_loopg [16] 4 (fun gk i wr=>∃j:Nat,gk+j=4∧i=.int .i64 j∧Hid ((0 < j→valuesE t=0)∧(1 < j→weightsE t=0)∧(2 < j→endsE t=0)∧(3 < j→argumentsE t=0))∧Below w.heap.size w wr∧w.heap.size+1 < wr.heap.size ∧
   Hid (∀o,wr.cell? ⟨w.heap.size,o,none⟩=(w.alloc (.cells #[.int .u8 t.k,.int .u8 t.v.k,.int .i64 t.v.n,.slice ma t.v.l.length mb,.slice mc t.vs.length md,.int .i64 t.lo,.int .i64 t.hi,.slice me t.w.length mf,.int .u8 t.p.k,.int .u8 t.p.v.k,.int .i64 t.p.v.n,.slice mg t.p.v.l.length mh,.int .i64 t.p.n,.slice mi t.p.a.length mj,.slice mk t.a.length ml] 31)).cell? ⟨w.heap.size,o,none⟩) ∧
   wr.cell? ⟨w.heap.size+1,0,none⟩=some (.func (.func 165) #[] #[])∧wr.cell? ⟨w.heap.size+1,1,none⟩=some (.func (.func 166) #[] #[])∧wr.cell? ⟨w.heap.size+1,2,none⟩=some (.func (.func 167) #[] #[])∧wr.cell? ⟨w.heap.size+1,3,none⟩=some (.func (.func 168) #[] #[]))
 case atStart=>exact ⟨0,by omega,rfl,⟨fun h=>absurd h (by omega),fun h=>absurd h (by omega),fun h=>absurd h (by omega),fun h=>absurd h (by omega)⟩,Below.z,by simp,fun o=>by go_simp,by go_simp,by go_simp,by go_simp,by go_simp⟩
 case round=>
  obtain ⟨j,hj,rfl,HZ,hb,hz,HC,c0,c1,c2,c3⟩:=hrel
  have b0:=(HC.out 0).trans (show _=some (Value.int .u8 t.k) by go_simp)
  have b1:=(HC.out 1).trans (show _=some (Value.int .u8 t.v.k) by go_simp)
  have b2:=(HC.out 2).trans (show _=some (Value.int .i64 t.v.n) by go_simp)
  have b3:=(HC.out 3).trans (show _=some (Value.slice ma t.v.l.length mb) by go_simp)
  have b4:=(HC.out 4).trans (show _=some (Value.slice mc t.vs.length md) by go_simp)
  have b5:=(HC.out 5).trans (show _=some (Value.int .i64 t.lo) by go_simp)
  have b6:=(HC.out 6).trans (show _=some (Value.int .i64 t.hi) by go_simp)
  have b7:=(HC.out 7).trans (show _=some (Value.slice me t.w.length mf) by go_simp)
  have b8:=(HC.out 8).trans (show _=some (Value.int .u8 t.p.k) by go_simp)
  have b9:=(HC.out 9).trans (show _=some (Value.int .u8 t.p.v.k) by go_simp)
  have b10:=(HC.out 10).trans (show _=some (Value.int .i64 t.p.v.n) by go_simp)
  have b11:=(HC.out 11).trans (show _=some (Value.slice mg t.p.v.l.length mh) by go_simp)
  have b12:=(HC.out 12).trans (show _=some (Value.int .i64 t.p.n) by go_simp)
  have b13:=(HC.out 13).trans (show _=some (Value.slice mi t.p.a.length mj) by go_simp)
  have b14:=(HC.out 14).trans (show _=some (Value.slice mk t.a.length ml) by go_simp)
  have hj4:j=0∨j=1∨j=2∨j=3∨j=4:=by omega
  rcases hj4 with rfl|rfl|rfl|rfl|rfl
  ·go_wp2_with (go_at_call 165;refine (values_any t A ⟨ma,mb,mc,md,me,mf,mg,mh,mi,mj,mk,ml⟩ _ OX.out hs (by exact RT.ext (Agree.below Below.z) _ _ HL.out)).mono ?_;rintro e w5 ⟨rfl,hb⟩;have hB5:=hb;clear hb;obtain ⟨hc5,hf5⟩:=bcells hB5)
   all_goals have hbb:Below w.heap.size w w5:=hb.trans (hB5.mono (by omega))
   ·have hne:valuesE t≠0:=by simpa using ‹(valuesE t != 0)=true›
    go_ret
    exact ⟨ret_int (by rw [←HF.out,if_pos hne]),hbb⟩
   ·have hne:valuesE t=0:=by simpa using ‹(valuesE t != 0)=false›
    go_roundg (gk - 1)
    case measure=>omega
    case rel=>exact ⟨0+1,by omega,by go_num,⟨fun _=>hne,fun h=>absurd h (by omega),fun h=>absurd h (by omega),fun h=>absurd h (by omega)⟩,hbb,by have:=hB5.size;omega,fun o=>(hc5 _ o (by omega)).trans (HC.out o),(hc5 _ 0 (by omega)).trans c0,(hc5 _ 1 (by omega)).trans c1,(hc5 _ 2 (by omega)).trans c2,(hc5 _ 3 (by omega)).trans c3⟩
  ·go_wp2_with (go_at_call 166;refine (weights_any t A ⟨ma,mb,mc,md,me,mf,mg,mh,mi,mj,mk,ml⟩ _ OX.out hs (by exact RT.ext (Agree.below Below.z) _ _ HL.out)).mono ?_;rintro e w5 ⟨rfl,hb⟩;have hB5:=hb;clear hb;obtain ⟨hc5,hf5⟩:=bcells hB5)
   all_goals have hbb:Below w.heap.size w w5:=hb.trans (hB5.mono (by omega))
   ·have hne:weightsE t≠0:=by simpa using ‹(weightsE t != 0)=true›
    go_ret
    exact ⟨ret_int (by rw [←HF.out,if_neg (by rw [HZ.out.1 (by omega)];simp),if_pos hne]),hbb⟩
   ·have hne:weightsE t=0:=by simpa using ‹(weightsE t != 0)=false›
    go_roundg (gk - 1)
    case measure=>omega
    case rel=>exact ⟨1+1,by omega,by go_num,⟨fun _=>HZ.out.1 (by omega),fun _=>hne,fun h=>absurd h (by omega),fun h=>absurd h (by omega)⟩,hbb,by have:=hB5.size;omega,fun o=>(hc5 _ o (by omega)).trans (HC.out o),(hc5 _ 0 (by omega)).trans c0,(hc5 _ 1 (by omega)).trans c1,(hc5 _ 2 (by omega)).trans c2,(hc5 _ 3 (by omega)).trans c3⟩
  ·go_wp2_with (go_at_call 167;refine (ends_any t ⟨ma,mb,mc,md,me,mf,mg,mh,mi,mj,mk,ml⟩ _ OX.out).mono ?_;rintro e w5 ⟨rfl,hb⟩;have hB5:=hb;clear hb;obtain ⟨hc5,hf5⟩:=bcells hB5)
   all_goals have hbb:Below w.heap.size w w5:=hb.trans (hB5.mono (by omega))
   ·have hne:endsE t≠0:=by simpa using ‹(endsE t != 0)=true›
    go_ret
    exact ⟨ret_int (by rw [←HF.out,if_neg (by rw [HZ.out.1 (by omega)];simp),if_neg (by rw [HZ.out.2.1 (by omega)];simp),if_pos hne]),hbb⟩
   ·have hne:endsE t=0:=by simpa using ‹(endsE t != 0)=false›
    go_roundg (gk - 1)
    case measure=>omega
    case rel=>exact ⟨2+1,by omega,by go_num,⟨fun _=>HZ.out.1 (by omega),fun _=>HZ.out.2.1 (by omega),fun _=>hne,fun h=>absurd h (by omega)⟩,hbb,by have:=hB5.size;omega,fun o=>(hc5 _ o (by omega)).trans (HC.out o),(hc5 _ 0 (by omega)).trans c0,(hc5 _ 1 (by omega)).trans c1,(hc5 _ 2 (by omega)).trans c2,(hc5 _ 3 (by omega)).trans c3⟩
  ·go_wp2_with (go_at_call 168;refine (arguments_any t ⟨ma,mb,mc,md,me,mf,mg,mh,mi,mj,mk,ml⟩ _ OX.out).mono ?_;rintro e w5 ⟨rfl,hb⟩;have hB5:=hb;clear hb;obtain ⟨hc5,hf5⟩:=bcells hB5)
   all_goals have hbb:Below w.heap.size w w5:=hb.trans (hB5.mono (by omega))
   ·have hne:argumentsE t≠0:=by simpa using ‹(argumentsE t != 0)=true›
    go_ret
    exact ⟨ret_int (by rw [←HF.out,if_neg (by rw [HZ.out.1 (by omega)];simp),if_neg (by rw [HZ.out.2.1 (by omega)];simp),if_neg (by rw [HZ.out.2.2.1 (by omega)];simp)]),hbb⟩
   ·have hne:argumentsE t=0:=by simpa using ‹(argumentsE t != 0)=false›
    go_roundg (gk - 1)
    case measure=>omega
    case rel=>exact ⟨3+1,by omega,by go_num,⟨fun _=>HZ.out.1 (by omega),fun _=>HZ.out.2.1 (by omega),fun _=>HZ.out.2.2.1 (by omega),fun _=>hne⟩,hbb,by have:=hB5.size;omega,fun o=>(hc5 _ o (by omega)).trans (HC.out o),(hc5 _ 0 (by omega)).trans c0,(hc5 _ 1 (by omega)).trans c1,(hc5 _ 2 (by omega)).trans c2,(hc5 _ 3 (by omega)).trans c3⟩
  ·go_wp2_with fail
   go_ret
   exact ⟨ret_int (by rw [←HF.out,if_neg (by rw [HZ.out.1 (by omega)];simp),if_neg (by rw [HZ.out.2.1 (by omega)];simp),if_neg (by rw [HZ.out.2.2.1 (by omega)];simp),HZ.out.2.2.2 (by omega)]),hb⟩
def stepB (k:Int) (j:Nat):Bool:=k==10&&j==1
mutual
def chkT (pl d mo:Int) (inn:Bool):GT→Int×Int
 | ⟨k,v,vs,lo,hi,ws,p,l⟩=>if mo < d then (pl,9) else if nodeT ⟨k,v,vs,lo,hi,ws,p,l⟩≠0 then (pl,nodeT ⟨k,v,vs,lo,hi,ws,p,l⟩) else if k=11∧inn=false then (pl,10) else chkTs (pl+1) (d+1) mo inn k 0 l
def chkTs (pl d mo:Int) (inn:Bool) (k:Int) (i:Nat):List GT→Int×Int
 | []=>(pl,0)
 | x::l=>if (chkT pl d mo (inn||stepB k i) x).2≠0 then chkT pl d mo (inn||stepB k i) x else chkTs (chkT pl d mo (inn||stepB k i) x).1 d mo inn k (i+1) l
end
theorem chkT_eq (pl d mo:Int) (inn:Bool) (t:GT):chkT pl d mo inn t=if mo < d then (pl,9) else if nodeT t≠0 then (pl,nodeT t) else if t.k=11∧inn=false then (pl,10) else chkTs (pl+1) (d+1) mo inn t.k 0 t.a:=by cases t;simp only [chkT]
theorem chkTs_append (d mo:Int) (inn:Bool) (k:Int):∀(a b:List GT) (pl:Int) (i:Nat),chkTs pl d mo inn k i (a++b)=if (chkTs pl d mo inn k i a).2≠0 then chkTs pl d mo inn k i a else chkTs (chkTs pl d mo inn k i a).1 d mo inn k (i+a.length) b
 | [],b,pl,i=>by simp [chkTs]
 | x::a,b,pl,i=>by
  simp only [List.cons_append,chkTs,List.length_cons]
  split
  ·rename_i h;simp [h]
  ·rename_i h;rw [chkTs_append d mo inn k a b _ (i+1),show i+1+a.length=i+(a.length+1) by omega]
mutual
theorem chkT_place (mo:Int):∀(t:GT) (pl d:Int) (inn:Bool),pl≤(chkT pl d mo inn t).1∧(chkT pl d mo inn t).1≤pl+sizeT t
 | ⟨k,v,vs,lo,hi,ws,p,l⟩,pl,d,inn=>by
  have:=chkTs_place mo l (pl+1) (d+1) inn k 0
  simp only [chkT,sizeT]
  split
  ·simp;omega
  ·split
   ·simp;omega
   ·split
    ·simp;omega
    ·omega
theorem chkTs_place (mo:Int):∀(l:List GT) (pl d:Int) (inn:Bool) (k:Int) (i:Nat),pl≤(chkTs pl d mo inn k i l).1∧(chkTs pl d mo inn k i l).1≤pl+sizeTs l
 | [],pl,d,inn,k,i=>by simp [chkTs,sizeTs]
 | x::l,pl,d,inn,k,i=>by
  have h1:=chkT_place mo x pl d (inn||stepB k i)
  have h2:=chkTs_place mo l (chkT pl d mo (inn||stepB k i) x).1 d inn k (i+1)
  simp only [chkTs,sizeTs]
  split<;>omega
end
theorem chkTs_take (pl d mo:Int) (inn:Bool) (k:Int) (l:List GT) (j:Nat) (h:j < l.length) (h0:(chkTs pl d mo inn k 0 (l.take j)).2=0):
  chkTs pl d mo inn k 0 (l.take (j+1))=chkT (chkTs pl d mo inn k 0 (l.take j)).1 d mo (inn||stepB k j) l[j]:=by
 rw [List.take_succ_eq_append_getElem h,chkTs_append,if_neg (by simp [h0])]
 simp only [chkTs,List.length_take]
 rw [show 0+min j l.length=j by omega]
 split
 ·rfl
 ·rename_i h;ext<;>simp_all
theorem chkTs_stop (pl d mo:Int) (inn:Bool) (k:Int) (l:List GT) (j:Nat) (h0:(chkTs pl d mo inn k 0 (l.take j)).2≠0):chkTs pl d mo inn k 0 l=chkTs pl d mo inn k 0 (l.take j):=by
 conv=>lhs;rw [←List.take_append_drop j l]
 rw [chkTs_append,if_pos h0]
theorem sizeTs_take:∀(l:List GT) (j:Nat),sizeTs (l.take j)≤sizeTs l
 | [],j=>by simp
 | x::l,0=>by simp [sizeTs]
 | x::l,j+1=>by have:=sizeTs_take l j;simp only [List.take_succ_cons,sizeTs];omega
theorem sizeTs_take_succ:∀(l:List GT) (j:Nat) (h:j < l.length),sizeTs (l.take (j+1))=sizeTs (l.take j)+sizeT l[j]
 | x::l,0,_=>by simp [sizeTs]
 | x::l,j+1,h=>by have:=sizeTs_take_succ l j (by simpa using h);simp only [List.take_succ_cons,sizeTs,List.getElem_cons_succ] at this ⊢;omega
def CheckIH (N:Nat) (mo:Int):Prop:=∀(t:GT) (w:World) (A:Nat→Prop) (m:TA) (pl d:Int) (inn:Bool),sizeT t≤N→okT t→0≤pl→pl+sizeT t≤1099511627776→0≤d→d+sizeT t≤2199023255552→RT w A t m →
  Calls Tryz.prog 77 #[TV t m,.int .i64 pl,.int .i64 d,.int .i64 mo,.bool inn] w fun e w'=>e=.returned (.tuple #[.int .i64 (chkT pl d mo inn t).1,.int .i64 (chkT pl d mo inn t).2])∧Below w.heap.size w w'
set_option maxRecDepth 100000 in
set_option maxHeartbeats 2000000 in
theorem checkT_loopF (N:Nat) (mo:Int) (hmo0:0≤mo) (hmo1:mo≤4611686018427387904) (ih:CheckIH N mo) (t:GT) (w:World) (A:Nat→Prop) (m:TA) (pl d:Int) (hN:sizeT t≤N+1) (ox:okT t) (hp0:0≤pl) (hp1:pl+sizeT t≤1099511627776)
  (hd0:0≤d) (hd1:d+sizeT t≤2199023255552) (hl:RT w A t m) (hd:¬mo < d) (hn:nodeT t=0) (h11':(t.k==11)=false):
  Calls Tryz.prog 77 #[TV t m,.int .i64 pl,.int .i64 d,.int .i64 mo,.bool false] w fun e w'=>e=.returned (.tuple #[.int .i64 (chkTs (pl+1) (d+1) mo false t.k 0 t.a).1,.int .i64 (chkTs (pl+1) (d+1) mo false t.k 0 t.a).2])∧Below w.heap.size w w':=by
 obtain ⟨ma,mb,mc,md,me,mf,mg,mh,mi,mj,mk,ml⟩:=m
 have IH:=hid ih
 have HL:=hid (RT_iff.1 hl).2.2.2.2
 have HT:=hid hl
 have OX:=hid ox
 obtain ⟨⟨x1,x2⟩,ov,⟨ovl,ovs⟩,⟨l1,l2⟩,⟨l3,l4⟩,⟨owl,ow⟩,op,oal,oa⟩:=okT_iff.1 ox
 have O:=hid oa
 have hse:=sizeT_eq t
 have hsv:=sizeV_pos t.v
 have hsp:=sizeP_pos t.p
 clear ih hl ox oa ov ovs ow op
 have hsz:sizeT t≤1099511627776:=by omega
 have HN:=hid hn
 have hn':(nodeT t != 0)=false:=by simp [hn]
 have hn2:(nodeT t==0)=true:=by simp [hn]
 clear hn
 generalize hF:chkTs (pl+1) (d+1) mo false t.k 0 t.a=F
 have HF:=hid hF
 clear hF
 go_enter Tryz.func77,Tryz.ntmps77
 go_wp2_with (go_at_call 112;refine (nodeT_any t A ⟨ma,mb,mc,md,me,mf,mg,mh,mi,mj,mk,ml⟩ _ OX.out hsz (by exact RT.ext (Agree.below Below.z) _ _ HT.out)).mono ?_;rintro e w1 ⟨rfl,hb⟩;have hB1:=hb;clear hb;obtain ⟨hc1,hf1⟩:=bcells hB1)
 go_loopg [1,12,42] (t.a.length) (fun gk t1 t12 i wr=>∃j:Nat,gk+j=t.a.length∧i=.int .i64 j∧t1=.int .i64 (chkTs (pl+1) (d+1) mo false t.k 0 (t.a.take j)).1∧t12=.int .i64 0∧Hid ((chkTs (pl+1) (d+1) mo false t.k 0 (t.a.take j)).2=0)∧Below w.heap.size w wr∧w.heap.size < wr.heap.size∧wr.cell? ⟨w.heap.size,0,none⟩=some (.int .u8 t.k))
 case atStart=>exact ⟨0,by omega,rfl,by simp [chkTs],by rw [HN.out],by simp [chkTs,Hid],Below.z,by have:=hB1.size;simp at this;omega,by go_simp⟩
 case round=>
  obtain ⟨j,hj,rfl,rfl,rfl,HZ,hb,hz,hbx⟩:=hrel
  by_cases hlt:j < t.a.length
  ·obtain ⟨b,o,mj',rfl,hA,hbs,g0,gx⟩:=HL.out.get j hlt
   obtain ⟨k0,k1,k2,k3,k4,k5,k6,k7,k8,k9,ka,kb,kc,kd,ke⟩:=At15.1 (g0.ext (Agree.below hb) (A:=fun _=>True) trivial)
   have hs1:b < wr.heap.size:=by omega
   have hq:=chkTs_place mo (t.a.take j) (pl+1) (d+1) false t.k 0
   have hq1:=sizeTs_take t.a j
   have hq2:=sizeTs_take_succ t.a j hlt
   have hq3:=sizeTs_take t.a (j+1)
   have hst:=chkTs_take (pl+1) (d+1) mo false t.k t.a j hlt HZ.out
   clear g0
   generalize hQ:(chkTs (pl+1) (d+1) mo false t.k 0 (t.a.take j)).1=Q at *
   have HQ:=hid hQ
   clear hQ
   cases hk10:(t.k==10)
   ·have hstb:(false||stepB t.k j)=false:=by simp [stepB,hk10]
    rw [hstb] at hst
    have HST:=hid hst
    clear hst hstb
    go_wp2_with (go_at_call 77;refine (IH.out t.a[j] _ A mj' Q (d+1) false (by omega) (O.out.get j hlt) (by omega) (by omega) (by omega) (by omega) (by exact RT.ext (Agree.below Below.z) _ _ gx)).mono ?_;rintro e w2 ⟨rfl,hb2⟩)
    all_goals have hbb:Below w.heap.size w w2:=(hb.alloc (by omega) _).trans (hb2.mono (by simp;omega))
    ·have hne:(chkT Q (d+1) mo false t.a[j]).2≠0:=by simpa using ‹((chkT Q (d+1) mo false t.a[j]).2 != 0)=true›
     go_ret2
     have h1:chkT Q (d+1) mo false t.a[j]=F:=by rw [←HF.out,←HST.out];exact (chkTs_stop _ _ _ _ _ _ _ (by rw [HST.out];exact hne)).symm
     exact ⟨ret_ii (congrArg Prod.fst h1) (congrArg Prod.snd h1),hbb⟩
    ·have hne:(chkT Q (d+1) mo false t.a[j]).2=0:=by simpa using ‹((chkT Q (d+1) mo false t.a[j]).2 != 0)=false›
     go_roundg (gk - 1)
     case measure=>omega
     case rel=>exact ⟨j+1,by omega,by go_num,by rw [HST.out],by rw [hne],by rw [HST.out];exact hne,hbb,by have:=hb2.size;simp at this;omega,(hb2.cell (by simp;omega)).trans (by go_simp)⟩
   ·by_cases hj1:j=1
    ·have hj1':((j:Int)==1)=true:=by rw [hj1];rfl
     have hstb:(false||stepB t.k j)=true:=by simp [stepB,hk10,hj1]
     rw [hstb] at hst
     have HST:=hid hst
     have HJ1:=hid hj1
     clear hst hstb hj1
     go_wp2_with (go_at_call 77;refine (IH.out t.a[j] _ A mj' Q (d+1) true (by omega) (O.out.get j hlt) (by omega) (by omega) (by omega) (by omega) (by exact RT.ext (Agree.below Below.z) _ _ gx)).mono ?_;rintro e w2 ⟨rfl,hb2⟩)
     all_goals have hbb:Below w.heap.size w w2:=(hb.alloc (by omega) _).trans (hb2.mono (by simp;omega))
     ·have hne:(chkT Q (d+1) mo true t.a[j]).2≠0:=by simpa using ‹((chkT Q (d+1) mo true t.a[j]).2 != 0)=true›
      go_ret2
      have h1:chkT Q (d+1) mo true t.a[j]=F:=by rw [←HF.out,←HST.out];exact (chkTs_stop _ _ _ _ _ _ _ (by rw [HST.out];exact hne)).symm
      exact ⟨ret_ii (congrArg Prod.fst h1) (congrArg Prod.snd h1),hbb⟩
     ·have hne:(chkT Q (d+1) mo true t.a[j]).2=0:=by simpa using ‹((chkT Q (d+1) mo true t.a[j]).2 != 0)=false›
      go_roundg (gk - 1)
      case measure=>omega
      case rel=>exact ⟨j+1,by omega,by go_num,by rw [HST.out],by rw [hne],by rw [HST.out];exact hne,hbb,by have:=hb2.size;simp at this;omega,(hb2.cell (by simp;omega)).trans (by go_simp)⟩
    ·have hj1':((j:Int)==1)=false:=beq_eq_false_iff_ne.2 (by omega)
     have hstb:(false||stepB t.k j)=false:=by simp [stepB,hk10,hj1]
     rw [hstb] at hst
     have HST:=hid hst
     have HJ1:=hid hj1
     clear hst hstb hj1
     go_wp2_with (go_at_call 77;refine (IH.out t.a[j] _ A mj' Q (d+1) false (by omega) (O.out.get j hlt) (by omega) (by omega) (by omega) (by omega) (by exact RT.ext (Agree.below Below.z) _ _ gx)).mono ?_;rintro e w2 ⟨rfl,hb2⟩)
     all_goals have hbb:Below w.heap.size w w2:=(hb.alloc (by omega) _).trans (hb2.mono (by simp;omega))
     ·have hne:(chkT Q (d+1) mo false t.a[j]).2≠0:=by simpa using ‹((chkT Q (d+1) mo false t.a[j]).2 != 0)=true›
      go_ret2
      have h1:chkT Q (d+1) mo false t.a[j]=F:=by rw [←HF.out,←HST.out];exact (chkTs_stop _ _ _ _ _ _ _ (by rw [HST.out];exact hne)).symm
      exact ⟨ret_ii (congrArg Prod.fst h1) (congrArg Prod.snd h1),hbb⟩
     ·have hne:(chkT Q (d+1) mo false t.a[j]).2=0:=by simpa using ‹((chkT Q (d+1) mo false t.a[j]).2 != 0)=false›
      go_roundg (gk - 1)
      case measure=>omega
      case rel=>exact ⟨j+1,by omega,by go_num,by rw [HST.out],by rw [hne],by rw [HST.out];exact hne,hbb,by have:=hb2.size;simp at this;omega,(hb2.cell (by simp;omega)).trans (by go_simp)⟩
  ·have hjl:j=t.a.length:=by omega
   go_wp2_with fail
   go_ret2
   have h1:chkTs (pl+1) (d+1) mo false t.k 0 (t.a.take j)=F:=by rw [hjl,List.take_length];exact HF.out
   exact ⟨ret_ii (by rw [h1]) (by rw [←h1,HZ.out]),hb⟩
set_option maxRecDepth 100000 in
set_option maxHeartbeats 2000000 in
theorem checkT_loopT (N:Nat) (mo:Int) (hmo0:0≤mo) (hmo1:mo≤4611686018427387904) (ih:CheckIH N mo) (t:GT) (w:World) (A:Nat→Prop) (m:TA) (pl d:Int) (hN:sizeT t≤N+1) (ox:okT t) (hp0:0≤pl) (hp1:pl+sizeT t≤1099511627776)
  (hd0:0≤d) (hd1:d+sizeT t≤2199023255552) (hl:RT w A t m) (hd:¬mo < d) (hn:nodeT t=0) (b:Bool) (h11':(t.k==11)=b):
  Calls Tryz.prog 77 #[TV t m,.int .i64 pl,.int .i64 d,.int .i64 mo,.bool true] w fun e w'=>e=.returned (.tuple #[.int .i64 (chkTs (pl+1) (d+1) mo true t.k 0 t.a).1,.int .i64 (chkTs (pl+1) (d+1) mo true t.k 0 t.a).2])∧Below w.heap.size w w':=by
 obtain ⟨ma,mb,mc,md,me,mf,mg,mh,mi,mj,mk,ml⟩:=m
 have IH:=hid ih
 have HL:=hid (RT_iff.1 hl).2.2.2.2
 have HT:=hid hl
 have OX:=hid ox
 obtain ⟨⟨x1,x2⟩,ov,⟨ovl,ovs⟩,⟨l1,l2⟩,⟨l3,l4⟩,⟨owl,ow⟩,op,oal,oa⟩:=okT_iff.1 ox
 have O:=hid oa
 have hse:=sizeT_eq t
 have hsv:=sizeV_pos t.v
 have hsp:=sizeP_pos t.p
 clear ih hl ox oa ov ovs ow op
 have hsz:sizeT t≤1099511627776:=by omega
 have HN:=hid hn
 have hn':(nodeT t != 0)=false:=by simp [hn]
 have hn2:(nodeT t==0)=true:=by simp [hn]
 clear hn
 generalize hF:chkTs (pl+1) (d+1) mo true t.k 0 t.a=F
 have HF:=hid hF
 clear hF
 cases b
 ·go_enter Tryz.func77,Tryz.ntmps77
  go_wp2_with (go_at_call 112;refine (nodeT_any t A ⟨ma,mb,mc,md,me,mf,mg,mh,mi,mj,mk,ml⟩ _ OX.out hsz (by exact RT.ext (Agree.below Below.z) _ _ HT.out)).mono ?_;rintro e w1 ⟨rfl,hb⟩;have hB1:=hb;clear hb;obtain ⟨hc1,hf1⟩:=bcells hB1)
  go_loopg [1,12,42] (t.a.length) (fun gk t1 t12 i wr=>∃j:Nat,gk+j=t.a.length∧i=.int .i64 j∧t1=.int .i64 (chkTs (pl+1) (d+1) mo true t.k 0 (t.a.take j)).1∧t12=.int .i64 0∧Hid ((chkTs (pl+1) (d+1) mo true t.k 0 (t.a.take j)).2=0)∧Below w.heap.size w wr∧w.heap.size < wr.heap.size∧wr.cell? ⟨w.heap.size,0,none⟩=some (.int .u8 t.k))
  case atStart=>exact ⟨0,by omega,rfl,by simp [chkTs],by rw [HN.out],by simp [chkTs,Hid],Below.z,by have:=hB1.size;simp at this;omega,by go_simp⟩
  case round=>
   obtain ⟨j,hj,rfl,rfl,rfl,HZ,hb,hz,hbx⟩:=hrel
   by_cases hlt:j < t.a.length
   ·obtain ⟨b,o,mj',rfl,hA,hbs,g0,gx⟩:=HL.out.get j hlt
    obtain ⟨k0,k1,k2,k3,k4,k5,k6,k7,k8,k9,ka,kb,kc,kd,ke⟩:=At15.1 (g0.ext (Agree.below hb) (A:=fun _=>True) trivial)
    have hs1:b < wr.heap.size:=by omega
    have hq:=chkTs_place mo (t.a.take j) (pl+1) (d+1) true t.k 0
    have hq1:=sizeTs_take t.a j
    have hq2:=sizeTs_take_succ t.a j hlt
    have hq3:=sizeTs_take t.a (j+1)
    have hst:=chkTs_take (pl+1) (d+1) mo true t.k t.a j hlt HZ.out
    clear g0
    generalize hQ:(chkTs (pl+1) (d+1) mo true t.k 0 (t.a.take j)).1=Q at *
    have HQ:=hid hQ
    clear hQ
    have hstb:(true||stepB t.k j)=true:=rfl
    rw [hstb] at hst
    have HST:=hid hst
    clear hst hstb
    cases hk10:(t.k==10)
    ·go_wp2_with (go_at_call 77;refine (IH.out t.a[j] _ A mj' Q (d+1) true (by omega) (O.out.get j hlt) (by omega) (by omega) (by omega) (by omega) (by exact RT.ext (Agree.below Below.z) _ _ gx)).mono ?_;rintro e w2 ⟨rfl,hb2⟩)
     all_goals have hbb:Below w.heap.size w w2:=(hb.alloc (by omega) _).trans (hb2.mono (by simp;omega))
     ·have hne:(chkT Q (d+1) mo true t.a[j]).2≠0:=by simpa using ‹((chkT Q (d+1) mo true t.a[j]).2 != 0)=true›
      go_ret2
      have h1:chkT Q (d+1) mo true t.a[j]=F:=by rw [←HF.out,←HST.out];exact (chkTs_stop _ _ _ _ _ _ _ (by rw [HST.out];exact hne)).symm
      exact ⟨ret_ii (congrArg Prod.fst h1) (congrArg Prod.snd h1),hbb⟩
     ·have hne:(chkT Q (d+1) mo true t.a[j]).2=0:=by simpa using ‹((chkT Q (d+1) mo true t.a[j]).2 != 0)=false›
      go_roundg (gk - 1)
      case measure=>omega
      case rel=>exact ⟨j+1,by omega,by go_num,by rw [HST.out],by rw [hne],by rw [HST.out];exact hne,hbb,by have:=hb2.size;simp at this;omega,(hb2.cell (by simp;omega)).trans (by go_simp)⟩
    ·by_cases hj1:j=1
     ·have hj1':((j:Int)==1)=true:=by rw [hj1];rfl
      have HJ1:=hid hj1
      clear hj1
      go_wp2_with (go_at_call 77;refine (IH.out t.a[j] _ A mj' Q (d+1) true (by omega) (O.out.get j hlt) (by omega) (by omega) (by omega) (by omega) (by exact RT.ext (Agree.below Below.z) _ _ gx)).mono ?_;rintro e w2 ⟨rfl,hb2⟩)
      all_goals have hbb:Below w.heap.size w w2:=(hb.alloc (by omega) _).trans (hb2.mono (by simp;omega))
      ·have hne:(chkT Q (d+1) mo true t.a[j]).2≠0:=by simpa using ‹((chkT Q (d+1) mo true t.a[j]).2 != 0)=true›
       go_ret2
       have h1:chkT Q (d+1) mo true t.a[j]=F:=by rw [←HF.out,←HST.out];exact (chkTs_stop _ _ _ _ _ _ _ (by rw [HST.out];exact hne)).symm
       exact ⟨ret_ii (congrArg Prod.fst h1) (congrArg Prod.snd h1),hbb⟩
      ·have hne:(chkT Q (d+1) mo true t.a[j]).2=0:=by simpa using ‹((chkT Q (d+1) mo true t.a[j]).2 != 0)=false›
       go_roundg (gk - 1)
       case measure=>omega
       case rel=>exact ⟨j+1,by omega,by go_num,by rw [HST.out],by rw [hne],by rw [HST.out];exact hne,hbb,by have:=hb2.size;simp at this;omega,(hb2.cell (by simp;omega)).trans (by go_simp)⟩
     ·have hj1':((j:Int)==1)=false:=beq_eq_false_iff_ne.2 (by omega)
      have HJ1:=hid hj1
      clear hj1
      go_wp2_with (go_at_call 77;refine (IH.out t.a[j] _ A mj' Q (d+1) true (by omega) (O.out.get j hlt) (by omega) (by omega) (by omega) (by omega) (by exact RT.ext (Agree.below Below.z) _ _ gx)).mono ?_;rintro e w2 ⟨rfl,hb2⟩)
      all_goals have hbb:Below w.heap.size w w2:=(hb.alloc (by omega) _).trans (hb2.mono (by simp;omega))
      ·have hne:(chkT Q (d+1) mo true t.a[j]).2≠0:=by simpa using ‹((chkT Q (d+1) mo true t.a[j]).2 != 0)=true›
       go_ret2
       have h1:chkT Q (d+1) mo true t.a[j]=F:=by rw [←HF.out,←HST.out];exact (chkTs_stop _ _ _ _ _ _ _ (by rw [HST.out];exact hne)).symm
       exact ⟨ret_ii (congrArg Prod.fst h1) (congrArg Prod.snd h1),hbb⟩
      ·have hne:(chkT Q (d+1) mo true t.a[j]).2=0:=by simpa using ‹((chkT Q (d+1) mo true t.a[j]).2 != 0)=false›
       go_roundg (gk - 1)
       case measure=>omega
       case rel=>exact ⟨j+1,by omega,by go_num,by rw [HST.out],by rw [hne],by rw [HST.out];exact hne,hbb,by have:=hb2.size;simp at this;omega,(hb2.cell (by simp;omega)).trans (by go_simp)⟩
   ·have hjl:j=t.a.length:=by omega
    go_wp2_with fail
    go_ret2
    have h1:chkTs (pl+1) (d+1) mo true t.k 0 (t.a.take j)=F:=by rw [hjl,List.take_length];exact HF.out
    exact ⟨ret_ii (by rw [h1]) (by rw [←h1,HZ.out]),hb⟩
 ·go_enter Tryz.func77,Tryz.ntmps77
  go_wp2_with (go_at_call 112;refine (nodeT_any t A ⟨ma,mb,mc,md,me,mf,mg,mh,mi,mj,mk,ml⟩ _ OX.out hsz (by exact RT.ext (Agree.below Below.z) _ _ HT.out)).mono ?_;rintro e w1 ⟨rfl,hb⟩;have hB1:=hb;clear hb;obtain ⟨hc1,hf1⟩:=bcells hB1)
  go_loopg [1,12,42] (t.a.length) (fun gk t1 t12 i wr=>∃j:Nat,gk+j=t.a.length∧i=.int .i64 j∧t1=.int .i64 (chkTs (pl+1) (d+1) mo true t.k 0 (t.a.take j)).1∧t12=.int .i64 0∧Hid ((chkTs (pl+1) (d+1) mo true t.k 0 (t.a.take j)).2=0)∧Below w.heap.size w wr∧w.heap.size < wr.heap.size∧wr.cell? ⟨w.heap.size,0,none⟩=some (.int .u8 t.k))
  case atStart=>exact ⟨0,by omega,rfl,by simp [chkTs],by rw [HN.out],by simp [chkTs,Hid],Below.z,by have:=hB1.size;simp at this;omega,by go_simp⟩
  case round=>
   obtain ⟨j,hj,rfl,rfl,rfl,HZ,hb,hz,hbx⟩:=hrel
   by_cases hlt:j < t.a.length
   ·obtain ⟨b,o,mj',rfl,hA,hbs,g0,gx⟩:=HL.out.get j hlt
    obtain ⟨k0,k1,k2,k3,k4,k5,k6,k7,k8,k9,ka,kb,kc,kd,ke⟩:=At15.1 (g0.ext (Agree.below hb) (A:=fun _=>True) trivial)
    have hs1:b < wr.heap.size:=by omega
    have hq:=chkTs_place mo (t.a.take j) (pl+1) (d+1) true t.k 0
    have hq1:=sizeTs_take t.a j
    have hq2:=sizeTs_take_succ t.a j hlt
    have hq3:=sizeTs_take t.a (j+1)
    have hst:=chkTs_take (pl+1) (d+1) mo true t.k t.a j hlt HZ.out
    clear g0
    generalize hQ:(chkTs (pl+1) (d+1) mo true t.k 0 (t.a.take j)).1=Q at *
    have HQ:=hid hQ
    clear hQ
    have hstb:(true||stepB t.k j)=true:=rfl
    rw [hstb] at hst
    have HST:=hid hst
    clear hst hstb
    have hk10:(t.k==10)=false:=by have h:=beq_iff_eq.1 h11';rw [h];rfl
    go_wp2_with (go_at_call 77;refine (IH.out t.a[j] _ A mj' Q (d+1) true (by omega) (O.out.get j hlt) (by omega) (by omega) (by omega) (by omega) (by exact RT.ext (Agree.below Below.z) _ _ gx)).mono ?_;rintro e w2 ⟨rfl,hb2⟩)
    all_goals have hbb:Below w.heap.size w w2:=(hb.alloc (by omega) _).trans (hb2.mono (by simp;omega))
    ·have hne:(chkT Q (d+1) mo true t.a[j]).2≠0:=by simpa using ‹((chkT Q (d+1) mo true t.a[j]).2 != 0)=true›
     go_ret2
     have h1:chkT Q (d+1) mo true t.a[j]=F:=by rw [←HF.out,←HST.out];exact (chkTs_stop _ _ _ _ _ _ _ (by rw [HST.out];exact hne)).symm
     exact ⟨ret_ii (congrArg Prod.fst h1) (congrArg Prod.snd h1),hbb⟩
    ·have hne:(chkT Q (d+1) mo true t.a[j]).2=0:=by simpa using ‹((chkT Q (d+1) mo true t.a[j]).2 != 0)=false›
     go_roundg (gk - 1)
     case measure=>omega
     case rel=>exact ⟨j+1,by omega,by go_num,by rw [HST.out],by rw [hne],by rw [HST.out];exact hne,hbb,by have:=hb2.size;simp at this;omega,(hb2.cell (by simp;omega)).trans (by go_simp)⟩
   ·have hjl:j=t.a.length:=by omega
    go_wp2_with fail
    go_ret2
    have h1:chkTs (pl+1) (d+1) mo true t.k 0 (t.a.take j)=F:=by rw [hjl,List.take_length];exact HF.out
    exact ⟨ret_ii (by rw [h1]) (by rw [←h1,HZ.out]),hb⟩
set_option maxRecDepth 100000 in
set_option maxHeartbeats 2000000 in
theorem checkT_any (N:Nat) (mo:Int) (hmo:0≤mo∧mo≤4611686018427387904):∀(t:GT) (w:World) (A:Nat→Prop) (m:TA) (pl d:Int) (inn:Bool),sizeT t≤N→okT t→0≤pl→pl+sizeT t≤1099511627776→0≤d→d+sizeT t≤2199023255552→RT w A t m →
  Calls Tryz.prog 77 #[TV t m,.int .i64 pl,.int .i64 d,.int .i64 mo,.bool inn] w fun e w'=>e=.returned (.tuple #[.int .i64 (chkT pl d mo inn t).1,.int .i64 (chkT pl d mo inn t).2])∧Below w.heap.size w w':=by
 obtain ⟨hmo0,hmo1⟩:=hmo
 induction N with
 | zero=>intro t;have:=sizeT_pos t;intros;omega
 | succ N ih=>
  rintro t w A ⟨ma,mb,mc,md,me,mf,mg,mh,mi,mj,mk,ml⟩ pl d inn hN ox hp0 hp1 hd0 hd1 hl
  have IH:=hid ih
  have HL:=hid (RT_iff.1 hl).2.2.2.2
  have HT:=hid hl
  have OX:=hid ox
  obtain ⟨⟨x1,x2⟩,ov,⟨ovl,ovs⟩,⟨l1,l2⟩,⟨l3,l4⟩,⟨owl,ow⟩,op,oal,oa⟩:=okT_iff.1 ox
  have O:=hid oa
  have hse:=sizeT_eq t
  have hsv:=sizeV_pos t.v
  have hsp:=sizeP_pos t.p
  clear ih hl ox oa ov ovs ow op
  rw [chkT_eq]
  by_cases hd:mo < d
  ·rw [if_pos hd]
   go_enter Tryz.func77,Tryz.ntmps77
   go_wp2_with fail
   go_ret2
   exact ⟨rfl,Below.z⟩
  rw [if_neg hd]
  have hsz:sizeT t≤1099511627776:=by omega
  by_cases hn:nodeT t=0
  case neg=>
   rw [if_pos hn]
   have hn':(nodeT t != 0)=true:=by simp [hn]
   have hn2:(nodeT t==0)=false:=by simp [hn]
   clear hn
   go_enter Tryz.func77,Tryz.ntmps77
   go_wp2_with (go_at_call 112;refine (nodeT_any t A ⟨ma,mb,mc,md,me,mf,mg,mh,mi,mj,mk,ml⟩ _ OX.out hsz (by exact RT.ext (Agree.below Below.z) _ _ HT.out)).mono ?_;rintro e w1 ⟨rfl,hb⟩;have hB1:=hb;clear hb;obtain ⟨hc1,hf1⟩:=bcells hB1)
   go_ret2
   exact ⟨rfl,Below.z⟩
  rw [if_neg (by simp [hn])]
  have HN:=hid hn
  have hn':(nodeT t != 0)=false:=by simp [hn]
  have hn2:(nodeT t==0)=true:=by simp [hn]
  clear hn
  by_cases h11:t.k=11∧inn=false
  ·rw [if_pos h11]
   obtain ⟨h11,rfl⟩:=h11
   have h11':(t.k==11)=true:=by simp [h11]
   clear h11
   go_enter Tryz.func77,Tryz.ntmps77
   go_wp2_with (go_at_call 112;refine (nodeT_any t A ⟨ma,mb,mc,md,me,mf,mg,mh,mi,mj,mk,ml⟩ _ OX.out hsz (by exact RT.ext (Agree.below Below.z) _ _ HT.out)).mono ?_;rintro e w1 ⟨rfl,hb⟩;have hB1:=hb;clear hb;obtain ⟨hc1,hf1⟩:=bcells hB1)
   go_ret2
   exact ⟨rfl,Below.z⟩
  rw [if_neg h11]
  cases inn
  ·have h11':(t.k==11)=false:=by
    cases h:(t.k==11)
    ·rfl
    ·exact absurd ⟨by simpa using h,rfl⟩ h11
   exact checkT_loopF N mo hmo0 hmo1 IH.out t w A ⟨ma,mb,mc,md,me,mf,mg,mh,mi,mj,mk,ml⟩ pl d hN OX.out hp0 hp1 hd0 hd1 HT.out hd HN.out h11'
  ·exact checkT_loopT N mo hmo0 hmo1 IH.out t w A ⟨ma,mb,mc,md,me,mf,mg,mh,mi,mj,mk,ml⟩ pl d hN OX.out hp0 hp1 hd0 hd1 HT.out hd HN.out _ rfl
def ownN (t:GT):Nat:=if t.k=1 then sizeV t.v else if t.k=4 then sizeVs t.vs else if t.k=9 then nodesP t.p else 0
mutual
def nodesT:GT→Nat
 | ⟨k,v,vs,lo,hi,ws,p,l⟩=>1+ownN ⟨k,v,vs,lo,hi,ws,p,l⟩+nodesTs l
def nodesTs:List GT→Nat
 | []=>0
 | x::l=>nodesT x+nodesTs l
end
theorem nodesT_eq (t:GT):nodesT t=1+ownN t+nodesTs t.a:=by cases t;simp only [nodesT]
theorem ownN_le (t:GT):ownN t≤sizeV t.v+sizeVs t.vs+sizeP t.p:=by
 have:=nodesP_le t.p
 unfold ownN;(repeat' split)<;>omega
mutual
theorem nodesT_le:∀(t:GT),nodesT t≤sizeT t
 | ⟨k,v,vs,lo,hi,ws,p,l⟩=>by have:=nodesTs_le l;have h:=ownN_le ⟨k,v,vs,lo,hi,ws,p,l⟩;simp only [nodesT,sizeT] at *;omega
theorem nodesTs_le:∀(l:List GT),nodesTs l≤sizeTs l
 | []=>by simp [nodesTs]
 | x::l=>by have:=nodesT_le x;have:=nodesTs_le l;simp only [nodesTs,sizeTs];omega
end
theorem nodesTs_take_succ:∀(l:List GT) (j:Nat) (h:j < l.length),nodesTs (l.take (j+1))=nodesTs (l.take j)+nodesT l[j]
 | x::l,0,_=>by simp [nodesTs]
 | x::l,j+1,h=>by have:=nodesTs_take_succ l j (by simpa using h);simp only [List.take_succ_cons,nodesTs,List.getElem_cons_succ] at this ⊢;omega
theorem nodesTs_take_le (l:List GT) (j:Nat):nodesTs (l.take j)≤sizeTs l:=Nat.le_trans (nodesTs_le _) (sizeTs_take l j)
theorem sizeVs_take_succ:∀(l:List GV) (j:Nat) (h:j < l.length),sizeVs (l.take (j+1))=sizeVs (l.take j)+sizeV l[j]
 | x::l,0,_=>by simp [sizeVs]
 | x::l,j+1,h=>by have:=sizeVs_take_succ l j (by simpa using h);simp only [List.take_succ_cons,sizeVs,List.getElem_cons_succ] at this ⊢;omega
def NodesIH (N:Nat):Prop:=∀(t:GT) (w:World) (A:Nat→Prop) (m:TA),sizeT t≤N→okT t→sizeT t≤1099511627776→RT w A t m →
  Calls Tryz.prog 79 #[TV t m] w fun e w'=>e=.returned (.int .i64 (nodesT t))∧Below w.heap.size w w'
set_option maxRecDepth 100000 in
set_option maxHeartbeats 2000000 in
theorem nodesT_1 (N:Nat) (ih:NodesIH N) (t:GT) (w:World) (A:Nat→Prop) (m:TA) (hN:sizeT t≤N+1) (ox:okT t) (hs:sizeT t≤1099511627776) (hl:RT w A t m) (h1:t.k=1):
  Calls Tryz.prog 79 #[TV t m] w fun e w'=>e=.returned (.int .i64 (nodesT t))∧Below w.heap.size w w':=by
 obtain ⟨ma,mb,mc,md,me,mf,mg,mh,mi,mj,mk,ml⟩:=m
 have IH:=hid ih
 obtain ⟨h1,h2,_,h4,h5⟩:=RT_iff.1 hl
 have HL:=hid h5
 have HV:=hid (RV_iff.1 h1)
 have HVS:=hid h2
 have HP:=hid h4
 obtain ⟨⟨x1,x2⟩,ov,⟨ovl,ovs⟩,⟨l1,l2⟩,⟨l3,l4⟩,⟨owl,ow⟩,op,oal,oa⟩:=okT_iff.1 ox
 have O:=hid oa
 have OV:=hid ov
 have OVS:=hid ovs
 have OP:=hid op
 have hse:=sizeT_eq t
 have hsv:=sizeV_pos t.v
 have hsp:=sizeP_pos t.p
 have hnp:=nodesP_le t.p
 have hsv2:sizeV t.v≤1099511627776:=by omega
 have hsp2:sizeP t.p≤1099511627776:=by omega
 clear ih hl ox oa ov ovs ow op h1 h2 h4 h5
 rw [nodesT_eq]
 have hG:ownN t=sizeV t.v:=by rw [ownN,if_pos h1]
 rw [hG]
 have h1':(t.k==1)=true:=by simp [h1]
 clear hG h1
 go_enter Tryz.func79,Tryz.ntmps79
 go_wp2_with (go_at_call 111;refine (size_any t.v A ⟨ma,mb⟩ _ OV.out hsv2 (by exact RVs.ext (Agree.below Below.z) _ _ HV.out)).mono ?_;rintro e w1 ⟨rfl,hb⟩;have hB1:=hb;clear hb;obtain ⟨hc1,hf1⟩:=bcells hB1)
 go_loopg [3,41] (t.a.length) (fun gk t3 i wr=>∃j:Nat,gk+j=t.a.length∧i=.int .i64 j∧t3=.int .i64 ((1+sizeV t.v+nodesTs (t.a.take j):Nat):Int)∧Below w.heap.size w wr∧w.heap.size < wr.heap.size)
 case atStart=>exact ⟨0,by omega,rfl,by simp [nodesTs],Below.z,by have:=hB1.size;simp at this;omega⟩
 case round=>
  obtain ⟨j,hj,rfl,rfl,hb,hz⟩:=hrel
  by_cases hlt:j < t.a.length
  ·obtain ⟨b,o,mj',rfl,hA,hbs,g0,gx⟩:=HL.out.get j hlt
   obtain ⟨k0,k1,k2,k3,k4,k5,k6,k7,k8,k9,ka,kb,kc,kd,ke⟩:=At15.1 (g0.ext (Agree.below hb) (A:=fun _=>True) trivial)
   have hs1:b < wr.heap.size:=by omega
   have hq1:=sizeTs_get t.a j hlt
   have hq2:=nodesTs_take_succ t.a j hlt
   have hq3:=nodesTs_take_le t.a j
   have hq4:=nodesT_le t.a[j]
   have HQ:=hid hq2
   clear hq2 g0
   go_wp2_with (go_at_call 79;refine (IH.out t.a[j] _ A mj' (by omega) (O.out.get j hlt) (by omega) (by exact RT.ext (Agree.below Below.z) _ _ gx)).mono ?_;rintro e w2 ⟨rfl,hb2⟩)
   have hbb:Below w.heap.size w w2:=(hb.alloc (by omega) _).trans (hb2.mono (by simp;omega))
   go_roundg (gk - 1)
   case measure=>omega
   case rel=>exact ⟨j+1,by omega,by go_num,by rw [HQ.out];go_num,hbb,by have:=hb2.size;simp at this;omega⟩
  ·have hjl:j=t.a.length:=by omega
   go_wp2_with fail
   go_ret
   exact ⟨ret_int (by rw [hjl,List.take_length]),hb⟩
set_option maxRecDepth 100000 in
set_option maxHeartbeats 2000000 in
theorem nodesT_9 (N:Nat) (ih:NodesIH N) (t:GT) (w:World) (A:Nat→Prop) (m:TA) (hN:sizeT t≤N+1) (ox:okT t) (hs:sizeT t≤1099511627776) (hl:RT w A t m) (h1:¬t.k=1) (h9:t.k=9):
  Calls Tryz.prog 79 #[TV t m] w fun e w'=>e=.returned (.int .i64 (nodesT t))∧Below w.heap.size w w':=by
 obtain ⟨ma,mb,mc,md,me,mf,mg,mh,mi,mj,mk,ml⟩:=m
 have IH:=hid ih
 obtain ⟨h1,h2,_,h4,h5⟩:=RT_iff.1 hl
 have HL:=hid h5
 have HV:=hid (RV_iff.1 h1)
 have HVS:=hid h2
 have HP:=hid h4
 obtain ⟨⟨x1,x2⟩,ov,⟨ovl,ovs⟩,⟨l1,l2⟩,⟨l3,l4⟩,⟨owl,ow⟩,op,oal,oa⟩:=okT_iff.1 ox
 have O:=hid oa
 have OV:=hid ov
 have OVS:=hid ovs
 have OP:=hid op
 have hse:=sizeT_eq t
 have hsv:=sizeV_pos t.v
 have hsp:=sizeP_pos t.p
 have hnp:=nodesP_le t.p
 have hsv2:sizeV t.v≤1099511627776:=by omega
 have hsp2:sizeP t.p≤1099511627776:=by omega
 clear ih hl ox oa ov ovs ow op h1 h2 h4 h5
 rw [nodesT_eq]
 have h1':(t.k==1)=false:=by simp [h1]
 have hG:ownN t=nodesP t.p:=by rw [ownN,if_neg h1,if_neg (by omega),if_pos h9]
 rw [hG]
 have h4':(t.k==4)=false:=by simp [h9]
 have h9':(t.k==9)=true:=by simp [h9]
 clear hG h1 h9
 go_enter Tryz.func79,Tryz.ntmps79
 go_wp2_with (go_at_call 75;refine (nodes_any _ t.p _ A ⟨mg,mh,mi,mj⟩ (Nat.le_refl _) OP.out hsp2 (by exact RP.ext (Agree.below Below.z) _ _ HP.out)).mono ?_;rintro e w1 ⟨rfl,hb⟩;have hB1:=hb;clear hb;obtain ⟨hc1,hf1⟩:=bcells hB1)
 go_loopg [3,41] (t.a.length) (fun gk t3 i wr=>∃j:Nat,gk+j=t.a.length∧i=.int .i64 j∧t3=.int .i64 ((1+nodesP t.p+nodesTs (t.a.take j):Nat):Int)∧Below w.heap.size w wr∧w.heap.size < wr.heap.size)
 case atStart=>exact ⟨0,by omega,rfl,by simp [nodesTs],Below.z,by have:=hB1.size;simp at this;omega⟩
 case round=>
  obtain ⟨j,hj,rfl,rfl,hb,hz⟩:=hrel
  by_cases hlt:j < t.a.length
  ·obtain ⟨b,o,mj',rfl,hA,hbs,g0,gx⟩:=HL.out.get j hlt
   obtain ⟨k0,k1,k2,k3,k4,k5,k6,k7,k8,k9,ka,kb,kc,kd,ke⟩:=At15.1 (g0.ext (Agree.below hb) (A:=fun _=>True) trivial)
   have hs1:b < wr.heap.size:=by omega
   have hq1:=sizeTs_get t.a j hlt
   have hq2:=nodesTs_take_succ t.a j hlt
   have hq3:=nodesTs_take_le t.a j
   have hq4:=nodesT_le t.a[j]
   have HQ:=hid hq2
   clear hq2 g0
   go_wp2_with (go_at_call 79;refine (IH.out t.a[j] _ A mj' (by omega) (O.out.get j hlt) (by omega) (by exact RT.ext (Agree.below Below.z) _ _ gx)).mono ?_;rintro e w2 ⟨rfl,hb2⟩)
   have hbb:Below w.heap.size w w2:=(hb.alloc (by omega) _).trans (hb2.mono (by simp;omega))
   go_roundg (gk - 1)
   case measure=>omega
   case rel=>exact ⟨j+1,by omega,by go_num,by rw [HQ.out];go_num,hbb,by have:=hb2.size;simp at this;omega⟩
  ·have hjl:j=t.a.length:=by omega
   go_wp2_with fail
   go_ret
   exact ⟨ret_int (by rw [hjl,List.take_length]),hb⟩
set_option maxRecDepth 100000 in
set_option maxHeartbeats 2000000 in
theorem nodesT_4 (N:Nat) (ih:NodesIH N) (t:GT) (w:World) (A:Nat→Prop) (m:TA) (hN:sizeT t≤N+1) (ox:okT t) (hs:sizeT t≤1099511627776) (hl:RT w A t m) (h1:¬t.k=1) (h9:¬t.k=9) (h4:t.k=4):
  Calls Tryz.prog 79 #[TV t m] w fun e w'=>e=.returned (.int .i64 (nodesT t))∧Below w.heap.size w w':=by
 obtain ⟨ma,mb,mc,md,me,mf,mg,mh,mi,mj,mk,ml⟩:=m
 have IH:=hid ih
 obtain ⟨h1,h2,_,h4,h5⟩:=RT_iff.1 hl
 have HL:=hid h5
 have HV:=hid (RV_iff.1 h1)
 have HVS:=hid h2
 have HP:=hid h4
 obtain ⟨⟨x1,x2⟩,ov,⟨ovl,ovs⟩,⟨l1,l2⟩,⟨l3,l4⟩,⟨owl,ow⟩,op,oal,oa⟩:=okT_iff.1 ox
 have O:=hid oa
 have OV:=hid ov
 have OVS:=hid ovs
 have OP:=hid op
 have hse:=sizeT_eq t
 have hsv:=sizeV_pos t.v
 have hsp:=sizeP_pos t.p
 have hnp:=nodesP_le t.p
 have hsv2:sizeV t.v≤1099511627776:=by omega
 have hsp2:sizeP t.p≤1099511627776:=by omega
 clear ih hl ox oa ov ovs ow op h1 h2 h4 h5
 rw [nodesT_eq]
 have h1':(t.k==1)=false:=by simp [h1]
 have h9':(t.k==9)=false:=by simp [h9]
 have hG:ownN t=sizeVs t.vs:=by rw [ownN,if_neg h1,if_pos h4]
 rw [hG]
 have h4':(t.k==4)=true:=by simp [h4]
 clear hG h1 h9 h4
 go_enter Tryz.func79,Tryz.ntmps79
 go_wp2_with fail
 go_loopg [3,22] (t.vs.length) (fun gk t3 i wr=>∃j:Nat,gk+j=t.vs.length∧i=.int .i64 j∧t3=.int .i64 ((1+sizeVs (t.vs.take j):Nat):Int)∧Below w.heap.size w wr∧w.heap.size < wr.heap.size∧wr.cell? ⟨w.heap.size,14,none⟩=some (.slice mk t.a.length ml))
 case atStart=>exact ⟨0,by omega,rfl,by simp [sizeVs],Below.z,by simp,by go_simp⟩
 case round=>
  obtain ⟨j,hj,rfl,rfl,hb,hz,hbx⟩:=hrel
  by_cases hlt:j < t.vs.length
  ·obtain ⟨b,o,mj',rfl,hA,hbs,g0,gx⟩:=HVS.out.get j hlt
   obtain ⟨k0,k1,k2⟩:=At3.1 (g0.ext (Agree.below hb) (A:=fun _=>True) trivial)
   have hs1:b < wr.heap.size:=by omega
   have hq1:=sizeVs_get t.vs j hlt
   have hq2:=sizeVs_take_succ t.vs j hlt
   have hq3:=sizeVs_take t.vs (j+1)
   have HQ:=hid hq2
   clear g0
   go_wp2_with (go_at_call 111;refine (size_any t.vs[j] A mj' _ (OVS.out.get j hlt) (by omega) (by exact RV_iff.1 (RV.ext (Agree.below Below.z) _ _ gx))).mono ?_;rintro e w2 ⟨rfl,hb2⟩)
   have hbb:Below w.heap.size w w2:=(hb.alloc (by omega) _).trans (hb2.mono (by simp;omega))
   go_roundg (gk - 1)
   case measure=>omega
   case rel=>exact ⟨j+1,by omega,by go_num,by rw [HQ.out];go_num,hbb,by have:=hb2.size;simp at this;omega,(hb2.cell (by simp;omega)).trans (by go_simp)⟩
  ·have hjl:j=t.vs.length:=by omega
   subst hjl
   have htk:t.vs.take t.vs.length=t.vs:=by rw [List.take_length]
   rw [htk]
   have hvl:sizeVs t.vs≤1099511627776:=by omega
   clear htk
   go_wp2_with fail
   go_loopg [3,41] (t.a.length) (fun gk t3 i wr=>∃j:Nat,gk+j=t.a.length∧i=.int .i64 j∧t3=.int .i64 ((1+sizeVs t.vs+nodesTs (t.a.take j):Nat):Int)∧Below w.heap.size w wr∧w.heap.size < wr.heap.size)
   case atStart=>exact ⟨0,by omega,rfl,by simp [nodesTs],Below.z,by omega⟩
   case round=>
    obtain ⟨j,hj,rfl,rfl,hb,hz⟩:=hrel
    by_cases hlt:j < t.a.length
    ·obtain ⟨b,o,mj',rfl,hA,hbs,g0,gx⟩:=HL.out.get j hlt
     obtain ⟨k0,k1,k2,k3,k4,k5,k6,k7,k8,k9,ka,kb,kc,kd,ke⟩:=At15.1 (g0.ext (Agree.below hb) (A:=fun _=>True) trivial)
     have hs1:b < wr.heap.size:=by omega
     have hq1:=sizeTs_get t.a j hlt
     have hq2:=nodesTs_take_succ t.a j hlt
     have hq3:=nodesTs_take_le t.a j
     have hq4:=nodesT_le t.a[j]
     have HQ:=hid hq2
     clear hq2 g0
     go_wp2_with (go_at_call 79;refine (IH.out t.a[j] _ A mj' (by omega) (O.out.get j hlt) (by omega) (by exact RT.ext (Agree.below Below.z) _ _ gx)).mono ?_;rintro e w2 ⟨rfl,hb2⟩)
     have hbb:Below w.heap.size w w2:=(hb.alloc (by omega) _).trans (hb2.mono (by simp;omega))
     go_roundg (gk - 1)
     case measure=>omega
     case rel=>exact ⟨j+1,by omega,by go_num,by rw [HQ.out];go_num,hbb,by have:=hb2.size;simp at this;omega⟩
    ·have hjl:j=t.a.length:=by omega
     go_wp2_with fail
     go_ret
     exact ⟨ret_int (by rw [hjl,List.take_length]),hb⟩
set_option maxRecDepth 100000 in
set_option maxHeartbeats 2000000 in
theorem nodesT_n (N:Nat) (ih:NodesIH N) (t:GT) (w:World) (A:Nat→Prop) (m:TA) (hN:sizeT t≤N+1) (ox:okT t) (hs:sizeT t≤1099511627776) (hl:RT w A t m) (h1:¬t.k=1) (h9:¬t.k=9) (h4:¬t.k=4):
  Calls Tryz.prog 79 #[TV t m] w fun e w'=>e=.returned (.int .i64 (nodesT t))∧Below w.heap.size w w':=by
 obtain ⟨ma,mb,mc,md,me,mf,mg,mh,mi,mj,mk,ml⟩:=m
 have IH:=hid ih
 obtain ⟨h1,h2,_,h4,h5⟩:=RT_iff.1 hl
 have HL:=hid h5
 have HV:=hid (RV_iff.1 h1)
 have HVS:=hid h2
 have HP:=hid h4
 obtain ⟨⟨x1,x2⟩,ov,⟨ovl,ovs⟩,⟨l1,l2⟩,⟨l3,l4⟩,⟨owl,ow⟩,op,oal,oa⟩:=okT_iff.1 ox
 have O:=hid oa
 have OV:=hid ov
 have OVS:=hid ovs
 have OP:=hid op
 have hse:=sizeT_eq t
 have hsv:=sizeV_pos t.v
 have hsp:=sizeP_pos t.p
 have hnp:=nodesP_le t.p
 have hsv2:sizeV t.v≤1099511627776:=by omega
 have hsp2:sizeP t.p≤1099511627776:=by omega
 clear ih hl ox oa ov ovs ow op h1 h2 h4 h5
 rw [nodesT_eq]
 have h1':(t.k==1)=false:=by simp [h1]
 have h9':(t.k==9)=false:=by simp [h9]
 have hG:ownN t=0:=by rw [ownN,if_neg h1,if_neg h4,if_neg h9]
 rw [hG]
 have h4':(t.k==4)=false:=by simp [h4]
 clear hG h1 h9 h4
 go_enter Tryz.func79,Tryz.ntmps79
 go_wp2_with fail
 go_loopg [3,41] (t.a.length) (fun gk t3 i wr=>∃j:Nat,gk+j=t.a.length∧i=.int .i64 j∧t3=.int .i64 ((1+0+nodesTs (t.a.take j):Nat):Int)∧Below w.heap.size w wr∧w.heap.size < wr.heap.size)
 case atStart=>exact ⟨0,by omega,rfl,by simp [nodesTs],Below.z,by simp⟩
 case round=>
  obtain ⟨j,hj,rfl,rfl,hb,hz⟩:=hrel
  by_cases hlt:j < t.a.length
  ·obtain ⟨b,o,mj',rfl,hA,hbs,g0,gx⟩:=HL.out.get j hlt
   obtain ⟨k0,k1,k2,k3,k4,k5,k6,k7,k8,k9,ka,kb,kc,kd,ke⟩:=At15.1 (g0.ext (Agree.below hb) (A:=fun _=>True) trivial)
   have hs1:b < wr.heap.size:=by omega
   have hq1:=sizeTs_get t.a j hlt
   have hq2:=nodesTs_take_succ t.a j hlt
   have hq3:=nodesTs_take_le t.a j
   have hq4:=nodesT_le t.a[j]
   have HQ:=hid hq2
   clear hq2 g0
   go_wp2_with (go_at_call 79;refine (IH.out t.a[j] _ A mj' (by omega) (O.out.get j hlt) (by omega) (by exact RT.ext (Agree.below Below.z) _ _ gx)).mono ?_;rintro e w2 ⟨rfl,hb2⟩)
   have hbb:Below w.heap.size w w2:=(hb.alloc (by omega) _).trans (hb2.mono (by simp;omega))
   go_roundg (gk - 1)
   case measure=>omega
   case rel=>exact ⟨j+1,by omega,by go_num,by rw [HQ.out];go_num,hbb,by have:=hb2.size;simp at this;omega⟩
  ·have hjl:j=t.a.length:=by omega
   go_wp2_with fail
   go_ret
   exact ⟨ret_int (by rw [hjl,List.take_length]),hb⟩
theorem nodesT_any (N:Nat):NodesIH N:=by
 induction N with
 | zero=>intro t;have:=sizeT_pos t;intros;omega
 | succ N ih=>
  intro t w A m hN ox hs hl
  by_cases h1:t.k=1
  ·exact nodesT_1 N ih t w A m hN ox hs hl h1
  by_cases h9:t.k=9
  ·exact nodesT_9 N ih t w A m hN ox hs hl h1 h9
  by_cases h4:t.k=4
  ·exact nodesT_4 N ih t w A m hN ox hs hl h1 h9 h4
  ·exact nodesT_n N ih t w A m hN ox hs hl h1 h9 h4
set_option maxRecDepth 100000 in
theorem r14node_any (x:GV) (m:VA) (w:World) (ox:isU8 x.k∧isI64 x.n∧x.l.length≤1048576):
  Calls Tryz.prog 222 #[VV x m] w fun e w'=>e=.returned (.int .i64 (nodeV x))∧Below w.heap.size w w':=by
 obtain ⟨⟨x1,x2⟩,⟨x3,x4⟩,x5⟩:=ox
 obtain ⟨ma,mc⟩:=m
 generalize hF:nodeV x=F
 have HF:=hid hF
 clear hF
 go_enter Tryz.func222,Tryz.ntmps222
 go_wp2_with fail
 all_goals go_ret
 all_goals refine ⟨ret_int ?_,Below.r⟩
 all_goals rw [←HF.out]
 all_goals unfold nodeV
 all_goals (first|rfl|omega|((try simp only [beq_iff_eq,beq_eq_false_iff_ne,bne_iff_ne,bne_eq_false_iff_eq,decide_eq_true_eq,decide_eq_false_iff_not,ne_eq,Bool.and_eq_true,Bool.or_eq_true,Bool.and_eq_false_iff,Bool.or_eq_false_iff,Bool.not_eq_true',Bool.not_eq_false'] at *);(repeat' split)<;>first|rfl|omega|contradiction|(simp_all;done)|(simp_all;omega)))
mutual
def allE:GV→Int
 | ⟨k,n,l⟩=>if nodeV ⟨k,n,l⟩≠0 then nodeV ⟨k,n,l⟩ else allEs l
def allEs:List GV→Int
 | []=>0
 | x::l=>if allE x≠0 then allE x else allEs l
end
theorem allE_eq (x:GV):allE x=if nodeV x≠0 then nodeV x else allEs x.l:=by cases x;simp only [allE]
mutual
theorem allE_pre:∀(x:GV) (d:Nat),allE x=firstErr (preV d x)
 | ⟨k,n,l⟩,d=>by simp only [allE,preV,firstErr,allEs_pre l (d+1)]
theorem allEs_pre:∀(l:List GV) (d:Nat),allEs l=firstErr (preVs d l)
 | [],d=>by simp only [allEs,preVs,firstErr]
 | x::l,d=>by simp only [allEs,preVs,firstErr_append,allE_pre x d,allEs_pre l d]
end
theorem allEs_append:∀(a b:List GV),allEs (a++b)=if allEs a≠0 then allEs a else allEs b
 | [],b=>by simp [allEs]
 | x::a,b=>by
  simp only [List.cons_append,allEs,allEs_append a b]
  by_cases h:allE x=0<;>simp [h]
theorem allEs_take (l:List GV) (j:Nat) (h:j < l.length) (h0:allEs (l.take j)=0):allEs (l.take (j+1))=allE l[j]:=by
 rw [List.take_succ_eq_append_getElem h,allEs_append,h0,if_neg (by simp)]
 simp only [allEs]
 split
 ·rfl
 ·rename_i h1;exact (Decidable.not_not.1 h1).symm
theorem allEs_stop (l:List GV) (j:Nat) (h0:allEs (l.take j)≠0):allEs l=allEs (l.take j):=by
 conv=>lhs;rw [←List.take_append_drop j l]
 rw [allEs_append,if_pos h0]
set_option maxRecDepth 100000 in
set_option maxHeartbeats 1000000 in
theorem r14all_any (N:Nat):∀(x:GV) (w:World) (A:Nat→Prop) (m:VA),sizeV x≤N→okV x→RVs w A x.l m.a →
  Calls Tryz.prog 201 #[VV x m] w fun e w'=>e=.returned (.int .i64 (allE x))∧Below w.heap.size w w':=by
 induction N with
 | zero=>intro x;have:=sizeV_pos x;intros;omega
 | succ N ih=>
  rintro x w A ⟨ma,mc⟩ hN ox hl
  have IH:=hid ih
  have HL:=hid hl
  obtain ⟨x1,x2,hlen,oa⟩:=okV_iff.1 ox
  have O:=hid oa
  have HU:=hid (And.intro x1 (And.intro x2 hlen))
  have hse:=sizeV_eq x
  rw [allE_eq]
  generalize hF:(if nodeV x≠0 then nodeV x else allEs x.l)=F
  have HF:=hid hF
  clear hF
  clear ih hl ox oa x1 x2
  go_enter Tryz.func201,Tryz.ntmps201
  go_wp2_with (go_at_call 222;refine (r14node_any x ⟨ma,mc⟩ _ HU.out).mono ?_;rintro e w1 ⟨rfl,hb⟩;have hB1:=hb;clear hb;obtain ⟨hc1,hf1⟩:=bcells hB1)
  have hz1:=hB1.size
  simp at hz1
  have q2:w1.cell? ⟨w.heap.size,2,none⟩=some (.slice ma x.l.length mc):=(hB1.cell so).trans (by go_simp)
  have hbw1:Below w.heap.size w w1:=Below.r
  go_loopg [3,4] (x.l.length) (fun gk t3 i wr=>∃(j:Nat) (E:Int),gk+j=x.l.length∧i=.int .i64 j∧t3=.int .i64 E∧Hid (E=if nodeV x≠0 then nodeV x else allEs (x.l.take j))∧Below w.heap.size w wr∧w.heap.size < wr.heap.size∧wr.cell? ⟨w.heap.size,2,none⟩=some (.slice ma x.l.length mc))
  case atStart=>exact ⟨0,_,by omega,rfl,rfl,hid (by simp [allEs]),hbw1,by omega,q2⟩
  case round=>
   obtain ⟨j,E,hj,rfl,rfl,HE,hb,hz,hcell⟩:=hrel
   by_cases hE:E=0
   ·have hE':(E==0)=true:=by simp [hE]
    have h0:nodeV x=0∧allEs (x.l.take j)=0:=by
     have:=HE.out
     rw [hE] at this
     split at this
     ·rename_i h1;exact absurd this.symm h1
     ·rename_i h1;exact ⟨by simpa using h1,this.symm⟩
    have H0:=hid h0
    clear h0 hE
    by_cases hlt:j < x.l.length
    ·obtain ⟨b,o,mj,rfl,hA,hbs,g0,gx⟩:=HL.out.get j hlt
     obtain ⟨k0,k1,k2⟩:=At3.1 (g0.ext (Agree.below hb) (A:=fun _=>True) trivial)
     have hs1:b < wr.heap.size:=by omega
     have hq1:=sizeVs_get x.l j hlt
     clear g0
     go_wp2_with (go_at_call 201;refine (IH.out x.l[j] _ A mj (by omega) (O.out.get j hlt) (by exact RVs.ext (Agree.below Below.z) _ _ (RV_iff.1 gx))).mono ?_;rintro e w2 ⟨rfl,hb2⟩)
     have hbb:Below w.heap.size w w2:=hb.trans (hb2.mono (by omega))
     go_roundg (gk - 1)
     case measure=>omega
     case rel=>exact ⟨j+1,_,by omega,by go_num,rfl,hid (by rw [allEs_take _ _ hlt H0.out.2,if_neg (by simp [H0.out.1])]),hbb,by have:=hb2.size;omega,(hb2.cell (by simp;omega)).trans hcell⟩
    ·have hjl:j=x.l.length:=by omega
     go_wp2_with fail
     go_ret
     exact ⟨ret_int (by rw [HE.out,←HF.out,hjl,List.take_length]),hb⟩
   ·have hE':(E==0)=false:=by simp [hE]
    have hfin:E=F:=by
     rw [←HF.out]
     have:=HE.out
     split at this
     ·rename_i h1;rw [if_pos h1];exact this
     ·rename_i h1;rw [if_neg h1,this];exact (allEs_stop _ _ (by rw [←this];exact hE)).symm
    have HFI:=hid hfin
    clear hE hfin
    by_cases hlt:j < x.l.length
    all_goals
     go_wp2_with fail
     go_ret
     exact ⟨ret_int HFI.out,hb⟩
theorem sizeVs_takeS:∀(l:List GV) (j:Nat) (h:j < l.length),sizeVs (l.take (j+1))=sizeVs (l.take j)+sizeV l[j]
 | x::l,0,_=>by simp [sizeVs]
 | x::l,j+1,h=>by have:=sizeVs_takeS l j (by simpa using h);simp only [List.take_succ_cons,sizeVs,List.getElem_cons_succ] at this ⊢;omega
theorem sizeVs_takeL:∀(l:List GV) (j:Nat),sizeVs (l.take j)≤sizeVs l
 | [],j=>by simp
 | x::l,0=>by simp [sizeVs]
 | x::l,j+1=>by have:=sizeVs_takeL l j;simp only [List.take_succ_cons,sizeVs];omega
set_option maxRecDepth 100000 in
set_option maxHeartbeats 1000000 in
theorem r14size_any (N:Nat):∀(x:GV) (w:World) (A:Nat→Prop) (m:VA),sizeV x≤N→sizeV x≤1099511627776→okV x→RVs w A x.l m.a →
  Calls Tryz.prog 94 #[VV x m] w fun e w'=>e=.returned (.int .i64 (sizeV x))∧Below w.heap.size w w':=by
 induction N with
 | zero=>intro x;have:=sizeV_pos x;intros;omega
 | succ N ih=>
  rintro x w A ⟨ma,mc⟩ hN h40 ox hl
  have IH:=hid ih
  have HL:=hid hl
  obtain ⟨_,_,hlen,oa⟩:=okV_iff.1 ox
  have O:=hid oa
  have hse:=sizeV_eq x
  clear ih hl ox oa
  go_enter Tryz.func94,Tryz.ntmps94
  go_wp2_with fail
  go_loopg [3,4] (x.l.length) (fun gk t3 i wr=>∃(j n:Nat),gk+j=x.l.length∧i=.int .i64 j∧t3=.int .i64 n∧Hid (n=1+sizeVs (x.l.take j))∧n≤1099511627776∧Below w.heap.size w wr∧w.heap.size < wr.heap.size∧wr.cell? ⟨w.heap.size,2,none⟩=some (.slice ma x.l.length mc))
  case atStart=>exact ⟨0,1,by omega,rfl,rfl,hid (by simp [sizeVs]),by omega,Below.r,by simp,by go_simp⟩
  case round=>
   obtain ⟨j,n,hj,rfl,rfl,HE,hn,hb,hz,hcell⟩:=hrel
   by_cases hlt:j < x.l.length
   ·obtain ⟨b,o,mj,rfl,hA,hbs,g0,gx⟩:=HL.out.get j hlt
    obtain ⟨k0,k1,k2⟩:=At3.1 (g0.ext (Agree.below hb) (A:=fun _=>True) trivial)
    have hs1:b < wr.heap.size:=by omega
    have hq1:=sizeVs_get x.l j hlt
    have hq2:sizeVs (x.l.take (j+1))=sizeVs (x.l.take j)+sizeV x.l[j]∧sizeVs (x.l.take (j+1))≤sizeVs x.l:=⟨sizeVs_takeS _ _ hlt,sizeVs_takeL _ _⟩
    have hn2:n+sizeV x.l[j]≤1099511627776:=by have:=HE.out;omega
    have HQ:=hid hq2
    clear g0 hq2
    go_wp2_with (go_at_call 94;refine (IH.out x.l[j] _ A mj (by omega) (by omega) (O.out.get j hlt) (by exact RVs.ext (Agree.below Below.z) _ _ (RV_iff.1 gx))).mono ?_;rintro e w2 ⟨rfl,hb2⟩)
    have hbb:Below w.heap.size w w2:=hb.trans (hb2.mono (by omega))
    go_roundg (gk - 1)
    case measure=>omega
    case rel=>exact ⟨j+1,n+sizeV x.l[j],by omega,by go_num,by go_num,hid (by have:=HE.out;have:=HQ.out.1;omega),hn2,hbb,by have:=hb2.size;omega,(hb2.cell (by simp;omega)).trans hcell⟩
   ·have hjl:j=x.l.length:=by omega
    go_wp2_with fail
    go_ret
    exact ⟨ret_int (by have:=HE.out;rw [hjl,List.take_length] at this;omega),hb⟩
theorem deepVs_takeS:∀(l:List GV) (j:Nat) (h:j < l.length),deepVs (l.take (j+1))=max (deepVs (l.take j)) (deepV l[j])
 | x::l,0,_=>by simp [deepVs]
 | x::l,j+1,h=>by have:=deepVs_takeS l j (by simpa using h);simp only [List.take_succ_cons,deepVs,List.getElem_cons_succ] at this ⊢;omega
theorem deepVs_takeL:∀(l:List GV) (j:Nat),deepVs (l.take j)≤deepVs l
 | [],j=>by simp
 | x::l,0=>by simp [deepVs]
 | x::l,j+1=>by have:=deepVs_takeL l j;simp only [List.take_succ_cons,deepVs];omega
theorem deepVs_get:∀(l:List GV) (j:Nat) (h:j < l.length),deepV l[j]≤deepVs l
 | x::l,0,_=>by simp only [List.getElem_cons_zero,deepVs];omega
 | x::l,j+1,h=>by have:=deepVs_get l j (by simpa using h);simp only [deepVs,List.getElem_cons_succ] at this ⊢;omega
set_option maxRecDepth 100000 in
set_option maxHeartbeats 1000000 in
theorem r14deep_any (N:Nat):∀(x:GV) (w:World) (A:Nat→Prop) (m:VA),sizeV x≤N→sizeV x≤1099511627776→okV x→RVs w A x.l m.a →
  Calls Tryz.prog 193 #[VV x m] w fun e w'=>e=.returned (.int .i64 (deepV x))∧Below w.heap.size w w':=by
 induction N with
 | zero=>intro x;have:=sizeV_pos x;intros;omega
 | succ N ih=>
  rintro x w A ⟨ma,mc⟩ hN h40 ox hl
  have IH:=hid ih
  have HL:=hid hl
  obtain ⟨_,_,hlen,oa⟩:=okV_iff.1 ox
  have O:=hid oa
  have hse:=sizeV_eq x
  have hd1:=deepV_le x
  have hd2:=deepV_eq x
  have HD:=hid hd2
  clear ih hl ox oa hd2
  go_enter Tryz.func193,Tryz.ntmps193
  go_wp2_with fail
  go_loopg [3,4] (x.l.length) (fun gk t3 i wr=>∃(j n:Nat),gk+j=x.l.length∧i=.int .i64 j∧t3=.int .i64 n∧Hid (n=deepVs (x.l.take j))∧n≤1099511627775∧Below w.heap.size w wr∧w.heap.size < wr.heap.size∧wr.cell? ⟨w.heap.size,2,none⟩=some (.slice ma x.l.length mc))
  case atStart=>exact ⟨0,0,by omega,rfl,rfl,hid (by simp [deepVs]),by omega,Below.r,by simp,by go_simp⟩
  case round=>
   obtain ⟨j,n,hj,rfl,rfl,HE,hn,hb,hz,hcell⟩:=hrel
   by_cases hlt:j < x.l.length
   ·obtain ⟨b,o,mj,rfl,hA,hbs,g0,gx⟩:=HL.out.get j hlt
    obtain ⟨k0,k1,k2⟩:=At3.1 (g0.ext (Agree.below hb) (A:=fun _=>True) trivial)
    have hs1:b < wr.heap.size:=by omega
    have hq1:=sizeVs_get x.l j hlt
    have hq3:=deepVs_takeL x.l (j+1)
    have hq4:=deepVs_takeS x.l j hlt
    have hq5:deepV x.l[j]≤1099511627775:=by have:=deepVs_get x.l j hlt;have:=HD.out;omega
    have HQ:=hid hq4
    clear g0 hq4 hq3
    by_cases hmx:n < deepV x.l[j]
    all_goals
     go_wp2_with (go_at_call 193;refine (IH.out x.l[j] _ A mj (by omega) (by omega) (O.out.get j hlt) (by exact RVs.ext (Agree.below Below.z) _ _ (RV_iff.1 gx))).mono ?_;rintro e w2 ⟨rfl,hb2⟩)
     have hbb:Below w.heap.size w w2:=hb.trans (hb2.mono (by omega))
     go_roundg (gk - 1)
     case measure=>omega
     case rel=>exact ⟨j+1,max n (deepV x.l[j]),by omega,by go_num,by first|(rw [Nat.max_eq_right (by omega)];done)|(rw [Nat.max_eq_left (by omega)];done)|go_num,hid (by rw [HQ.out,HE.out]),by omega,hbb,by have:=hb2.size;omega,(hb2.cell (by simp;omega)).trans hcell⟩
   ·have hjl:j=x.l.length:=by omega
    go_wp2_with fail
    go_ret
    exact ⟨ret_int (by have:=HE.out;rw [hjl,List.take_length] at this;have:=HD.out;omega),hb⟩
set_option maxRecDepth 100000 in
set_option maxHeartbeats 1000000 in
theorem r14check_any (x:GV) (w:World) (A:Nat→Prop) (m:VA) (ox:okV x) (h40:sizeV x≤1099511627776) (hl:RVs w A x.l m.a):
  Calls Tryz.prog 154 #[VV x m] w fun e w'=>e=.returned (.int .i64 (checkV x))∧Below w.heap.size w w':=by
 obtain ⟨ma,mc⟩:=m
 have HL:=hid hl
 have OX:=hid ox
 have hF:checkV x=if allE x≠0 then allE x else if 128 < (deepV x:Int) then 9 else if 4096 < (sizeV x:Int) then 5 else 0:=by
  unfold checkV;rw [←allE_pre]
 rw [hF]
 clear hl ox hF
 by_cases h1:allE x=0
 case neg=>
  rw [if_pos h1]
  have h1':(allE x==0)=false:=by simp [h1]
  clear h1
  go_enter Tryz.func154,Tryz.ntmps154
  go_wp2_with (go_at_call 201;refine (r14all_any _ x _ A ⟨ma,mc⟩ (Nat.le_refl _) OX.out (by exact RVs.ext (Agree.below Below.z) _ _ HL.out)).mono ?_;rintro e w1 ⟨rfl,hb⟩;have hB1:=hb;clear hb;obtain ⟨hc1,hf1⟩:=bcells hB1)
  go_ret
  exact ⟨rfl,Below.r⟩
 rw [if_neg (by simp [h1])]
 have h1':(allE x==0)=true:=by simp [h1]
 generalize hF:(if 128 < (deepV x:Int) then (9:Int) else if 4096 < (sizeV x:Int) then 5 else 0)=F
 have HF:=hid hF
 clear hF
 have HA:=hid h1
 clear h1 h1'
 go_enter Tryz.func154,Tryz.ntmps154
 go_wp2_with (first
  | (go_at_call 201;refine (r14all_any _ x _ A ⟨ma,mc⟩ (Nat.le_refl _) OX.out (by exact RVs.ext (Agree.below Below.z) _ _ HL.out)).mono ?_;rw [HA.out];rintro e w1 ⟨rfl,hb⟩;have hB1:=hb;clear hb;obtain ⟨hc1,hf1⟩:=bcells hB1)
  | (go_at_call 193;refine (r14deep_any _ x _ A ⟨ma,mc⟩ (Nat.le_refl _) h40 OX.out (by exact RVs.ext (Agree.below Below.z) _ _ HL.out)).mono ?_;rintro e w2 ⟨rfl,hb⟩;have hB2:=Below.trans hB1 (Below.mono hb (Below.size hB1));clear hb;obtain ⟨hc2,hf2⟩:=bcells hB2)
  | (go_at_call 94;refine (r14size_any _ x _ A ⟨ma,mc⟩ (Nat.le_refl _) h40 OX.out (by exact RVs.ext (Agree.below Below.z) _ _ HL.out)).mono ?_;rintro e w3 ⟨rfl,hb⟩;have hB3:=Below.trans hB2 (Below.mono hb (Below.size hB2));clear hb;obtain ⟨hc3,hf3⟩:=bcells hB3))
 all_goals go_ret
 all_goals refine ⟨ret_int ?_,Below.z⟩
 all_goals rw [←HF.out]
 all_goals (first|rfl|omega|((try simp only [beq_iff_eq,beq_eq_false_iff_ne,bne_iff_ne,bne_eq_false_iff_eq,decide_eq_true_eq,decide_eq_false_iff_not,ne_eq,Bool.and_eq_true,Bool.or_eq_true,Bool.and_eq_false_iff,Bool.or_eq_false_iff,Bool.not_eq_true',Bool.not_eq_false'] at *);(repeat' split)<;>first|rfl|omega|contradiction|(simp_all;done)|(simp_all;omega)))
set_option maxRecDepth 100000 in
set_option maxHeartbeats 4000000 in
theorem r17node_any (p:GP) (A:Nat→Prop) (m:PA) (w:World) (ox:okP p) (hsz:sizeP p≤1099511627776) (hl:RP w A p m):
  Calls Tryz.prog 102 #[PV p m] w fun e w'=>e=.returned (.int .i64 (nodeP p))∧Below w.heap.size w w':=by
 obtain ⟨ma,mc,mb,md⟩:=m
 obtain ⟨k,v,n,a⟩:=p
 obtain ⟨⟨x1,x2⟩,ov,⟨x3,x4⟩,x5,oa⟩:=okP_iff.1 ox
 obtain ⟨v1,v2,v3,_⟩:=okV_iff.1 ov
 have HV:=hid (And.intro v1 (And.intro v2 v3))
 have OV:=hid ov
 have HLV:=hid (RV_iff.1 (RP_iff.1 hl).1)
 have hse:=sizeP_eq ⟨k,v,n,a⟩
 have hsv:sizeV v≤1099511627776:=by simp only at hse;omega
 dsimp only at HV OV HLV x1 x2 x3 x4 x5
 clear ox oa ov v1 v2 v3 hl hse hsz
 by_cases hk:k < 1∨11 < k
 ·have hF:nodeP ⟨k,v,n,a⟩=11:=by unfold nodeP;rw [if_pos hk]
  rw [hF]
  clear hF
  rcases hk with hk|hk
  all_goals go_enter Tryz.func102,Tryz.ntmps102
  all_goals go_wp2_with fail
  all_goals go_ret
  all_goals exact ⟨rfl,Below.r⟩
 rcases (by omega:k=1∨k=2∨k=3∨k=4∨k=5∨k=6∨k=7∨k=8∨k=9∨k=10∨k=11) with rfl|rfl|rfl|rfl|rfl|rfl|rfl|rfl|rfl|rfl|rfl
 all_goals clear hk
 all_goals
  generalize hF:nodeP _=F
  have HF:=hid hF
  clear hF
  go_enter Tryz.func102,Tryz.ntmps102
  go_wp2_with (first
   | (go_at_call 154;refine (r14check_any v _ A ⟨ma,mc⟩ OV.out hsv (by exact RVs.ext (Agree.below Below.z) _ _ HLV.out)).mono ?_;rintro e w1 ⟨rfl,hb⟩;have hB1:=hb;clear hb;obtain ⟨hc1,hf1⟩:=bcells hB1)
   | (go_at_call 155;refine (r17none_any v ⟨ma,mc⟩ _ HV.out).mono ?_;rintro e w1 ⟨rfl,hb⟩;have hB1:=hb;clear hb;obtain ⟨hc1,hf1⟩:=bcells hB1))
  all_goals go_ret
  all_goals refine ⟨ret_int ?_,Below.r⟩
  all_goals rw [←HF.out]
  all_goals unfold nodeP nodePrest numberE roomL roomM hasValueB
  all_goals first|(simp [*];done)|(simp_all;done)|(simp_all;omega)|(first|rfl|omega|((try simp only [beq_iff_eq,beq_eq_false_iff_ne,bne_iff_ne,bne_eq_false_iff_eq,decide_eq_true_eq,decide_eq_false_iff_not,ne_eq,Bool.and_eq_true,Bool.or_eq_true,Bool.and_eq_false_iff,Bool.or_eq_false_iff,Bool.not_eq_true',Bool.not_eq_false'] at *);(repeat' split)<;>first|rfl|omega|contradiction|(simp_all;done)|(simp_all;omega)))
set_option maxRecDepth 100000 in
set_option maxHeartbeats 1000000 in
theorem r17check_any (N:Nat):∀(p:GP) (w:World) (A:Nat→Prop) (m:PA) (pl d:Int),sizeP p≤N→okP p→0≤pl→pl+sizeP p≤1099511627776→0≤d→d≤13→RP w A p m →
  Calls Tryz.prog 70 #[PV p m,.int .i64 pl,.int .i64 d] w fun e w'=>e=.returned (.tuple #[.int .i64 (chkP pl d p).1,.int .i64 (chkP pl d p).2])∧Below w.heap.size w w':=by
 induction N with
 | zero=>intro p;have:=sizeP_pos p;intros;omega
 | succ N ih=>
  rintro p w A ⟨ma,mc,mb,md⟩ pl d hN ox hp0 hp1 hd0 hd1 hl
  have IH:=hid ih
  have HL:=hid (RP_iff.1 hl).2
  have HP:=hid hl
  have OX:=hid ox
  obtain ⟨⟨x1,x2⟩,ov,⟨x3,x4⟩,x5,oa⟩:=okP_iff.1 ox
  have O:=hid oa
  have hse:=sizeP_eq p
  have hsv:=sizeV_pos p.v
  clear ih hl ox oa ov
  rw [chkP_eq]
  by_cases hd:12 < d
  ·rw [if_pos hd]
   go_enter Tryz.func70,Tryz.ntmps70
   go_wp2_with fail
   go_ret2
   exact ⟨rfl,Below.z⟩
  rw [if_neg hd]
  have hsz:sizeP p≤1099511627776:=by omega
  by_cases hn:nodeP p=0
  case neg=>
   rw [if_pos hn]
   have hn':(nodeP p != 0)=true:=by simp [hn]
   clear hn
   go_enter Tryz.func70,Tryz.ntmps70
   go_wp2_with (go_at_call 102;refine (r17node_any p A ⟨ma,mc,mb,md⟩ _ OX.out hsz (by exact RP.ext (Agree.below Below.z) _ _ HP.out)).mono ?_;rintro e w1 ⟨rfl,hb⟩;have hB1:=hb;clear hb;obtain ⟨hc1,hf1⟩:=bcells hB1)
   go_ret2
   exact ⟨rfl,Below.z⟩
  rw [if_neg (by simp [hn])]
  have HN:=hid hn
  have hn':(nodeP p != 0)=false:=by simp [hn]
  clear hn
  generalize hF:chkPs (pl+1) (d+1) p.a=F
  have HF:=hid hF
  clear hF
  go_enter Tryz.func70,Tryz.ntmps70
  go_wp2_with (go_at_call 102;refine (r17node_any p A ⟨ma,mc,mb,md⟩ _ OX.out hsz (by exact RP.ext (Agree.below Below.z) _ _ HP.out)).mono ?_;rintro e w1 ⟨rfl,hb⟩;have hB1:=hb;clear hb;obtain ⟨hc1,hf1⟩:=bcells hB1)
  go_loopg [1,8,9] (p.a.length) (fun gk t1 t8 i wr=>∃j:Nat,gk+j=p.a.length∧i=.int .i64 j∧t1=.int .i64 (chkPs (pl+1) (d+1) (p.a.take j)).1∧t8=.int .i64 0∧Hid ((chkPs (pl+1) (d+1) (p.a.take j)).2=0)∧Below w.heap.size w wr∧w.heap.size < wr.heap.size∧wr.cell? ⟨w.heap.size,5,none⟩=some (.slice mb p.a.length md))
  case atStart=>exact ⟨0,by omega,rfl,by simp [chkPs],by rw [HN.out],by simp [chkPs,Hid],Below.z,by have:=hB1.size;simp at this;omega,(hB1.cell so).trans (by go_simp)⟩
  case round=>
   obtain ⟨j,hj,rfl,rfl,rfl,HZ,hb,hz,hcell⟩:=hrel
   by_cases hlt:j < p.a.length
   ·obtain ⟨b,o,mj,rfl,hA,hbs,g0,gx⟩:=HL.out.get j hlt
    obtain ⟨k0,k1,k2,k3,k4,k5⟩:=At6.1 (g0.ext (Agree.below hb) (A:=fun _=>True) trivial)
    have hs1:b < wr.heap.size:=by omega
    have hq:=chkPs_place (p.a.take j) (pl+1) (d+1)
    have hq1:=sizePs_take p.a j
    have hq2:=sizePs_take_succ p.a j hlt
    have hq3:=sizePs_take p.a (j+1)
    have hst:=chkPs_take (pl+1) (d+1) p.a j hlt HZ.out
    have HST:=hid hst
    clear hst g0
    generalize hQ:(chkPs (pl+1) (d+1) (p.a.take j)).1=Q at *
    have HQ:=hid hQ
    clear hQ
    go_wp2_with (go_at_call 70;refine (IH.out p.a[j] _ A mj Q (d+1) (by omega) (O.out.get j hlt) (by omega) (by omega) (by omega) (by omega) (by exact RP.ext (Agree.below Below.z) _ _ gx)).mono ?_;rintro e w2 ⟨rfl,hb2⟩)
    all_goals have hbb:Below w.heap.size w w2:=hb.trans (hb2.mono (by omega))
    ·have hne:(chkP Q (d+1) p.a[j]).2≠0:=by simpa using ‹((chkP Q (d+1) p.a[j]).2 != 0)=true›
     go_ret2
     have h1:chkP Q (d+1) p.a[j]=F:=by
      rw [←HF.out,←HST.out];exact (chkPs_stop _ _ _ _ (by rw [HST.out];exact hne)).symm
     exact ⟨ret_ii (congrArg Prod.fst h1) (congrArg Prod.snd h1),hbb⟩
    ·have hne:(chkP Q (d+1) p.a[j]).2=0:=by simpa using ‹((chkP Q (d+1) p.a[j]).2 != 0)=false›
     go_roundg (gk - 1)
     case measure=>omega
     case rel=>exact ⟨j+1,by omega,by go_num,by rw [HST.out],by rw [hne],by rw [HST.out];exact hne,hbb,by have:=hb2.size;omega,(hb2.cell (by simp;omega)).trans hcell⟩
   ·have hjl:j=p.a.length:=by omega
    go_wp2_with fail
    go_ret2
    have h1:chkPs (pl+1) (d+1) (p.a.take j)=F:=by rw [hjl,List.take_length];exact HF.out
    exact ⟨ret_ii (by rw [h1]) (by rw [←h1,HZ.out]),hb⟩
set_option maxRecDepth 100000 in
set_option maxHeartbeats 1000000 in
theorem r17nodes_any (N:Nat):∀(p:GP) (w:World) (A:Nat→Prop) (m:PA),sizeP p≤N→okP p→sizeP p≤1099511627776→RP w A p m →
  Calls Tryz.prog 71 #[PV p m] w fun e w'=>e=.returned (.int .i64 (nodesP p))∧Below w.heap.size w w':=by
 induction N with
 | zero=>intro p;have:=sizeP_pos p;intros;omega
 | succ N ih=>
  rintro p w A ⟨ma,mc,mb,md⟩ hN ox hs hl
  have IH:=hid ih
  have HL:=hid (RP_iff.1 hl).2
  have HLV:=hid (RV_iff.1 (RP_iff.1 hl).1)
  obtain ⟨⟨x1,x2⟩,ov,⟨x3,x4⟩,x5,oa⟩:=okP_iff.1 ox
  have O:=hid oa
  have OV:=hid ov
  have hse:=sizeP_eq p
  have hsv:sizeV p.v≤1099511627776:=by omega
  have hpos:=sizeV_pos p.v
  clear ih hl ox oa ov
  rw [nodesP_eq]
  obtain ⟨G,hGd⟩:∃G,G=(if hasValueB p.k=true then sizeV p.v else 0):=⟨_,rfl⟩
  rw [←hGd]
  have hGl:G≤sizeV p.v:=by rw [hGd];split<;>omega
  cases h3:(p.k==3)
  all_goals cases h4:(p.k==4)
  all_goals unfold hasValueB at hGd
  all_goals simp only [h3,h4,Bool.or_self,Bool.or_true,Bool.true_or,Bool.or_false,Bool.false_or,if_true,if_false,Bool.false_eq_true,reduceIte] at hGd
  all_goals have HGD:=hid hGd
  all_goals clear hGd
  all_goals go_enter Tryz.func71,Tryz.ntmps71
  all_goals go_wp2_with (go_at_call 94;refine (r14size_any _ p.v _ A ⟨ma,mc⟩ (Nat.le_refl _) hsv OV.out (by exact RVs.ext (Agree.below Below.z) _ _ HLV.out)).mono ?_;rw [←HGD.out];rintro e w1 ⟨rfl,hb1⟩;have hz1:=hb1.size;(try simp at hz1);obtain ⟨hc1,hf1⟩:=bcells hb1)
  all_goals
   go_loopg [3,4] (p.a.length) (fun gk t3 i wr=>∃(j n:Nat),gk+j=p.a.length∧i=.int .i64 j∧t3=.int .i64 n∧Hid (n=1+G+nodesPs (p.a.take j))∧n≤1099511627776∧Below w.heap.size w wr∧w.heap.size < wr.heap.size∧wr.cell? ⟨w.heap.size,5,none⟩=some (.slice mb p.a.length md))
   case atStart=>exact ⟨0,1+G,by omega,rfl,by first|go_num|(have hg0:=HGD.out;subst hg0;rfl),hid (by simp [nodesPs]),by omega,Below.r,by first|(simp;done)|(simp;omega)|omega,by go_simp⟩
   case round=>
    obtain ⟨j,n,hj,rfl,rfl,HE,hn,hb,hz,hcell⟩:=hrel
    by_cases hlt:j < p.a.length
    ·obtain ⟨b,o,mj,rfl,hA,hbs,g0,gx⟩:=HL.out.get j hlt
     obtain ⟨k0,k1,k2,k3,k4,k5⟩:=At6.1 (g0.ext (Agree.below hb) (A:=fun _=>True) trivial)
     have hs1:b < wr.heap.size:=by omega
     have hq1:=sizePs_get p.a j hlt
     have hq2:=nodesPs_take_succ p.a j hlt
     have hq3:=nodesPs_take_le p.a (j+1)
     have hn2:n+nodesP p.a[j]≤1099511627776:=by have:=HE.out;omega
     have hn3:=nodesP_le p.a[j]
     have HQ:=hid hq2
     clear hq2 hq3 g0
     go_wp2_with (go_at_call 71;refine (IH.out p.a[j] _ A mj (by omega) (O.out.get j hlt) (by omega) (by exact RP.ext (Agree.below Below.z) _ _ gx)).mono ?_;rintro e w2 ⟨rfl,hb2⟩)
     have hbb:Below w.heap.size w w2:=hb.trans (hb2.mono (by omega))
     go_roundg (gk - 1)
     case measure=>omega
     case rel=>exact ⟨j+1,n+nodesP p.a[j],by omega,by go_num,by go_num,hid (by have:=HE.out;have:=HQ.out;omega),hn2,hbb,by have:=hb2.size;omega,(hb2.cell (by simp;omega)).trans hcell⟩
    ·have hjl:j=p.a.length:=by omega
     go_wp2_with fail
     go_ret
     exact ⟨ret_int (by have:=HE.out;rw [hjl,List.take_length] at this;omega),hb⟩
set_option maxRecDepth 100000 in
theorem r17checkE_any (p:GP) (w:World) (A:Nat→Prop) (m:PA) (ox:okP p) (hs:sizeP p≤1099511627776) (hl:RP w A p m):
  Calls Tryz.prog 43 #[PV p m] w fun e w'=>e=.returned (.tuple #[.int .i64 (checkPE p).1,.int .i64 (checkPE p).2])∧Below w.heap.size w w':=by
 obtain ⟨ma,mc,mb,md⟩:=m
 have HL:=hid hl
 have OX:=hid ox
 have hnl:=nodesP_le p
 clear hl ox
 unfold checkPE
 by_cases h1:(chkP 0 1 p).2=0
 case neg=>
  have h1':((chkP 0 1 p).2 != 0)=true:=by simp [h1]
  rw [if_pos h1]
  clear h1
  go_enter Tryz.func43,Tryz.ntmps43
  go_wp2_with (go_at_call 70;refine (r17check_any _ p _ A ⟨ma,mc,mb,md⟩ 0 1 (Nat.le_refl _) OX.out (by omega) (by omega) (by omega) (by omega) (by exact RP.ext (Agree.below Below.z) _ _ HL.out)).mono ?_;rintro e w1 ⟨rfl,hb⟩;have hB1:=hb;clear hb;obtain ⟨hc1,hf1⟩:=bcells hB1)
  go_ret2
  exact ⟨rfl,Below.z⟩
 have h1':((chkP 0 1 p).2 != 0)=false:=by simp [h1]
 rw [if_neg (by simp [h1])]
 clear h1
 generalize hF:(if 512 < (nodesP p:Int) then ((0:Int),(5:Int)) else (0,0))=F
 have HF:=hid hF
 clear hF
 go_enter Tryz.func43,Tryz.ntmps43
 go_wp2_with (first
  | (go_at_call 70;refine (r17check_any _ p _ A ⟨ma,mc,mb,md⟩ 0 1 (Nat.le_refl _) OX.out (by omega) (by omega) (by omega) (by omega) (by exact RP.ext (Agree.below Below.z) _ _ HL.out)).mono ?_;rintro e w1 ⟨rfl,hb⟩;have hB1:=hb;clear hb;obtain ⟨hc1,hf1⟩:=bcells hB1)
  | (go_at_call 71;refine (r17nodes_any _ p _ A ⟨ma,mc,mb,md⟩ (Nat.le_refl _) OX.out hs (by exact RP.ext (Agree.below Below.z) _ _ HL.out)).mono ?_;rintro e w2 ⟨rfl,hb⟩;have hB2:=Below.trans hB1 (Below.mono hb (Below.size hB1));clear hb;obtain ⟨hc2,hf2⟩:=bcells hB2))
 all_goals go_ret2
 all_goals refine ⟨?_,Below.z⟩
 all_goals rw [←HF.out]
 ·rw [if_pos (by assumption)];rfl
 ·rw [if_neg (by omega)];rfl
set_option maxRecDepth 100000 in
set_option maxHeartbeats 1000000 in
theorem r11wrong_any (l:List Int) (w:World) (A:Nat→Prop) (a:Option Addr) (cp:Nat) (hlen:l.length≤1048576) (ol:okIs l) (hl:RIs w A l a):
  Calls Tryz.prog 192 #[.slice a l.length cp] w fun e w'=>e=.returned (.int .i64 (freqE l))∧Below w.heap.size w w':=by
 have HL:=hid hl
 have O:=hid ol
 clear hl ol
 by_cases h0:l.length=0
 ·have hF:freqE l=4:=by unfold freqE;rw [if_pos h0]
  have h0':((l.length:Int)==0)=true:=by simp [h0]
  rw [hF]
  clear hF h0
  go_enter Tryz.func192,Tryz.ntmps192
  go_wp2_with fail
  go_ret
  exact ⟨rfl,Below.r⟩
 have h0':((l.length:Int)==0)=false:=beq_eq_false_iff_ne.2 (by omega)
 by_cases h6:64 < l.length
 ·have hF:freqE l=5:=by unfold freqE;rw [if_neg h0,if_pos h6]
  rw [hF]
  clear hF h0
  go_enter Tryz.func192,Tryz.ntmps192
  go_wp2_with fail
  go_ret
  exact ⟨rfl,Below.r⟩
 have hF:freqE l=freqLoop 0 l:=by unfold freqE;rw [if_neg h0,if_neg h6]
 rw [hF]
 clear hF
 generalize hF:freqLoop 0 l=F
 have HF:=hid hF
 clear hF
 clear h0
 go_enter Tryz.func192,Tryz.ntmps192
 go_wp2_with fail
 go_loopg [3,4] (l.length) (fun gk t3 i wr=>∃(j:Nat) (S:Int),gk+j=l.length∧i=.int .i64 j∧t3=.int .i64 S∧0≤S∧S≤1048576*j∧Hid (freqLoop S (l.drop j)=F)∧w=wr)
 case atStart=>exact ⟨0,0,by omega,rfl,rfl,by omega,by omega,hid (by rw [List.drop_zero];exact HF.out),rfl⟩
 case round=>
  obtain ⟨j,S,hj,rfl,rfl,hS0,hS1,HE,rfl⟩:=hrel
  by_cases hlt:j < l.length
  ·obtain ⟨b,o,rfl,hA,hbs,g0⟩:=HL.out.get j hlt
   obtain ⟨i1,i2⟩:=O.out.get j hlt
   have hst:=HE.out
   rw [List.drop_eq_getElem_cons hlt,freqLoop] at hst
   by_cases hlo:l[j] < 0
   ·rw [if_pos (.inl hlo)] at hst
    have HST:=hid hst
    clear hst
    go_wp2_with fail
    go_ret
    exact ⟨ret_int HST.out,Below.r⟩
   ·by_cases hhi:1048576 < l[j]
    ·rw [if_pos (.inr hhi)] at hst
     have HST:=hid hst
     clear hst
     go_wp2_with fail
     go_ret
     exact ⟨ret_int HST.out,Below.r⟩
    ·rw [if_neg (by omega)] at hst
     have HST:=hid hst
     clear hst
     go_wp2_with fail
     go_roundg (gk - 1)
     case measure=>omega
     case rel=>exact ⟨j+1,S+l[j],by omega,by go_num,rfl,by omega,by omega,HST,rfl⟩
  ·have hjl:j=l.length:=by omega
   have hst:=HE.out
   rw [hjl,List.drop_length,freqLoop] at hst
   by_cases hz:S=0
   ·rw [if_pos hz] at hst
    have hz':(S==0)=true:=by simp [hz]
    have HST:=hid hst
    clear hst hz hjl
    go_wp2_with fail
    go_ret
    exact ⟨ret_int HST.out,Below.r⟩
   ·rw [if_neg hz] at hst
    have hz':(S==0)=false:=by simp [hz]
    have HST:=hid hst
    clear hst hz hjl
    go_wp2_with fail
    go_ret
    exact ⟨ret_int HST.out,Below.r⟩
theorem r19ends_x (t:GT) (m:TA) (w:World) (ox:okT t) (h2:(t.k==2)=false) (h6:(t.k==6)=false) (h8:(t.k==8)=false) (h10:(t.k==10)=false):
  Calls Tryz.prog 140 #[TV t m] w fun e w'=>e=.returned (.int .i64 (endsE t))∧Below w.heap.size w w':=by
 obtain ⟨⟨x1,x2⟩,ov,⟨ovl,_⟩,⟨l1,l2⟩,⟨l3,l4⟩,⟨owl,_⟩,op,oal,oa⟩:=okT_iff.1 ox
 obtain ⟨ma,mb,mc,md,me,mf,mg,mh,mi,mj,mk,ml⟩:=m
 have hF:endsE t=if t.lo=0∧t.hi=0 then 0 else 3:=by
  unfold endsE
  rw [if_neg (by simpa using h2),if_neg (by simpa using h6),if_neg (by simpa using h8),if_neg (by simpa using h10)]
 rw [hF]
 clear ox ov oa op hF
 by_cases a:t.lo=0
 ·by_cases b:t.hi=0
  ·rw [if_pos ⟨a,b⟩]
   have a':(t.lo != 0)=false:=by simp [a]
   have b':(t.hi != 0)=false:=by simp [b]
   clear a b
   go_enter Tryz.func140,Tryz.ntmps140
   go_wp2_with fail
   go_ret
   exact ⟨rfl,Below.r⟩
  ·rw [if_neg (fun h=>b h.2)]
   have a':(t.lo != 0)=false:=by simp [a]
   have b':(t.hi != 0)=true:=by simp [b]
   clear a b
   go_enter Tryz.func140,Tryz.ntmps140
   go_wp2_with fail
   go_ret
   exact ⟨rfl,Below.r⟩
 ·rw [if_neg (fun h=>a h.1)]
  have a':(t.lo != 0)=true:=by simp [a]
  clear a
  go_enter Tryz.func140,Tryz.ntmps140
  go_wp2_with fail
  go_ret
  exact ⟨rfl,Below.r⟩
set_option maxRecDepth 100000 in
set_option maxHeartbeats 4000000 in
theorem r19ends_any (t:GT) (m:TA) (w:World) (ox:okT t):
  Calls Tryz.prog 140 #[TV t m] w fun e w'=>e=.returned (.int .i64 (endsE t))∧Below w.heap.size w w':=by
 by_cases hk:t.k=2∨t.k=6∨t.k=8∨t.k=10
 case neg=>exact r19ends_x t m w ox (beq_eq_false_iff_ne.2 (by omega)) (beq_eq_false_iff_ne.2 (by omega)) (beq_eq_false_iff_ne.2 (by omega)) (beq_eq_false_iff_ne.2 (by omega))
 obtain ⟨k,v,vs,lo,hi,ws,p,l⟩:=t
 obtain ⟨⟨x1,x2⟩,ov,⟨ovl,_⟩,⟨l1,l2⟩,⟨l3,l4⟩,⟨owl,_⟩,op,oal,oa⟩:=okT_iff.1 ox
 obtain ⟨ma,mb,mc,md,me,mf,mg,mh,mi,mj,mk,ml⟩:=m
 dsimp only at hk x1 x2 l1 l2 l3 l4 oal
 clear ox ov oa op ovl owl
 rcases hk with rfl|rfl|rfl|rfl
 all_goals
  generalize hF:endsE _=F
  have HF:=hid hF
  clear hF
  go_enter Tryz.func140,Tryz.ntmps140
  go_wp2_with fail
  all_goals go_ret
  all_goals refine ⟨ret_int ?_,Below.r⟩
  all_goals rw [←HF.out]
  all_goals unfold endsE withinB
  all_goals first|(simp;omega)|(simp [*];done)|(simp_all;done)|(simp_all;omega)|(first|rfl|omega|((try simp only [beq_iff_eq,beq_eq_false_iff_ne,bne_iff_ne,bne_eq_false_iff_eq,decide_eq_true_eq,decide_eq_false_iff_not,ne_eq,Bool.and_eq_true,Bool.or_eq_true,Bool.and_eq_false_iff,Bool.or_eq_false_iff,Bool.not_eq_true',Bool.not_eq_false'] at *);(repeat' split)<;>first|rfl|omega|contradiction|(simp_all;done)|(simp_all;omega)))
def hasE (t:GT):Int:=if valuesE t≠0 then valuesE t else weightsE t
def headE (t:GT):Int:=if t.k=1 then checkV t.v else if noneV t.v=true then 0 else 3
theorem valuesE_head (t:GT):valuesE t=if headE t≠0 then headE t else restV t:=by
 unfold valuesE headE
 split
 ·rfl
 ·split
  ·simp
  ·simp
set_option maxRecDepth 100000 in
set_option maxHeartbeats 2000000 in
theorem r19has_head (t:GT) (A:Nat→Prop) (m:TA) (w:World) (ox:okT t) (hs:sizeT t≤1099511627776) (hl:RT w A t m) (h:headE t≠0):
  Calls Tryz.prog 139 #[TV t m] w fun e w'=>e=.returned (.int .i64 (headE t))∧Below w.heap.size w w':=by
 obtain ⟨x1,ov,⟨ovl,ovs⟩,l1,l2,⟨owl,ow⟩,op,oal,oa⟩:=okT_iff.1 ox
 obtain ⟨v1,v2,v3,_⟩:=okV_iff.1 ov
 obtain ⟨ma,mb,mc,md,me,mf,mg,mh,mi,mj,mk,ml⟩:=m
 have HV:=hid (And.intro v1 (And.intro v2 v3))
 have OV:=hid ov
 have HLV:=hid (RV_iff.1 (RT_iff.1 hl).1)
 have hse:=sizeT_eq t
 have hsv:sizeV t.v≤1099511627776:=by omega
 clear ox ov ovs ow op oa v1 v2 v3 hl hse
 by_cases hk:t.k=1
 ·have hF:headE t=checkV t.v:=by unfold headE;rw [if_pos hk]
  rw [hF] at h ⊢
  have h':(checkV t.v != 0)=true:=by simp [h]
  have hk':(t.k==1)=true:=by simp [hk]
  clear hF h hk
  go_enter Tryz.func139,Tryz.ntmps139
  go_wp2_with (go_at_call 154;refine (r14check_any t.v _ A ⟨ma,mb⟩ OV.out hsv (by exact RVs.ext (Agree.below Below.z) _ _ HLV.out)).mono ?_;rintro e w1 ⟨rfl,hb⟩;have hB1:=hb;clear hb;obtain ⟨hc1,hf1⟩:=bcells hB1)
  go_ret
  exact ⟨rfl,Below.r⟩
 ·have hn:noneV t.v=false:=by
   cases hn:noneV t.v
   ·rfl
   ·unfold headE at h;rw [if_neg hk,if_pos hn] at h;exact absurd rfl h
  have hF:headE t=3:=by unfold headE;rw [if_neg hk,if_neg (by simp [hn])]
  rw [hF]
  have hk':(t.k==1)=false:=by simp [hk]
  have HN:=hid hn
  clear hF h hk hn
  go_enter Tryz.func139,Tryz.ntmps139
  go_wp2_with (go_at_call 190;refine (r19none_any t.v ⟨ma,mb⟩ _ HV.out).mono ?_;rw [HN.out];rintro e w1 ⟨rfl,hb⟩;have hB1:=hb;clear hb)
  go_ret
  exact ⟨rfl,Below.r⟩
theorem wE1 {t:GT} (h:(t.k==9)=false) (hn:nothingP t.p=false):weightsE t=3:=by
 unfold weightsE;rw [if_neg (by simpa using h),if_neg (by simp [hn])]
theorem wE2 {t:GT} (h:(t.k==9)=false) (hn:nothingP t.p=true):weightsE t=restW t:=by
 unfold weightsE;rw [if_neg (by simpa using h),if_pos hn]
theorem wE3 {t:GT} (h:(t.k==9)=true) (hn:(checkPE t.p).2≠0):weightsE t=(checkPE t.p).2:=by
 unfold weightsE;rw [if_pos (by simpa using h),if_pos hn]
theorem wE4 {t:GT} (h:(t.k==9)=true) (hn:(checkPE t.p).2=0):weightsE t=restW t:=by
 unfold weightsE;rw [if_pos (by simpa using h),if_neg (by simp [hn])]
theorem rW1 {t:GT} (h:(t.k==3)=true∨(t.k==4)=true):restW t=freqE t.w:=by
 unfold restW;rw [if_neg]
 simp at h
 omega
theorem rW2 {t:GT} (h3:(t.k==3)=false) (h4:(t.k==4)=false) (h:t.w.length=0):restW t=0:=by
 simp at h3 h4
 unfold restW;rw [if_pos ⟨h3,h4⟩,if_pos (by omega)]
theorem rW3 {t:GT} (h3:(t.k==3)=false) (h4:(t.k==4)=false) (h:¬t.w.length=0):restW t=3:=by
 simp at h3 h4
 unfold restW;rw [if_pos ⟨h3,h4⟩,if_neg (by omega)]
set_option maxRecDepth 100000 in
set_option maxHeartbeats 4000000 in
theorem r19has_rest (t:GT) (A:Nat→Prop) (m:TA) (w:World) (ox:okT t) (hs:sizeT t≤1099511627776) (hl:RT w A t m) (h:headE t=0) (h4:t.k=4∨t.vs.length=0):
  Calls Tryz.prog 139 #[TV t m] w fun e w'=>e=.returned (.int .i64 (if firstVs t.vs≠0 then firstVs t.vs else weightsE t))∧Below w.heap.size w w':=by
 obtain ⟨x1,ov,⟨ovl,ovs⟩,l1,l2,⟨owl,ow⟩,op,oal,oa⟩:=okT_iff.1 ox
 obtain ⟨v1,v2,v3,_⟩:=okV_iff.1 ov
 obtain ⟨ma,mb,mc,md,me,mf,mg,mh,mi,mj,mk,ml⟩:=m
 obtain ⟨r1,r2,r3,r4,r5⟩:=RT_iff.1 hl
 have HV:=hid (And.intro v1 (And.intro v2 v3))
 have OV:=hid ov
 have OVS:=hid ovs
 have OW:=hid ow
 have OP:=hid op
 have HLV:=hid (RV_iff.1 r1)
 have HVS:=hid r2
 have HWS:=hid r3
 have HPS:=hid r4
 have hse:=sizeT_eq t
 have hsv:sizeV t.v≤1099511627776:=by omega
 have hsp:sizeP t.p≤1099511627776:=by omega
 have hsvs:sizeVs t.vs≤1099511627776:=by omega
 generalize hF:(if firstVs t.vs≠0 then firstVs t.vs else weightsE t)=F
 have HF:=hid hF
 clear hF
 have h4':(t.k != 4)=true→(0:Int) < (t.vs.length:Int)→False:=fun a b=>by
  rcases h4 with h4|h4
  ·simp [h4] at a
  ·omega
 have H4:=hid h4
 clear ox ov ovs ow op oa v1 v2 v3 hl hse r1 r2 r3 r4 r5 h4
 have key:∀(b1 b4:Bool),(t.k==1)=b1→(t.k != 4)=b4→(b4=true→decide (0 < t.vs.length)=false) →
  Calls Tryz.prog 139 #[TV t ⟨ma,mb,mc,md,me,mf,mg,mh,mi,mj,mk,ml⟩] w fun e w'=>e=.returned (.int .i64 F)∧Below w.heap.size w w':=by
  intro b1 b4 hb1 hb4 hvl
  have hcv:b1=true→checkV t.v=0:=fun e=>by
   subst e
   have hk:t.k=1:=by simpa using hb1
   unfold headE at h;rw [if_pos hk] at h;exact h
  have hnv:b1=false→noneV t.v=true:=fun e=>by
   subst e
   have hk:¬t.k=1:=by simpa using hb1
   unfold headE at h;rw [if_neg hk] at h
   cases hn:noneV t.v
   ·rw [hn] at h;simp at h
   ·rfl
  have hb4':b4=false→True:=fun _=>trivial
  clear h
  cases b1
  all_goals cases b4
  all_goals (try have hvd:=hvl rfl)
  all_goals (try have HN:=hid (hnv rfl))
  all_goals (try have HC:=hid (hcv rfl))
  all_goals clear hcv hnv hvl hb4' h4'
  all_goals
   go_enter Tryz.func139,Tryz.ntmps139
   go_wp2_with (first
    | (go_at_call 190;refine (r19none_any t.v ⟨ma,mb⟩ _ HV.out).mono ?_;rw [HN.out];rintro e w1 ⟨rfl,hbx⟩;have hB1:=hbx;clear hbx;obtain ⟨hc1,hf1⟩:=bcells hB1)
    | (go_at_call 154;refine (r14check_any t.v _ A ⟨ma,mb⟩ OV.out hsv (by exact RVs.ext (Agree.below Below.z) _ _ HLV.out)).mono ?_;rw [HC.out];rintro e w1 ⟨rfl,hbx⟩;have hB1:=hbx;clear hbx;obtain ⟨hc1,hf1⟩:=bcells hB1))
   have hz1:=hB1.size
   simp at hz1
   have hbw1:Below w.heap.size w w1:=Below.r
   have HB1:Hid (At w1 w.heap.size 0 [.int .u8 t.k,.int .u8 t.v.k,.int .i64 t.v.n,.slice ma t.v.l.length mb,.slice mc t.vs.length md,.int .i64 t.lo,.int .i64 t.hi,.slice me t.w.length mf,.int .u8 t.p.k,.int .u8 t.p.v.k,.int .i64 t.p.v.n,.slice mg t.p.v.l.length mh,.int .i64 t.p.n,.slice mi t.p.a.length mj,.slice mk t.a.length ml]):=hid (At15z.2 ⟨(hB1.cell so).trans (by go_simp),(hB1.cell so).trans (by go_simp),(hB1.cell so).trans (by go_simp),(hB1.cell so).trans (by go_simp),(hB1.cell so).trans (by go_simp),(hB1.cell so).trans (by go_simp),(hB1.cell so).trans (by go_simp),(hB1.cell so).trans (by go_simp),(hB1.cell so).trans (by go_simp),(hB1.cell so).trans (by go_simp),(hB1.cell so).trans (by go_simp),(hB1.cell so).trans (by go_simp),(hB1.cell so).trans (by go_simp),(hB1.cell so).trans (by go_simp),(hB1.cell so).trans (by go_simp)⟩)
   go_loopg [4] (t.vs.length) (fun gk i wr=>∃j:Nat,gk+j=t.vs.length∧i=.int .i64 j∧Hid (∀q (h:q < t.vs.length),q < j→checkV t.vs[q]=0)∧Below w1.heap.size w1 wr)
   case atStart=>exact ⟨0,by omega,rfl,hid (fun q h hq=>absurd hq (by omega)),Below.refl _ _⟩
   case round=>
    obtain ⟨j,hj,rfl,HZ,hbr⟩:=hrel
    have hzr:=hbr.size
    have hbw:Below w.heap.size w wr:=hbw1.trans (hbr.mono (by omega))
    have u0:w.heap.size < wr.heap.size:=by omega
    obtain ⟨c0,c1,c2,c3,c4,c5,c6,c7,c8,c9,ca,cb,cc,cd,ce⟩:=At15z.1 (At.ext (Agree.below hbr) (A:=fun _=>True) trivial _ _ HB1.out)
    by_cases hlt:j < t.vs.length
    ·obtain ⟨b,o,mj',rfl,hA,hbs,g0,gx⟩:=HVS.out.get j hlt
     obtain ⟨k0,k1,k2⟩:=At3.1 (g0.ext (Agree.below hbw) (A:=fun _=>True) trivial)
     have hs1:b < wr.heap.size:=by omega
     have hq1:=sizeVs_get t.vs j hlt
     clear g0
     by_cases hc:checkV t.vs[j]=0
     ·have hc':(checkV t.vs[j] != 0)=false:=by simp [hc]
      have HCJ:=hid hc
      clear hc
      go_wp2_with (go_at_call 154;refine (r14check_any t.vs[j] _ A mj' (OVS.out.get j hlt) (by omega) (by exact RVs.ext (Agree.below Below.r) _ _ (RV_iff.1 gx))).mono ?_;rintro e w2 ⟨rfl,hb2⟩)
      go_roundg (gk - 1)
      case measure=>omega
      case rel=>exact ⟨j+1,by omega,by go_num,hid (fun q h hq=>by
       by_cases hqj:q=j
       ·subst hqj;exact HCJ.out
       ·exact HZ.out q h (by omega)),hbr.trans (hb2.mono (by omega))⟩
     ·have hc':(checkV t.vs[j] != 0)=true:=by simp [hc]
      have hfv:=firstVs_get t.vs j hlt (fun q h hq=>HZ.out q h hq) hc
      have HFV:=hid (show F=checkV t.vs[j] by rw [←HF.out,hfv,if_pos hc])
      clear hc hfv
      go_wp2_with (go_at_call 154;refine (r14check_any t.vs[j] _ A mj' (OVS.out.get j hlt) (by omega) (by exact RVs.ext (Agree.below Below.r) _ _ (RV_iff.1 gx))).mono ?_;rintro e w2 ⟨rfl,hb2⟩)
      go_ret
      exact ⟨ret_int HFV.out.symm,hbw.trans (hb2.mono (by omega))⟩
    ·have hFW:weightsE t=F:=by
      rw [←HF.out,firstVs_zero t.vs fun q h=>HZ.out q h (by omega),if_neg (by simp)]
     have HFW:=hid hFW
     clear hFW
     cases k9:(t.k==9)
     ·cases hnp:nothingP t.p
      ·have HNP:=hid hnp
       have HFF:=hid ((wE1 k9 hnp).symm.trans HFW.out)
       clear hnp
       go_wp2_with (go_at_call 191;refine (r17nothing_any t.p ⟨mg,mh,mi,mj⟩ _ OP.out).mono ?_;rw [HNP.out];rintro e w2 ⟨rfl,hb2⟩;have hz2:=hb2.size;obtain ⟨hc2,hf2⟩:=bcells hb2;have u2:w.heap.size < w2.heap.size:=(by omega))
       go_ret
       exact ⟨ret_int HFF.out,Below.r⟩
      ·have HNP:=hid hnp
       have HRW:=hid ((wE2 k9 hnp).symm.trans HFW.out)
       clear hnp
       cases k3:(t.k==3)
       ·cases k4:(t.k==4)
        ·by_cases hw0:t.w.length=0
         ·have HFF:=hid ((rW2 k3 k4 hw0).symm.trans HRW.out)
          have hwd:decide (0 < t.w.length)=false:=by simp [hw0]
          clear hw0
          go_wp2_with (go_at_call 191;refine (r17nothing_any t.p ⟨mg,mh,mi,mj⟩ _ OP.out).mono ?_;rw [HNP.out];rintro e w2 ⟨rfl,hb2⟩;have hz2:=hb2.size;obtain ⟨hc2,hf2⟩:=bcells hb2;have u2:w.heap.size < w2.heap.size:=(by omega))
          go_ret
          exact ⟨ret_int HFF.out,Below.r⟩
         ·have HFF:=hid ((rW3 k3 k4 hw0).symm.trans HRW.out)
          have hwd:decide (0 < t.w.length)=true:=decide_eq_true (by omega)
          clear hw0
          go_wp2_with (go_at_call 191;refine (r17nothing_any t.p ⟨mg,mh,mi,mj⟩ _ OP.out).mono ?_;rw [HNP.out];rintro e w2 ⟨rfl,hb2⟩;have hz2:=hb2.size;obtain ⟨hc2,hf2⟩:=bcells hb2;have u2:w.heap.size < w2.heap.size:=(by omega))
          go_ret
          exact ⟨ret_int HFF.out,Below.r⟩
        ·have HFF:=hid ((rW1 (.inr k4)).symm.trans HRW.out)
         go_wp2_with (first|(go_at_call 191;refine (r17nothing_any t.p ⟨mg,mh,mi,mj⟩ _ OP.out).mono ?_;rw [HNP.out];rintro e w2 ⟨rfl,hb2⟩;have hz2:=hb2.size;obtain ⟨hc2,hf2⟩:=bcells hb2;have u2:w.heap.size < w2.heap.size:=(by omega))|(go_at_call 192;refine (r11wrong_any t.w _ A me mf owl OW.out (by exact RIs.ext (Agree.below Below.r) _ _ HWS.out)).mono ?_;rintro e w3 ⟨rfl,hb3⟩))
         go_ret
         exact ⟨ret_int HFF.out,Below.r⟩
       ·have HFF:=hid ((rW1 (.inl k3)).symm.trans HRW.out)
        go_wp2_with (first|(go_at_call 191;refine (r17nothing_any t.p ⟨mg,mh,mi,mj⟩ _ OP.out).mono ?_;rw [HNP.out];rintro e w2 ⟨rfl,hb2⟩;have hz2:=hb2.size;obtain ⟨hc2,hf2⟩:=bcells hb2;have u2:w.heap.size < w2.heap.size:=(by omega))|(go_at_call 192;refine (r11wrong_any t.w _ A me mf owl OW.out (by exact RIs.ext (Agree.below Below.r) _ _ HWS.out)).mono ?_;rintro e w3 ⟨rfl,hb3⟩))
        go_ret
        exact ⟨ret_int HFF.out,Below.r⟩
     ·by_cases hcp:(checkPE t.p).2=0
      ·have hcp':((checkPE t.p).2 != 0)=false:=by simp [hcp]
       have HRW:=hid ((wE4 k9 hcp).symm.trans HFW.out)
       clear hcp
       cases k3:(t.k==3)
       ·cases k4:(t.k==4)
        ·by_cases hw0:t.w.length=0
         ·have HFF:=hid ((rW2 k3 k4 hw0).symm.trans HRW.out)
          have hwd:decide (0 < t.w.length)=false:=by simp [hw0]
          clear hw0
          go_wp2_with (go_at_call 43;refine (r17checkE_any t.p _ A ⟨mg,mh,mi,mj⟩ OP.out hsp (by exact RP.ext (Agree.below Below.r) _ _ HPS.out)).mono ?_;rintro e w2 ⟨rfl,hb2⟩;have hz2:=hb2.size;obtain ⟨hc2,hf2⟩:=bcells hb2;have u2:w.heap.size < w2.heap.size:=(by omega))
          go_ret
          exact ⟨ret_int HFF.out,Below.r⟩
         ·have HFF:=hid ((rW3 k3 k4 hw0).symm.trans HRW.out)
          have hwd:decide (0 < t.w.length)=true:=decide_eq_true (by omega)
          clear hw0
          go_wp2_with (go_at_call 43;refine (r17checkE_any t.p _ A ⟨mg,mh,mi,mj⟩ OP.out hsp (by exact RP.ext (Agree.below Below.r) _ _ HPS.out)).mono ?_;rintro e w2 ⟨rfl,hb2⟩;have hz2:=hb2.size;obtain ⟨hc2,hf2⟩:=bcells hb2;have u2:w.heap.size < w2.heap.size:=(by omega))
          go_ret
          exact ⟨ret_int HFF.out,Below.r⟩
        ·have HFF:=hid ((rW1 (.inr k4)).symm.trans HRW.out)
         go_wp2_with (first|(go_at_call 43;refine (r17checkE_any t.p _ A ⟨mg,mh,mi,mj⟩ OP.out hsp (by exact RP.ext (Agree.below Below.r) _ _ HPS.out)).mono ?_;rintro e w2 ⟨rfl,hb2⟩;have hz2:=hb2.size;obtain ⟨hc2,hf2⟩:=bcells hb2;have u2:w.heap.size < w2.heap.size:=(by omega))|(go_at_call 192;refine (r11wrong_any t.w _ A me mf owl OW.out (by exact RIs.ext (Agree.below Below.r) _ _ HWS.out)).mono ?_;rintro e w3 ⟨rfl,hb3⟩))
         go_ret
         exact ⟨ret_int HFF.out,Below.r⟩
       ·have HFF:=hid ((rW1 (.inl k3)).symm.trans HRW.out)
        go_wp2_with (first|(go_at_call 43;refine (r17checkE_any t.p _ A ⟨mg,mh,mi,mj⟩ OP.out hsp (by exact RP.ext (Agree.below Below.r) _ _ HPS.out)).mono ?_;rintro e w2 ⟨rfl,hb2⟩;have hz2:=hb2.size;obtain ⟨hc2,hf2⟩:=bcells hb2;have u2:w.heap.size < w2.heap.size:=(by omega))|(go_at_call 192;refine (r11wrong_any t.w _ A me mf owl OW.out (by exact RIs.ext (Agree.below Below.r) _ _ HWS.out)).mono ?_;rintro e w3 ⟨rfl,hb3⟩))
        go_ret
        exact ⟨ret_int HFF.out,Below.r⟩
      ·have hcp':((checkPE t.p).2 != 0)=true:=by simp [hcp]
       have HFF:=hid ((wE3 k9 hcp).symm.trans HFW.out)
       clear hcp
       go_wp2_with (go_at_call 43;refine (r17checkE_any t.p _ A ⟨mg,mh,mi,mj⟩ OP.out hsp (by exact RP.ext (Agree.below Below.r) _ _ HPS.out)).mono ?_;rintro e w2 ⟨rfl,hb2⟩;have hz2:=hb2.size;obtain ⟨hc2,hf2⟩:=bcells hb2;have u2:w.heap.size < w2.heap.size:=(by omega))
       go_ret
       exact ⟨ret_int HFF.out,Below.r⟩
 exact key _ _ rfl rfl fun a=>decide_eq_false fun b=>h4' a (by omega)
set_option maxRecDepth 100000 in
set_option maxHeartbeats 2000000 in
theorem r19has_vs (t:GT) (A:Nat→Prop) (m:TA) (w:World) (ox:okT t) (hs:sizeT t≤1099511627776) (hl:RT w A t m) (h:headE t=0) (h4:¬t.k=4) (h5:¬t.vs.length=0):
  Calls Tryz.prog 139 #[TV t m] w fun e w'=>e=.returned (.int .i64 3)∧Below w.heap.size w w':=by
 obtain ⟨x1,ov,⟨ovl,ovs⟩,l1,l2,⟨owl,ow⟩,op,oal,oa⟩:=okT_iff.1 ox
 obtain ⟨v1,v2,v3,_⟩:=okV_iff.1 ov
 obtain ⟨ma,mb,mc,md,me,mf,mg,mh,mi,mj,mk,ml⟩:=m
 have HV:=hid (And.intro v1 (And.intro v2 v3))
 have OV:=hid ov
 have HLV:=hid (RV_iff.1 (RT_iff.1 hl).1)
 have hse:=sizeT_eq t
 have hsv:sizeV t.v≤1099511627776:=by omega
 have b4:(t.k != 4)=true:=by simp [h4]
 have hvd:decide (0 < t.vs.length)=true:=decide_eq_true (by omega)
 clear ox ov ovs ow op oa v1 v2 v3 hl hse h4 h5
 by_cases hk:t.k=1
 ·have hc:checkV t.v=0:=by unfold headE at h;rw [if_pos hk] at h;exact h
  have HC:=hid hc
  have hk':(t.k==1)=true:=by simp [hk]
  clear h hk hc
  go_enter Tryz.func139,Tryz.ntmps139
  go_wp2_with (go_at_call 154;refine (r14check_any t.v _ A ⟨ma,mb⟩ OV.out hsv (by exact RVs.ext (Agree.below Below.z) _ _ HLV.out)).mono ?_;rw [HC.out];rintro e w1 ⟨rfl,hbx⟩;have hB1:=hbx;clear hbx;obtain ⟨hc1,hf1⟩:=bcells hB1)
  go_ret
  exact ⟨rfl,Below.r⟩
 ·have hn:noneV t.v=true:=by
   unfold headE at h;rw [if_neg hk] at h
   cases hn:noneV t.v
   ·rw [hn] at h;simp at h
   ·rfl
  have HN:=hid hn
  have hk':(t.k==1)=false:=by simp [hk]
  clear h hk hn
  go_enter Tryz.func139,Tryz.ntmps139
  go_wp2_with (go_at_call 190;refine (r19none_any t.v ⟨ma,mb⟩ _ HV.out).mono ?_;rw [HN.out];rintro e w1 ⟨rfl,hbx⟩;have hB1:=hbx;clear hbx;obtain ⟨hc1,hf1⟩:=bcells hB1)
  go_ret
  exact ⟨rfl,Below.r⟩
theorem r19has_any (t:GT) (A:Nat→Prop) (m:TA) (w:World) (ox:okT t) (hs:sizeT t≤1099511627776) (hl:RT w A t m):
  Calls Tryz.prog 139 #[TV t m] w fun e w'=>e=.returned (.int .i64 (hasE t))∧Below w.heap.size w w':=by
 by_cases h:headE t=0
 case neg=>
  have hF:hasE t=headE t:=by unfold hasE;rw [valuesE_head,if_pos h,if_pos h]
  rw [hF]
  exact r19has_head t A m w ox hs hl h
 have hV:valuesE t=restV t:=by rw [valuesE_head,if_neg (by simp [h])]
 by_cases h4:t.k=4
 ·have hR:restV t=firstVs t.vs:=by unfold restV;rw [if_neg (by simp [h4])]
  have hF:hasE t=if firstVs t.vs≠0 then firstVs t.vs else weightsE t:=by unfold hasE;rw [hV,hR]
  rw [hF]
  exact r19has_rest t A m w ox hs hl h (.inl h4)
 ·by_cases h5:t.vs.length=0
  ·have hR:restV t=0:=by unfold restV;rw [if_pos h4,if_pos (by omega)]
   have hn:t.vs=[]:=List.eq_nil_of_length_eq_zero h5
   have hF:hasE t=if firstVs t.vs≠0 then firstVs t.vs else weightsE t:=by unfold hasE;rw [hV,hR,hn];simp [firstVs]
   rw [hF]
   exact r19has_rest t A m w ox hs hl h (.inr h5)
  ·have hR:restV t=3:=by unfold restV;rw [if_pos h4,if_neg (by omega)]
   have hF:hasE t=3:=by unfold hasE;rw [hV,hR];rfl
   rw [hF]
   exact r19has_vs t A m w ox hs hl h h4 h5
theorem nodeT_has (t:GT) (hk:¬(t.k < 1∨11 < t.k)):nodeT t=if hasE t≠0 then hasE t else if endsE t≠0 then endsE t else argumentsE t:=by
 unfold nodeT hasE
 rw [if_neg hk]
 by_cases h:valuesE t=0<;>simp [h]
set_option maxRecDepth 100000 in
set_option maxHeartbeats 4000000 in
theorem r19node_xa (t:GT) (A:Nat→Prop) (m:TA) (w:World) (ox:okT t) (hs:sizeT t≤1099511627776) (hl:RT w A t m) (hh:hasE t=0) (he:endsE t=0) (h4:t.k=1∨t.k=2∨t.k=3):
  Calls Tryz.prog 93 #[TV t m] w fun e w'=>e=.returned (.int .i64 (argumentsE t))∧Below w.heap.size w w':=by
 obtain ⟨ma,mb,mc,md,me,mf,mg,mh,mi,mj,mk,ml⟩:=m
 obtain ⟨⟨x1,x2⟩,ov,⟨ovl,ovs⟩,l1,l2,⟨owl,ow⟩,op,oal,oa⟩:=okT_iff.1 ox
 have HL:=hid hl
 have OX:=hid ox
 have HH:=hid hh
 have HE:=hid he
 clear hl ox ov ovs l1 l2 ow op oa hh he
 obtain ⟨k,v,vs,lo,hi,ws,p,l⟩:=t
 dsimp only at h4 ovl owl oal x1 x2
 rcases h4 with rfl|rfl|rfl
 all_goals clear x1 x2
 all_goals
  go_enter Tryz.func93,Tryz.ntmps93
  go_wp2_with (first|(go_at_call 139;refine (r19has_any _ A ⟨ma,mb,mc,md,me,mf,mg,mh,mi,mj,mk,ml⟩ _ OX.out hs (by exact RT.ext (Agree.below Below.r) _ _ HL.out)).mono ?_;rw [HH.out];rintro e w1 ⟨rfl,hbx⟩;have hB1:=hbx;clear hbx;obtain ⟨hc1,hf1⟩:=bcells hB1)|(go_at_call 140;refine (r19ends_any _ ⟨ma,mb,mc,md,me,mf,mg,mh,mi,mj,mk,ml⟩ _ OX.out).mono ?_;rw [HE.out];rintro e w2 ⟨rfl,hbx⟩;have hB2:=Below.trans hB1 (Below.mono hbx (Below.size hB1));clear hbx;obtain ⟨hc2,hf2⟩:=bcells hB2)|(go_at_call 141;refine (r19many_any _ _ _ _ ⟨by omega,by omega⟩ ⟨by omega,by omega⟩ ⟨by omega,by omega⟩).mono ?_;rintro e w3 ⟨rfl,hbx⟩;have hB3:=Below.trans hB2 (Below.mono hbx (Below.size hB2));clear hbx;obtain ⟨hc3,hf3⟩:=bcells hB3))
  go_ret
  exact ⟨ret_int (by simp [argumentsE]),Below.r⟩
end Go.Proofs.YtojjdneicmbfjaaGreatDoor
