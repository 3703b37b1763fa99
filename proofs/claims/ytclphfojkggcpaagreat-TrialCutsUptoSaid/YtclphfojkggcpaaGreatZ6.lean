/- What the proofs of the Trial statements need: part 7. -/
import Derived.Test.YtclphfojkggcpaaGreatZ4
import Derived.Test.YtclphfojkggcpaaGreatZ5
set_option linter.unusedVariables false
set_option linter.unusedSimpArgs false
namespace Go.Proofs.YtclphfojkggcpaaGreat
open Go.Lib (hid)
open Go Go.RowKit
theorem ret_b1 {a b:Bool} (h:a=b):Ending.returned (.bool a)=.returned (.bool b):=by rw [h]
def checkPE (p:GP):Int×Int:=if (chkP 0 1 p).2≠0 then chkP 0 1 p else if 512 < (nodesP p:Int) then (0,5) else (0,0)
set_option maxRecDepth 100000 in
theorem checkP_any (p:GP) (w:World) (A:Nat→Prop) (m:PA) (ox:okP p) (hs:sizeP p≤1099511627776) (hl:RP w A p m):
  Calls Tryz.prog 36 #[PV p m] w fun e w'=>e=.returned (.tuple #[.int .i64 (checkPE p).1,.int .i64 (checkPE p).2])∧Below w.heap.size w w':=by
 obtain ⟨ma,mc,mb,md⟩:=m
 have HL:=hid hl
 have OX:=hid ox
 have hnl:=nodesP_le p
 clear hl ox
 unfold checkPE
 by_cases h1:(chkP 0 1 p).2=0
 case neg=>
  have h1':((chkP 0 1 p).2 != 0)=true:=by simp [h1]
  rw [if_pos h1]
  clear h1
  go_enter Tryz.func36,Tryz.ntmps36
  go_wp2_with (go_at_call 56;refine (check_any _ p _ A ⟨ma,mc,mb,md⟩ 0 1 (Nat.le_refl _) OX.out (by omega) (by omega) (by omega) (by omega) (by exact RP.ext (Agree.below Below.z) _ _ HL.out)).mono ?_;rintro e w1 ⟨rfl,hb⟩;have hB1:=hb;clear hb;obtain ⟨hc1,hf1⟩:=bcells hB1)
  go_ret2
  exact ⟨rfl,Below.z⟩
 have h1':((chkP 0 1 p).2 != 0)=false:=by simp [h1]
 rw [if_neg (by simp [h1])]
 clear h1
 generalize hF:(if 512 < (nodesP p:Int) then ((0:Int),(5:Int)) else (0,0))=F
 have HF:=hid hF
 clear hF
 go_enter Tryz.func36,Tryz.ntmps36
 go_wp2_with (first
  | (go_at_call 56;refine (check_any _ p _ A ⟨ma,mc,mb,md⟩ 0 1 (Nat.le_refl _) OX.out (by omega) (by omega) (by omega) (by omega) (by exact RP.ext (Agree.below Below.z) _ _ HL.out)).mono ?_;rintro e w1 ⟨rfl,hb⟩;have hB1:=hb;clear hb;obtain ⟨hc1,hf1⟩:=bcells hB1)
  | (go_at_call 57;refine (nodes_any _ p _ A ⟨ma,mc,mb,md⟩ (Nat.le_refl _) OX.out hs (by exact RP.ext (Agree.below Below.z) _ _ HL.out)).mono ?_;rintro e w2 ⟨rfl,hb⟩;have hB2:=Below.trans hB1 (Below.mono hb (Below.size hB1));clear hb;obtain ⟨hc2,hf2⟩:=bcells hB2))
 all_goals go_ret2
 all_goals refine ⟨?_,Below.z⟩
 all_goals rw [←HF.out]
 ·rw [if_pos (by assumption)];rfl
 ·rw [if_neg (by omega)];rfl
def mayP (p:GP):Bool:=(checkPE p).2==0
theorem mayP_any (p:GP) (w:World) (A:Nat→Prop) (m:PA) (ox:okP p) (hs:sizeP p≤1099511627776) (hl:RP w A p m):
  Calls Tryz.prog 40 #[PV p m] w fun e w'=>e=.returned (.bool (mayP p))∧Below w.heap.size w w':=by
 obtain ⟨ma,mc,mb,md⟩:=m
 have HL:=hid hl
 have OX:=hid ox
 clear hl ox
 generalize hF:mayP p=F
 have HF:=hid hF
 clear hF
 go_enter Tryz.func40,Tryz.ntmps40
 go_wp2_with (go_at_call 36;refine (checkP_any p _ A ⟨ma,mc,mb,md⟩ OX.out hs (by exact RP.ext (Agree.below Below.z) _ _ HL.out)).mono ?_;rintro e w1 ⟨rfl,hb⟩;have hB1:=hb;clear hb;obtain ⟨hc1,hf1⟩:=bcells hB1)
 all_goals go_ret
 all_goals exact ⟨by rw [←HF.out];simp [mayP],Below.z⟩
def nothingP (p:GP):Bool:=p.k==0&&noneV p.v&&p.n==0&&(p.a.length:Int)==0
set_option maxRecDepth 100000 in
theorem nothing_any (p:GP) (m:PA) (w:World) (ox:okP p):
  Calls Tryz.prog 153 #[PV p m] w fun e w'=>e=.returned (.bool (nothingP p))∧Below w.heap.size w w':=by
 obtain ⟨⟨x1,x2⟩,ov,⟨x3,x4⟩,x5,oa⟩:=okP_iff.1 ox
 obtain ⟨v1,v2,v3,_⟩:=okV_iff.1 ov
 have HV:=hid (show isU8 p.v.k∧isI64 p.v.n∧p.v.l.length≤1048576 from ⟨v1,v2,v3⟩)
 obtain ⟨ma,mc,mb,md⟩:=m
 clear ox oa ov v1 v2
 generalize hF:nothingP p=F
 have HF:=hid hF
 clear hF
 go_enter Tryz.func153,Tryz.ntmps153
 go_wp2_with (go_at_call 120;refine (none_any p.v ⟨ma,mc⟩ _ HV.out).mono ?_;rintro e w1 ⟨rfl,hb⟩;have hB1:=hb;clear hb;obtain ⟨hc1,hf1⟩:=bcells hB1)
 all_goals go_ret
 all_goals refine ⟨ret_bool ?_,Below.z⟩
 all_goals rw [←HF.out]
 all_goals unfold nothingP
 all_goals (first|(simp;done)|(simp [*];done)|(simp_all;done)|(simp_all;omega)|(simp;omega))
set_option maxRecDepth 100000 in
theorem r17nothing_any (p:GP) (m:PA) (w:World) (ox:okP p):
  Calls Tryz.prog 108 #[PV p m] w fun e w'=>e=.returned (.bool (nothingP p))∧Below w.heap.size w w':=by
 obtain ⟨⟨x1,x2⟩,ov,⟨x3,x4⟩,x5,oa⟩:=okP_iff.1 ox
 obtain ⟨v1,v2,v3,_⟩:=okV_iff.1 ov
 have HV:=hid (show isU8 p.v.k∧isI64 p.v.n∧p.v.l.length≤1048576 from ⟨v1,v2,v3⟩)
 obtain ⟨ma,mc,mb,md⟩:=m
 clear ox oa ov v1 v2
 generalize hF:nothingP p=F
 have HF:=hid hF
 clear hF
 go_enter Tryz.func108,Tryz.ntmps108
 go_wp2_with (go_at_call 110;refine (r17none_any p.v ⟨ma,mc⟩ _ HV.out).mono ?_;rintro e w1 ⟨rfl,hb⟩;have hB1:=hb;clear hb;obtain ⟨hc1,hf1⟩:=bcells hB1)
 all_goals go_ret
 all_goals refine ⟨ret_bool ?_,Below.z⟩
 all_goals rw [←HF.out]
 all_goals unfold nothingP
 all_goals (first|(simp;done)|(simp [*];done)|(simp_all;done)|(simp_all;omega)|(simp;omega))
theorem freqNew_err (l:List Int) (w:World) (A:Nat→Prop) (wa:Option Addr) (wc:Nat) (ol:okIs l) (hln:l.length≤1048576) (hl:RIs w A l wa):
  Calls Tryz.prog 92 #[.slice wa l.length wc] w fun e w'=>(∃q,e=.returned (.tuple #[.pointer q,.int .i64 (freqE l)]))∧Below w.heap.size w w':=
 (freqNew_any l w A wa wc ol hln hl).mono fun e w' ⟨hb,h⟩=>⟨by
  rcases h with ⟨_,h⟩|⟨h0,b,a,c,h,_⟩
  ·exact ⟨_,h⟩
  ·exact ⟨_,by rw [h,h0]⟩,hb⟩
def restW (t:GT):Int:=if t.k≠3∧t.k≠4 then (if (t.w.length:Int)=0 then 0 else 3) else freqE t.w
def weightsE (t:GT):Int:=
 if t.k=9 then (if (checkPE t.p).2≠0 then (checkPE t.p).2 else restW t) else if nothingP t.p=true then restW t else 3
def argumentsE (t:GT):Int:=
 if t.k=3 then manyE t.a.length t.w.length t.w.length
 else if t.k=5∨t.k=7∨t.k=8 then manyE t.a.length 0 64
 else if t.k=6∨t.k=9 then manyE t.a.length 1 1
 else if t.k=10 then manyE t.a.length 2 2
 else if t.k=4 then (if manyE t.vs.length t.w.length t.w.length≠0 then manyE t.vs.length t.w.length t.w.length else manyE t.a.length 0 0)
 else manyE t.a.length 0 0
set_option maxRecDepth 100000 in
set_option maxHeartbeats 1000000 in
theorem arguments_any (t:GT) (m:TA) (w:World) (ox:okT t):
  Calls Tryz.prog 127 #[TV t m] w fun e w'=>e=.returned (.int .i64 (argumentsE t))∧Below w.heap.size w w':=by
 obtain ⟨⟨x1,x2⟩,ov,⟨ovl,_⟩,⟨l1,l2⟩,⟨l3,l4⟩,⟨owl,_⟩,op,oal,oa⟩:=okT_iff.1 ox
 obtain ⟨ma,mb,mc,md,me,mf,mg,mh,mi,mj,mk,ml⟩:=m
 clear ox ov oa op
 generalize hF:argumentsE t=F
 have HF:=hid hF
 clear hF
 go_enter Tryz.func127,Tryz.ntmps127
 go_wp2_with (first
  | (go_at_call 155;refine (many_any _ _ _ _ ⟨by omega,by omega⟩ ⟨by omega,by omega⟩ ⟨by omega,by omega⟩).mono ?_;rintro e w2 ⟨rfl,hb⟩;have hB2:=Below.trans hB1 (Below.mono hb (Below.size hB1));clear hb;obtain ⟨hc2,hf2⟩:=bcells hB2)
  | (go_at_call 155;refine (many_any _ _ _ _ ⟨by omega,by omega⟩ ⟨by omega,by omega⟩ ⟨by omega,by omega⟩).mono ?_;rintro e w1 ⟨rfl,hb⟩;have hB1:=hb;clear hb;obtain ⟨hc1,hf1⟩:=bcells hB1))
 all_goals go_ret
 all_goals refine ⟨ret_int ?_,Below.z⟩
 all_goals rw [←HF.out]
 all_goals unfold argumentsE
 all_goals (first|rfl|omega|((try simp only [beq_iff_eq,beq_eq_false_iff_ne,bne_iff_ne,bne_eq_false_iff_eq,decide_eq_true_eq,decide_eq_false_iff_not,ne_eq,Bool.and_eq_true,Bool.or_eq_true,Bool.and_eq_false_iff,Bool.or_eq_false_iff,Bool.not_eq_true',Bool.not_eq_false'] at *);(repeat' split)<;>first|rfl|omega|contradiction|(simp_all;done)|(simp_all;omega)))
def endsE (t:GT):Int:=
 if t.k=2 then (if (withinB t.lo (-1099511627776) t.hi&&withinB t.hi t.lo 1099511627776)=true then 0 else 1)
 else if t.k=6 then (if (withinB t.lo 0 t.hi&&withinB t.hi t.lo 16)=true then 0 else 1)
 else if t.k=8 then (if withinB t.lo 0 t.a.length=true then (if t.hi=0 then 0 else 3) else 1)
 else if t.k=10 then (if withinB t.lo 0 8=true then (if t.hi=0 then 0 else 3) else 1)
 else if t.lo=0∧t.hi=0 then 0 else 3
set_option maxRecDepth 100000 in
set_option maxHeartbeats 1000000 in
theorem ends_any (t:GT) (m:TA) (w:World) (ox:okT t):
  Calls Tryz.prog 126 #[TV t m] w fun e w'=>e=.returned (.int .i64 (endsE t))∧Below w.heap.size w w':=by
 obtain ⟨⟨x1,x2⟩,ov,⟨ovl,_⟩,⟨l1,l2⟩,⟨l3,l4⟩,⟨owl,_⟩,op,oal,oa⟩:=okT_iff.1 ox
 obtain ⟨ma,mb,mc,md,me,mf,mg,mh,mi,mj,mk,ml⟩:=m
 clear ox ov oa op
 generalize hF:endsE t=F
 have HF:=hid hF
 clear hF
 go_enter Tryz.func126,Tryz.ntmps126
 go_wp2_with (first
  | (go_at_call 151;refine (unless_any _ _).mono ?_;rintro e w3 ⟨rfl,hb⟩;have hB3:=Below.trans hB2 (Below.mono hb (Below.size hB2));clear hb;obtain ⟨hc3,hf3⟩:=bcells hB3)
  | (go_at_call 151;refine (unless_any _ _).mono ?_;rintro e w3 ⟨rfl,hb⟩;have hB3:=Below.trans hB1 (Below.mono hb (Below.size hB1));clear hb;obtain ⟨hc3,hf3⟩:=bcells hB3)
  | (go_at_call 151;refine (unless_any _ _).mono ?_;rintro e w3 ⟨rfl,hb⟩;have hB3:=hb;clear hb;obtain ⟨hc3,hf3⟩:=bcells hB3)
  | (go_at_call 154;refine (within_any _ _ _ _ ⟨by omega,by omega⟩ ⟨by omega,by omega⟩ ⟨by omega,by omega⟩).mono ?_;rintro e w2 ⟨rfl,hb⟩;have hB2:=Below.trans hB1 (Below.mono hb (Below.size hB1));clear hb;obtain ⟨hc2,hf2⟩:=bcells hB2)
  | (go_at_call 154;refine (within_any _ _ _ _ ⟨by omega,by omega⟩ ⟨by omega,by omega⟩ ⟨by omega,by omega⟩).mono ?_;rintro e w1 ⟨rfl,hb⟩;have hB1:=hb;clear hb;obtain ⟨hc1,hf1⟩:=bcells hB1))
 all_goals go_ret
 all_goals refine ⟨ret_int ?_,Below.z⟩
 all_goals rw [←HF.out]
 all_goals unfold endsE
 all_goals (try unfold unlessE)
 all_goals (first|rfl|omega|((try simp only [beq_iff_eq,beq_eq_false_iff_ne,bne_iff_ne,bne_eq_false_iff_eq,decide_eq_true_eq,decide_eq_false_iff_not,ne_eq,Bool.and_eq_true,Bool.or_eq_true,Bool.and_eq_false_iff,Bool.or_eq_false_iff,Bool.not_eq_true',Bool.not_eq_false'] at *);(repeat' split)<;>first|rfl|omega|contradiction|(simp_all;done)|(simp_all;omega)))
set_option maxRecDepth 100000 in
set_option maxHeartbeats 1000000 in
theorem weights_any (t:GT) (A:Nat→Prop) (m:TA) (w:World) (ox:okT t) (hs:sizeT t≤1099511627776) (hl:RT w A t m):
  Calls Tryz.prog 125 #[TV t m] w fun e w'=>e=.returned (.int .i64 (weightsE t))∧Below w.heap.size w w':=by
 obtain ⟨⟨x1,x2⟩,ov,⟨ovl,_⟩,⟨l1,l2⟩,⟨l3,l4⟩,⟨owl,ow⟩,op,oal,oa⟩:=okT_iff.1 ox
 obtain ⟨ma,mb,mc,md,me,mf,mg,mh,mi,mj,mk,ml⟩:=m
 obtain ⟨_,_,h3,h4,_⟩:=RT_iff.1 hl
 have H3:=hid h3
 have H4:=hid h4
 have OW:=hid ow
 have OP:=hid op
 have hps:sizeP t.p≤1099511627776:=by have:=sizeT_eq t;omega
 clear ox ov oa op hl h3 h4 ow
 generalize hF:weightsE t=F
 have HF:=hid hF
 clear hF
 go_enter Tryz.func125,Tryz.ntmps125
 go_wp2_with (first
  | (go_at_call 36;refine (checkP_any t.p _ A ⟨mg,mh,mi,mj⟩ OP.out hps (by exact RP.ext (Agree.below Below.z) _ _ H4.out)).mono ?_;rintro e w1 ⟨rfl,hb⟩;have hB1:=hb;clear hb;obtain ⟨hc1,hf1⟩:=bcells hB1)
  | (go_at_call 153;refine (nothing_any t.p ⟨mg,mh,mi,mj⟩ _ OP.out).mono ?_;rintro e w1 ⟨rfl,hb⟩;have hB1:=hb;clear hb;obtain ⟨hc1,hf1⟩:=bcells hB1)
  | (go_at_call 151;refine (unless_any _ _).mono ?_;rintro e w2 ⟨rfl,hb⟩;have hB2:=Below.trans hB1 (Below.mono hb (Below.size hB1));clear hb;obtain ⟨hc2,hf2⟩:=bcells hB2)
  | (go_at_call 92;refine (freqNew_err t.w _ A me mf OW.out owl (by exact RIs.ext (Agree.below Below.z) _ _ H3.out)).mono ?_;rintro e w2 ⟨⟨q,rfl⟩,hb⟩;have hB2:=Below.trans hB1 (Below.mono hb (Below.size hB1));clear hb;obtain ⟨hc2,hf2⟩:=bcells hB2))
 all_goals go_ret
 all_goals refine ⟨ret_int ?_,Below.z⟩
 all_goals rw [←HF.out]
 all_goals unfold weightsE restW
 all_goals (try unfold unlessE)
 all_goals (first|rfl|omega|((try simp only [beq_iff_eq,beq_eq_false_iff_ne,bne_iff_ne,bne_eq_false_iff_eq,decide_eq_true_eq,decide_eq_false_iff_not,ne_eq,Bool.and_eq_true,Bool.or_eq_true,Bool.and_eq_false_iff,Bool.or_eq_false_iff,Bool.not_eq_true',Bool.not_eq_false'] at *);(repeat' split)<;>first|rfl|omega|contradiction|(simp_all;done)|(simp_all;omega)))
def firstVs:List GV→Int
 | []=>0
 | x::l=>if checkV x≠0 then checkV x else firstVs l
theorem firstVs_get (l:List GV) (j:Nat) (h:j < l.length) (h0:∀q (hq:q < l.length),q < j→checkV l[q]=0) (h1:checkV l[j]≠0):firstVs l=checkV l[j]:=by
 induction l generalizing j with
 | nil=>simp at h
 | cons x l ih=>cases j with
  | zero=>simp only [List.getElem_cons_zero] at h1 ⊢;rw [firstVs,if_pos h1]
  | succ j=>
   have:=h0 0 (by simp) (by omega)
   simp only [List.getElem_cons_zero] at this
   rw [firstVs,if_neg (by simp [this])]
   simp only [List.getElem_cons_succ] at h1 ⊢
   exact ih j (by simpa using h) (fun q hq hj=>by have:=h0 (q+1) (by simpa using hq) (by omega);simpa only [List.getElem_cons_succ] using this) h1
theorem firstVs_zero (l:List GV) (h0:∀q (hq:q < l.length),checkV l[q]=0):firstVs l=0:=by
 induction l with
 | nil=>rfl
 | cons x l ih=>
  have:=h0 0 (by simp)
  simp only [List.getElem_cons_zero] at this
  rw [firstVs,if_neg (by simp [this])]
  exact ih fun q hq=>by have:=h0 (q+1) (by simpa using hq);simpa only [List.getElem_cons_succ] using this
def restV (t:GT):Int:=if t.k≠4 then (if (t.vs.length:Int)=0 then 0 else 3) else firstVs t.vs
def valuesE (t:GT):Int:=if t.k=1 then (if checkV t.v≠0 then checkV t.v else restV t) else if noneV t.v=true then restV t else 3
set_option maxRecDepth 100000 in
set_option maxHeartbeats 1000000 in
theorem values_any (t:GT) (A:Nat→Prop) (m:TA) (w:World) (ox:okT t) (hs:sizeT t≤1099511627776) (hl:RT w A t m):
  Calls Tryz.prog 124 #[TV t m] w fun e w'=>e=.returned (.int .i64 (valuesE t))∧Below w.heap.size w w':=by
 obtain ⟨⟨x1,x2⟩,ov,⟨ovl,ovs⟩,⟨l1,l2⟩,⟨l3,l4⟩,⟨owl,ow⟩,op,oal,oa⟩:=okT_iff.1 ox
 obtain ⟨ma,mb,mc,md,me,mf,mg,mh,mi,mj,mk,ml⟩:=m
 obtain ⟨h1,h2,_⟩:=RT_iff.1 hl
 have H1:=hid (RV_iff.1 h1)
 have H2:=hid h2
 have OV:=hid ov
 have OVS:=hid ovs
 obtain ⟨v1,v2,v3,_⟩:=okV_iff.1 ov
 have HV:=hid (show isU8 t.v.k∧isI64 t.v.n∧t.v.l.length≤1048576 from ⟨v1,v2,v3⟩)
 have hse:=sizeT_eq t
 have hvs:sizeV t.v≤1099511627776:=by omega
 clear ox ov oa op hl h1 h2 ow ovs v1 v2
 by_cases hk:t.k=4
 case neg=>
  have hk2:(t.k != 4)=true:=by simp [hk]
  have HK:=hid hk
  clear hk
  generalize hF:valuesE t=F
  have HF:=hid hF
  clear hF
  go_enter Tryz.func124,Tryz.ntmps124
  go_wp2_with (first
   | (go_at_call 152;refine (tnone_any t.v ⟨ma,mb⟩ _ HV.out).mono ?_;rintro e w1 ⟨rfl,hb⟩;have hB1:=hb;clear hb;obtain ⟨hc1,hf1⟩:=bcells hB1)
   | (go_at_call 151;refine (unless_any _ _).mono ?_;rintro e w4 ⟨rfl,hb⟩;have hB4:=Below.trans hB3 (Below.mono hb (Below.size hB3));clear hb;obtain ⟨hc4,hf4⟩:=bcells hB4)
   | (go_at_call 151;refine (unless_any _ _).mono ?_;rintro e w3 ⟨rfl,hb⟩;have hB3:=Below.trans hB2 (Below.mono hb (Below.size hB2));clear hb;obtain ⟨hc3,hf3⟩:=bcells hB3)
   | (go_at_call 151;refine (unless_any _ _).mono ?_;rintro e w2 ⟨rfl,hb⟩;have hB2:=Below.trans hB1 (Below.mono hb (Below.size hB1));clear hb;obtain ⟨hc2,hf2⟩:=bcells hB2)
   | (go_at_call 151;refine (unless_any _ _).mono ?_;rintro e w2 ⟨rfl,hb⟩;have hB2:=hb;clear hb;obtain ⟨hc2,hf2⟩:=bcells hB2)
   | (go_at_call 119;refine (checkV_any t.v A ⟨ma,mb⟩ _ OV.out hvs (by exact RVs.ext (Agree.below Below.z) _ _ H1.out)).mono ?_;rintro e w3 ⟨rfl,hb⟩;have hB3:=Below.trans hB2 (Below.mono hb (Below.size hB2));clear hb;obtain ⟨hc3,hf3⟩:=bcells hB3))
  all_goals go_ret
  all_goals refine ⟨ret_int ?_,Below.z⟩
  all_goals rw [←HF.out]
  all_goals unfold valuesE restV
  all_goals rw [if_pos HK.out]
  all_goals (try unfold unlessE at *)
  all_goals (first|rfl|omega|((try simp only [beq_iff_eq,beq_eq_false_iff_ne,bne_iff_ne,bne_eq_false_iff_eq,decide_eq_true_eq,decide_eq_false_iff_not,ne_eq,Bool.and_eq_true,Bool.or_eq_true,Bool.and_eq_false_iff,Bool.or_eq_false_iff,Bool.not_eq_true',Bool.not_eq_false'] at *);(repeat' split)<;>first|rfl|omega|contradiction|(simp_all;done)|(simp_all;omega)))
 have hk1:(t.k==1)=false:=by rw [hk];rfl
 have hk2:(t.k != 4)=false:=by rw [hk];rfl
 have hF:valuesE t=if noneV t.v=true then firstVs t.vs else 3:=by simp [valuesE,restV,hk]
 rw [hF]
 clear hk hF
 cases hn:noneV t.v
 ·have HN:=hid hn
  clear hn
  go_enter Tryz.func124,Tryz.ntmps124
  go_wp2_with (first
   | (go_at_call 152;refine (tnone_any t.v ⟨ma,mb⟩ _ HV.out).mono ?_;rw [HN.out];rintro e w1 ⟨rfl,hb⟩;have hB1:=hb;clear hb;obtain ⟨hc1,hf1⟩:=bcells hB1)
   | (go_at_call 151;refine (unless_any _ _).mono ?_;rintro e w4 ⟨rfl,hb⟩;have hB4:=Below.trans hB3 (Below.mono hb (Below.size hB3));clear hb;obtain ⟨hc4,hf4⟩:=bcells hB4)
   | (go_at_call 151;refine (unless_any _ _).mono ?_;rintro e w3 ⟨rfl,hb⟩;have hB3:=Below.trans hB2 (Below.mono hb (Below.size hB2));clear hb;obtain ⟨hc3,hf3⟩:=bcells hB3)
   | (go_at_call 151;refine (unless_any false _).mono ?_;rintro e w2 ⟨rfl,hb⟩;have hB2:=Below.trans hB1 (Below.mono hb (Below.size hB1));clear hb;obtain ⟨hc2,hf2⟩:=bcells hB2)
   | (go_at_call 151;refine (unless_any _ _).mono ?_;rintro e w2 ⟨rfl,hb⟩;have hB2:=hb;clear hb;obtain ⟨hc2,hf2⟩:=bcells hB2)
   | (go_at_call 119;refine (checkV_any t.v A ⟨ma,mb⟩ _ OV.out hvs (by exact RVs.ext (Agree.below Below.z) _ _ H1.out)).mono ?_;rintro e w3 ⟨rfl,hb⟩;have hB3:=Below.trans hB2 (Below.mono hb (Below.size hB2));clear hb;obtain ⟨hc3,hf3⟩:=bcells hB3))
  all_goals go_ret
  all_goals exact ⟨rfl,Below.z⟩
 ·have HN:=hid hn
  clear hn
  rw [if_pos rfl]
  generalize hF:firstVs t.vs=F
  have HF:=hid hF
  clear hF
  go_enter Tryz.func124,Tryz.ntmps124
  go_wp2_with (first
   | (go_at_call 152;refine (tnone_any t.v ⟨ma,mb⟩ _ HV.out).mono ?_;rw [HN.out];rintro e w1 ⟨rfl,hb⟩;have hB1:=hb;clear hb;obtain ⟨hc1,hf1⟩:=bcells hB1)
   | (go_at_call 151;refine (unless_any _ _).mono ?_;rintro e w4 ⟨rfl,hb⟩;have hB4:=Below.trans hB3 (Below.mono hb (Below.size hB3));clear hb;obtain ⟨hc4,hf4⟩:=bcells hB4)
   | (go_at_call 151;refine (unless_any _ _).mono ?_;rintro e w3 ⟨rfl,hb⟩;have hB3:=Below.trans hB2 (Below.mono hb (Below.size hB2));clear hb;obtain ⟨hc3,hf3⟩:=bcells hB3)
   | (go_at_call 151;refine (unless_any true _).mono ?_;rintro e w2 ⟨rfl,hb⟩;have hB2:=Below.trans hB1 (Below.mono hb (Below.size hB1));clear hb;obtain ⟨hc2,hf2⟩:=bcells hB2)
   | (go_at_call 151;refine (unless_any _ _).mono ?_;rintro e w2 ⟨rfl,hb⟩;have hB2:=hb;clear hb;obtain ⟨hc2,hf2⟩:=bcells hB2)
   | (go_at_call 119;refine (checkV_any t.v A ⟨ma,mb⟩ _ OV.out hvs (by exact RVs.ext (Agree.below Below.z) _ _ H1.out)).mono ?_;rintro e w3 ⟨rfl,hb⟩;have hB3:=Below.trans hB2 (Below.mono hb (Below.size hB2));clear hb;obtain ⟨hc3,hf3⟩:=bcells hB3))
  go_loopg [36] (t.vs.length) (fun gk i wr=>∃j:Nat,gk+j=t.vs.length∧i=.int .i64 j∧Hid (∀q (hq:q < t.vs.length),q < j→checkV t.vs[q]=0)∧Below w.heap.size w wr∧w.heap.size < wr.heap.size)
  case atStart=>exact ⟨0,by omega,rfl,fun q hq hj=>absurd hj (by omega),Below.z,by have:=hB2.size;simp at this;omega⟩
  case round=>
   obtain ⟨j,hj,rfl,HZ,hb,hz⟩:=hrel
   by_cases hlt:j < t.vs.length
   ·obtain ⟨b,o,mj',rfl,hA,hbs,g0,gx⟩:=H2.out.get j hlt
    obtain ⟨k0,k1,k2⟩:=At3.1 (g0.ext (Agree.below hb) (A:=fun _=>True) trivial)
    have hs1:b < wr.heap.size:=by omega
    have hq1:=sizeVs_get t.vs j hlt
    clear g0
    go_wp2_with (go_at_call 119;refine (checkV_any t.vs[j] A mj' _ (OVS.out.get j hlt) (by omega) (by exact RV_iff.1 (RV.ext (Agree.below Below.z) _ _ gx))).mono ?_;rintro e w4 ⟨rfl,hb4⟩)
    all_goals have hbb:Below w.heap.size w w4:=(hb.alloc (by omega) _).trans (hb4.mono (by simp;omega))
    ·have hne:checkV t.vs[j]≠0:=by simpa using ‹(checkV t.vs[j] != 0)=true›
     go_ret
     exact ⟨ret_int (by rw [←HF.out,firstVs_get _ j hlt HZ.out hne]),hbb⟩
    ·have hne:checkV t.vs[j]=0:=by simpa using ‹(checkV t.vs[j] != 0)=false›
     go_roundg (gk - 1)
     case measure=>omega
     case rel=>exact ⟨j+1,by omega,by go_num,fun q hq hj'=>(by
      by_cases hqj:q=j
      ·subst hqj;exact hne
      ·exact HZ.out q hq (by omega)),hbb,by have:=hb4.size;simp at this;omega⟩
   ·have hjl:j=t.vs.length:=by omega
    go_wp2_with fail
    go_ret
    exact ⟨ret_int (by rw [←HF.out,firstVs_zero _ fun q hq=>HZ.out q hq (by omega)]),hb⟩
def nodeT (t:GT):Int:=
 if t.k < 1∨11 < t.k then 11 else if valuesE t≠0 then valuesE t else if weightsE t≠0 then weightsE t else if endsE t≠0 then endsE t else argumentsE t
set_option maxRecDepth 100000 in
set_option maxHeartbeats 1000000 in
theorem nodeT_any (t:GT) (A:Nat→Prop) (m:TA) (w:World) (ox:okT t) (hs:sizeT t≤1099511627776) (hl:RT w A t m):
  Calls Tryz.prog 85 #[TV t m] w fun e w'=>e=.returned (.int .i64 (nodeT t))∧Below w.heap.size w w':=by
 obtain ⟨⟨x1,x2⟩,ov,⟨ovl,ovs⟩,⟨l1,l2⟩,⟨l3,l4⟩,⟨owl,ow⟩,op,oal,oa⟩:=okT_iff.1 ox
 obtain ⟨ma,mb,mc,md,me,mf,mg,mh,mi,mj,mk,ml⟩:=m
 have HL:=hid hl
 have OX:=hid ox
 clear ov oa op hl ow ovs ox
 by_cases hk:t.k < 1∨11 < t.k
 ·have hF:nodeT t=11:=by rw [nodeT,if_pos hk]
  rw [hF]
  clear hF
  rcases hk with hk|hk
  all_goals go_enter Tryz.func85,Tryz.ntmps85
  all_goals go_wp2_with fail
  all_goals go_ret
  all_goals exact ⟨rfl,Below.z⟩
 have hF:nodeT t=if valuesE t≠0 then valuesE t else if weightsE t≠0 then weightsE t else if endsE t≠0 then endsE t else argumentsE t:=by rw [nodeT,if_neg hk]
 rw [hF]
 clear hF
 generalize hF:(if valuesE t≠0 then valuesE t else if weightsE t≠0 then weightsE t else if endsE t≠0 then endsE t else argumentsE t)=F
 have HF:=hid hF
 clear hF
 have hk1:1≤t.k:=by omega
 have hk2:t.k≤11:=by omega
 clear hk
 go_enter Tryz.func85,Tryz.ntmps85
 go_wp2_with fail
 go_loopg [16] 4 (fun gk i wr=>∃j:Nat,gk+j=4∧i=.int .i64 j∧Hid ((0 < j→valuesE t=0)∧(1 < j→weightsE t=0)∧(2 < j→endsE t=0)∧(3 < j→argumentsE t=0))∧Below w.heap.size w wr∧w.heap.size+1 < wr.heap.size ∧
   Hid (∀o,wr.cell? ⟨w.heap.size,o,none⟩=(w.alloc (.cells #[.int .u8 t.k,.int .u8 t.v.k,.int .i64 t.v.n,.slice ma t.v.l.length mb,.slice mc t.vs.length md,.int .i64 t.lo,.int .i64 t.hi,.slice me t.w.length mf,.int .u8 t.p.k,.int .u8 t.p.v.k,.int .i64 t.p.v.n,.slice mg t.p.v.l.length mh,.int .i64 t.p.n,.slice mi t.p.a.length mj,.slice mk t.a.length ml] 31)).cell? ⟨w.heap.size,o,none⟩) ∧
   wr.cell? ⟨w.heap.size+1,0,none⟩=some (.func (.func 124) #[] #[])∧wr.cell? ⟨w.heap.size+1,1,none⟩=some (.func (.func 125) #[] #[])∧wr.cell? ⟨w.heap.size+1,2,none⟩=some (.func (.func 126) #[] #[])∧wr.cell? ⟨w.heap.size+1,3,none⟩=some (.func (.func 127) #[] #[]))
 case atStart=>exact ⟨0,by omega,rfl,⟨fun h=>absurd h (by omega),fun h=>absurd h (by omega),fun h=>absurd h (by omega),fun h=>absurd h (by omega)⟩,Below.z,by simp,fun o=>by go_simp,by go_simp,by go_simp,by go_simp,by go_simp⟩
 case round=>
  obtain ⟨j,hj,rfl,HZ,hb,hz,HC,c0,c1,c2,c3⟩:=hrel
  have b0:=(HC.out 0).trans (show _=some (Value.int .u8 t.k) by go_simp)
  have b1:=(HC.out 1).trans (show _=some (Value.int .u8 t.v.k) by go_simp)
  have b2:=(HC.out 2).trans (show _=some (Value.int .i64 t.v.n) by go_simp)
  have b3:=(HC.out 3).trans (show _=some (Value.slice ma t.v.l.length mb) by go_simp)
  have b4:=(HC.out 4).trans (show _=some (Value.slice mc t.vs.length md) by go_simp)
  have b5:=(HC.out 5).trans (show _=some (Value.int .i64 t.lo) by go_simp)
  have b6:=(HC.out 6).trans (show _=some (Value.int .i64 t.hi) by go_simp)
  have b7:=(HC.out 7).trans (show _=some (Value.slice me t.w.length mf) by go_simp)
  have b8:=(HC.out 8).trans (show _=some (Value.int .u8 t.p.k) by go_simp)
  have b9:=(HC.out 9).trans (show _=some (Value.int .u8 t.p.v.k) by go_simp)
  have b10:=(HC.out 10).trans (show _=some (Value.int .i64 t.p.v.n) by go_simp)
  have b11:=(HC.out 11).trans (show _=some (Value.slice mg t.p.v.l.length mh) by go_simp)
  have b12:=(HC.out 12).trans (show _=some (Value.int .i64 t.p.n) by go_simp)
  have b13:=(HC.out 13).trans (show _=some (Value.slice mi t.p.a.length mj) by go_simp)
  have b14:=(HC.out 14).trans (show _=some (Value.slice mk t.a.length ml) by go_simp)
  have hj4:j=0∨j=1∨j=2∨j=3∨j=4:=by omega
  rcases hj4 with rfl|rfl|rfl|rfl|rfl
  ·go_wp2_with (go_at_call 124;refine (values_any t A ⟨ma,mb,mc,md,me,mf,mg,mh,mi,mj,mk,ml⟩ _ OX.out hs (by exact RT.ext (Agree.below Below.z) _ _ HL.out)).mono ?_;rintro e w5 ⟨rfl,hb⟩;have hB5:=hb;clear hb;obtain ⟨hc5,hf5⟩:=bcells hB5)
   all_goals have hbb:Below w.heap.size w w5:=hb.trans (hB5.mono (by omega))
   ·have hne:valuesE t≠0:=by simpa using ‹(valuesE t != 0)=true›
    go_ret
    exact ⟨ret_int (by rw [←HF.out,if_pos hne]),hbb⟩
   ·have hne:valuesE t=0:=by simpa using ‹(valuesE t != 0)=false›
    go_roundg (gk - 1)
    case measure=>omega
    case rel=>exact ⟨0+1,by omega,by go_num,⟨fun _=>hne,fun h=>absurd h (by omega),fun h=>absurd h (by omega),fun h=>absurd h (by omega)⟩,hbb,by have:=hB5.size;omega,fun o=>(hc5 _ o (by omega)).trans (HC.out o),(hc5 _ 0 (by omega)).trans c0,(hc5 _ 1 (by omega)).trans c1,(hc5 _ 2 (by omega)).trans c2,(hc5 _ 3 (by omega)).trans c3⟩
  ·go_wp2_with (go_at_call 125;refine (weights_any t A ⟨ma,mb,mc,md,me,mf,mg,mh,mi,mj,mk,ml⟩ _ OX.out hs (by exact RT.ext (Agree.below Below.z) _ _ HL.out)).mono ?_;rintro e w5 ⟨rfl,hb⟩;have hB5:=hb;clear hb;obtain ⟨hc5,hf5⟩:=bcells hB5)
   all_goals have hbb:Below w.heap.size w w5:=hb.trans (hB5.mono (by omega))
   ·have hne:weightsE t≠0:=by simpa using ‹(weightsE t != 0)=true›
    go_ret
    exact ⟨ret_int (by rw [←HF.out,if_neg (by rw [HZ.out.1 (by omega)];simp),if_pos hne]),hbb⟩
   ·have hne:weightsE t=0:=by simpa using ‹(weightsE t != 0)=false›
    go_roundg (gk - 1)
    case measure=>omega
    case rel=>exact ⟨1+1,by omega,by go_num,⟨fun _=>HZ.out.1 (by omega),fun _=>hne,fun h=>absurd h (by omega),fun h=>absurd h (by omega)⟩,hbb,by have:=hB5.size;omega,fun o=>(hc5 _ o (by omega)).trans (HC.out o),(hc5 _ 0 (by omega)).trans c0,(hc5 _ 1 (by omega)).trans c1,(hc5 _ 2 (by omega)).trans c2,(hc5 _ 3 (by omega)).trans c3⟩
  ·go_wp2_with (go_at_call 126;refine (ends_any t ⟨ma,mb,mc,md,me,mf,mg,mh,mi,mj,mk,ml⟩ _ OX.out).mono ?_;rintro e w5 ⟨rfl,hb⟩;have hB5:=hb;clear hb;obtain ⟨hc5,hf5⟩:=bcells hB5)
   all_goals have hbb:Below w.heap.size w w5:=hb.trans (hB5.mono (by omega))
   ·have hne:endsE t≠0:=by simpa using ‹(endsE t != 0)=true›
    go_ret
    exact ⟨ret_int (by rw [←HF.out,if_neg (by rw [HZ.out.1 (by omega)];simp),if_neg (by rw [HZ.out.2.1 (by omega)];simp),if_pos hne]),hbb⟩
   ·have hne:endsE t=0:=by simpa using ‹(endsE t != 0)=false›
    go_roundg (gk - 1)
    case measure=>omega
    case rel=>exact ⟨2+1,by omega,by go_num,⟨fun _=>HZ.out.1 (by omega),fun _=>HZ.out.2.1 (by omega),fun _=>hne,fun h=>absurd h (by omega)⟩,hbb,by have:=hB5.size;omega,fun o=>(hc5 _ o (by omega)).trans (HC.out o),(hc5 _ 0 (by omega)).trans c0,(hc5 _ 1 (by omega)).trans c1,(hc5 _ 2 (by omega)).trans c2,(hc5 _ 3 (by omega)).trans c3⟩
  ·go_wp2_with (go_at_call 127;refine (arguments_any t ⟨ma,mb,mc,md,me,mf,mg,mh,mi,mj,mk,ml⟩ _ OX.out).mono ?_;rintro e w5 ⟨rfl,hb⟩;have hB5:=hb;clear hb;obtain ⟨hc5,hf5⟩:=bcells hB5)
   all_goals have hbb:Below w.heap.size w w5:=hb.trans (hB5.mono (by omega))
   ·have hne:argumentsE t≠0:=by simpa using ‹(argumentsE t != 0)=true›
    go_ret
    exact ⟨ret_int (by rw [←HF.out,if_neg (by rw [HZ.out.1 (by omega)];simp),if_neg (by rw [HZ.out.2.1 (by omega)];simp),if_neg (by rw [HZ.out.2.2.1 (by omega)];simp)]),hbb⟩
   ·have hne:argumentsE t=0:=by simpa using ‹(argumentsE t != 0)=false›
    go_roundg (gk - 1)
    case measure=>omega
    case rel=>exact ⟨3+1,by omega,by go_num,⟨fun _=>HZ.out.1 (by omega),fun _=>HZ.out.2.1 (by omega),fun _=>HZ.out.2.2.1 (by omega),fun _=>hne⟩,hbb,by have:=hB5.size;omega,fun o=>(hc5 _ o (by omega)).trans (HC.out o),(hc5 _ 0 (by omega)).trans c0,(hc5 _ 1 (by omega)).trans c1,(hc5 _ 2 (by omega)).trans c2,(hc5 _ 3 (by omega)).trans c3⟩
  ·go_wp2_with fail
   go_ret
   exact ⟨ret_int (by rw [←HF.out,if_neg (by rw [HZ.out.1 (by omega)];simp),if_neg (by rw [HZ.out.2.1 (by omega)];simp),if_neg (by rw [HZ.out.2.2.1 (by omega)];simp),HZ.out.2.2.2 (by omega)]),hb⟩
def stepB (k:Int) (j:Nat):Bool:=k==10&&j==1
mutual
def chkT (pl d mo:Int) (inn:Bool):GT→Int×Int
 | ⟨k,v,vs,lo,hi,ws,p,l⟩=>if mo < d then (pl,9) else if nodeT ⟨k,v,vs,lo,hi,ws,p,l⟩≠0 then (pl,nodeT ⟨k,v,vs,lo,hi,ws,p,l⟩) else if k=11∧inn=false then (pl,10) else chkTs (pl+1) (d+1) mo inn k 0 l
def chkTs (pl d mo:Int) (inn:Bool) (k:Int) (i:Nat):List GT→Int×Int
 | []=>(pl,0)
 | x::l=>if (chkT pl d mo (inn||stepB k i) x).2≠0 then chkT pl d mo (inn||stepB k i) x else chkTs (chkT pl d mo (inn||stepB k i) x).1 d mo inn k (i+1) l
end
theorem chkT_eq (pl d mo:Int) (inn:Bool) (t:GT):chkT pl d mo inn t=if mo < d then (pl,9) else if nodeT t≠0 then (pl,nodeT t) else if t.k=11∧inn=false then (pl,10) else chkTs (pl+1) (d+1) mo inn t.k 0 t.a:=by cases t;simp only [chkT]
theorem chkTs_append (d mo:Int) (inn:Bool) (k:Int):∀(a b:List GT) (pl:Int) (i:Nat),chkTs pl d mo inn k i (a++b)=if (chkTs pl d mo inn k i a).2≠0 then chkTs pl d mo inn k i a else chkTs (chkTs pl d mo inn k i a).1 d mo inn k (i+a.length) b
 | [],b,pl,i=>by simp [chkTs]
 | x::a,b,pl,i=>by
  simp only [List.cons_append,chkTs,List.length_cons]
  split
  ·rename_i h;simp [h]
  ·rename_i h;rw [chkTs_append d mo inn k a b _ (i+1),show i+1+a.length=i+(a.length+1) by omega]
mutual
theorem chkT_place (mo:Int):∀(t:GT) (pl d:Int) (inn:Bool),pl≤(chkT pl d mo inn t).1∧(chkT pl d mo inn t).1≤pl+sizeT t
 | ⟨k,v,vs,lo,hi,ws,p,l⟩,pl,d,inn=>by
  have:=chkTs_place mo l (pl+1) (d+1) inn k 0
  simp only [chkT,sizeT]
  split
  ·simp;omega
  ·split
   ·simp;omega
   ·split
    ·simp;omega
    ·omega
theorem chkTs_place (mo:Int):∀(l:List GT) (pl d:Int) (inn:Bool) (k:Int) (i:Nat),pl≤(chkTs pl d mo inn k i l).1∧(chkTs pl d mo inn k i l).1≤pl+sizeTs l
 | [],pl,d,inn,k,i=>by simp [chkTs,sizeTs]
 | x::l,pl,d,inn,k,i=>by
  have h1:=chkT_place mo x pl d (inn||stepB k i)
  have h2:=chkTs_place mo l (chkT pl d mo (inn||stepB k i) x).1 d inn k (i+1)
  simp only [chkTs,sizeTs]
  split<;>omega
end
theorem chkTs_take (pl d mo:Int) (inn:Bool) (k:Int) (l:List GT) (j:Nat) (h:j < l.length) (h0:(chkTs pl d mo inn k 0 (l.take j)).2=0):
  chkTs pl d mo inn k 0 (l.take (j+1))=chkT (chkTs pl d mo inn k 0 (l.take j)).1 d mo (inn||stepB k j) l[j]:=by
 rw [List.take_succ_eq_append_getElem h,chkTs_append,if_neg (by simp [h0])]
 simp only [chkTs,List.length_take]
 rw [show 0+min j l.length=j by omega]
 split
 ·rfl
 ·rename_i h;ext<;>simp_all
theorem chkTs_stop (pl d mo:Int) (inn:Bool) (k:Int) (l:List GT) (j:Nat) (h0:(chkTs pl d mo inn k 0 (l.take j)).2≠0):chkTs pl d mo inn k 0 l=chkTs pl d mo inn k 0 (l.take j):=by
 conv=>lhs;rw [←List.take_append_drop j l]
 rw [chkTs_append,if_pos h0]
theorem sizeTs_take:∀(l:List GT) (j:Nat),sizeTs (l.take j)≤sizeTs l
 | [],j=>by simp
 | x::l,0=>by simp [sizeTs]
 | x::l,j+1=>by have:=sizeTs_take l j;simp only [List.take_succ_cons,sizeTs];omega
theorem sizeTs_take_succ:∀(l:List GT) (j:Nat) (h:j < l.length),sizeTs (l.take (j+1))=sizeTs (l.take j)+sizeT l[j]
 | x::l,0,_=>by simp [sizeTs]
 | x::l,j+1,h=>by have:=sizeTs_take_succ l j (by simpa using h);simp only [List.take_succ_cons,sizeTs,List.getElem_cons_succ] at this ⊢;omega
def CheckIH (N:Nat) (mo:Int):Prop:=∀(t:GT) (w:World) (A:Nat→Prop) (m:TA) (pl d:Int) (inn:Bool),sizeT t≤N→okT t→0≤pl→pl+sizeT t≤1099511627776→0≤d→d+sizeT t≤2199023255552→RT w A t m →
  Calls Tryz.prog 58 #[TV t m,.int .i64 pl,.int .i64 d,.int .i64 mo,.bool inn] w fun e w'=>e=.returned (.tuple #[.int .i64 (chkT pl d mo inn t).1,.int .i64 (chkT pl d mo inn t).2])∧Below w.heap.size w w'
set_option maxRecDepth 100000 in
set_option maxHeartbeats 2000000 in
theorem checkT_loopF (N:Nat) (mo:Int) (hmo0:0≤mo) (hmo1:mo≤4611686018427387904) (ih:CheckIH N mo) (t:GT) (w:World) (A:Nat→Prop) (m:TA) (pl d:Int) (hN:sizeT t≤N+1) (ox:okT t) (hp0:0≤pl) (hp1:pl+sizeT t≤1099511627776)
  (hd0:0≤d) (hd1:d+sizeT t≤2199023255552) (hl:RT w A t m) (hd:¬mo < d) (hn:nodeT t=0) (h11':(t.k==11)=false):
  Calls Tryz.prog 58 #[TV t m,.int .i64 pl,.int .i64 d,.int .i64 mo,.bool false] w fun e w'=>e=.returned (.tuple #[.int .i64 (chkTs (pl+1) (d+1) mo false t.k 0 t.a).1,.int .i64 (chkTs (pl+1) (d+1) mo false t.k 0 t.a).2])∧Below w.heap.size w w':=by
 obtain ⟨ma,mb,mc,md,me,mf,mg,mh,mi,mj,mk,ml⟩:=m
 have IH:=hid ih
 have HL:=hid (RT_iff.1 hl).2.2.2.2
 have HT:=hid hl
 have OX:=hid ox
 obtain ⟨⟨x1,x2⟩,ov,⟨ovl,ovs⟩,⟨l1,l2⟩,⟨l3,l4⟩,⟨owl,ow⟩,op,oal,oa⟩:=okT_iff.1 ox
 have O:=hid oa
 have hse:=sizeT_eq t
 have hsv:=sizeV_pos t.v
 have hsp:=sizeP_pos t.p
 clear ih hl ox oa ov ovs ow op
 have hsz:sizeT t≤1099511627776:=by omega
 have HN:=hid hn
 have hn':(nodeT t != 0)=false:=by simp [hn]
 have hn2:(nodeT t==0)=true:=by simp [hn]
 clear hn
 generalize hF:chkTs (pl+1) (d+1) mo false t.k 0 t.a=F
 have HF:=hid hF
 clear hF
 go_enter Tryz.func58,Tryz.ntmps58
 go_wp2_with (go_at_call 85;refine (nodeT_any t A ⟨ma,mb,mc,md,me,mf,mg,mh,mi,mj,mk,ml⟩ _ OX.out hsz (by exact RT.ext (Agree.below Below.z) _ _ HT.out)).mono ?_;rintro e w1 ⟨rfl,hb⟩;have hB1:=hb;clear hb;obtain ⟨hc1,hf1⟩:=bcells hB1)
 go_loopg [1,12,42] (t.a.length) (fun gk t1 t12 i wr=>∃j:Nat,gk+j=t.a.length∧i=.int .i64 j∧t1=.int .i64 (chkTs (pl+1) (d+1) mo false t.k 0 (t.a.take j)).1∧t12=.int .i64 0∧Hid ((chkTs (pl+1) (d+1) mo false t.k 0 (t.a.take j)).2=0)∧Below w.heap.size w wr∧w.heap.size < wr.heap.size∧wr.cell? ⟨w.heap.size,0,none⟩=some (.int .u8 t.k))
 case atStart=>exact ⟨0,by omega,rfl,by simp [chkTs],by rw [HN.out],by simp [chkTs,Hid],Below.z,by have:=hB1.size;simp at this;omega,by go_simp⟩
 case round=>
  obtain ⟨j,hj,rfl,rfl,rfl,HZ,hb,hz,hbx⟩:=hrel
  by_cases hlt:j < t.a.length
  ·obtain ⟨b,o,mj',rfl,hA,hbs,g0,gx⟩:=HL.out.get j hlt
   obtain ⟨k0,k1,k2,k3,k4,k5,k6,k7,k8,k9,ka,kb,kc,kd,ke⟩:=At15.1 (g0.ext (Agree.below hb) (A:=fun _=>True) trivial)
   have hs1:b < wr.heap.size:=by omega
   have hq:=chkTs_place mo (t.a.take j) (pl+1) (d+1) false t.k 0
   have hq1:=sizeTs_take t.a j
   have hq2:=sizeTs_take_succ t.a j hlt
   have hq3:=sizeTs_take t.a (j+1)
   have hst:=chkTs_take (pl+1) (d+1) mo false t.k t.a j hlt HZ.out
   clear g0
   generalize hQ:(chkTs (pl+1) (d+1) mo false t.k 0 (t.a.take j)).1=Q at *
   have HQ:=hid hQ
   clear hQ
   cases hk10:(t.k==10)
   ·have hstb:(false||stepB t.k j)=false:=by simp [stepB,hk10]
    rw [hstb] at hst
    have HST:=hid hst
    clear hst hstb
    go_wp2_with (go_at_call 58;refine (IH.out t.a[j] _ A mj' Q (d+1) false (by omega) (O.out.get j hlt) (by omega) (by omega) (by omega) (by omega) (by exact RT.ext (Agree.below Below.z) _ _ gx)).mono ?_;rintro e w2 ⟨rfl,hb2⟩)
    all_goals have hbb:Below w.heap.size w w2:=(hb.alloc (by omega) _).trans (hb2.mono (by simp;omega))
    ·have hne:(chkT Q (d+1) mo false t.a[j]).2≠0:=by simpa using ‹((chkT Q (d+1) mo false t.a[j]).2 != 0)=true›
     go_ret2
     have h1:chkT Q (d+1) mo false t.a[j]=F:=by rw [←HF.out,←HST.out];exact (chkTs_stop _ _ _ _ _ _ _ (by rw [HST.out];exact hne)).symm
     exact ⟨ret_ii (congrArg Prod.fst h1) (congrArg Prod.snd h1),hbb⟩
    ·have hne:(chkT Q (d+1) mo false t.a[j]).2=0:=by simpa using ‹((chkT Q (d+1) mo false t.a[j]).2 != 0)=false›
     go_roundg (gk - 1)
     case measure=>omega
     case rel=>exact ⟨j+1,by omega,by go_num,by rw [HST.out],by rw [hne],by rw [HST.out];exact hne,hbb,by have:=hb2.size;simp at this;omega,(hb2.cell (by simp;omega)).trans (by go_simp)⟩
   ·by_cases hj1:j=1
    ·have hj1':((j:Int)==1)=true:=by rw [hj1];rfl
     have hstb:(false||stepB t.k j)=true:=by simp [stepB,hk10,hj1]
     rw [hstb] at hst
     have HST:=hid hst
     have HJ1:=hid hj1
     clear hst hstb hj1
     go_wp2_with (go_at_call 58;refine (IH.out t.a[j] _ A mj' Q (d+1) true (by omega) (O.out.get j hlt) (by omega) (by omega) (by omega) (by omega) (by exact RT.ext (Agree.below Below.z) _ _ gx)).mono ?_;rintro e w2 ⟨rfl,hb2⟩)
     all_goals have hbb:Below w.heap.size w w2:=(hb.alloc (by omega) _).trans (hb2.mono (by simp;omega))
     ·have hne:(chkT Q (d+1) mo true t.a[j]).2≠0:=by simpa using ‹((chkT Q (d+1) mo true t.a[j]).2 != 0)=true›
      go_ret2
      have h1:chkT Q (d+1) mo true t.a[j]=F:=by rw [←HF.out,←HST.out];exact (chkTs_stop _ _ _ _ _ _ _ (by rw [HST.out];exact hne)).symm
      exact ⟨ret_ii (congrArg Prod.fst h1) (congrArg Prod.snd h1),hbb⟩
     ·have hne:(chkT Q (d+1) mo true t.a[j]).2=0:=by simpa using ‹((chkT Q (d+1) mo true t.a[j]).2 != 0)=false›
      go_roundg (gk - 1)
      case measure=>omega
      case rel=>exact ⟨j+1,by omega,by go_num,by rw [HST.out],by rw [hne],by rw [HST.out];exact hne,hbb,by have:=hb2.size;simp at this;omega,(hb2.cell (by simp;omega)).trans (by go_simp)⟩
    ·have hj1':((j:Int)==1)=false:=beq_eq_false_iff_ne.2 (by omega)
     have hstb:(false||stepB t.k j)=false:=by simp [stepB,hk10,hj1]
     rw [hstb] at hst
     have HST:=hid hst
     have HJ1:=hid hj1
     clear hst hstb hj1
     go_wp2_with (go_at_call 58;refine (IH.out t.a[j] _ A mj' Q (d+1) false (by omega) (O.out.get j hlt) (by omega) (by omega) (by omega) (by omega) (by exact RT.ext (Agree.below Below.z) _ _ gx)).mono ?_;rintro e w2 ⟨rfl,hb2⟩)
     all_goals have hbb:Below w.heap.size w w2:=(hb.alloc (by omega) _).trans (hb2.mono (by simp;omega))
     ·have hne:(chkT Q (d+1) mo false t.a[j]).2≠0:=by simpa using ‹((chkT Q (d+1) mo false t.a[j]).2 != 0)=true›
      go_ret2
      have h1:chkT Q (d+1) mo false t.a[j]=F:=by rw [←HF.out,←HST.out];exact (chkTs_stop _ _ _ _ _ _ _ (by rw [HST.out];exact hne)).symm
      exact ⟨ret_ii (congrArg Prod.fst h1) (congrArg Prod.snd h1),hbb⟩
     ·have hne:(chkT Q (d+1) mo false t.a[j]).2=0:=by simpa using ‹((chkT Q (d+1) mo false t.a[j]).2 != 0)=false›
      go_roundg (gk - 1)
      case measure=>omega
      case rel=>exact ⟨j+1,by omega,by go_num,by rw [HST.out],by rw [hne],by rw [HST.out];exact hne,hbb,by have:=hb2.size;simp at this;omega,(hb2.cell (by simp;omega)).trans (by go_simp)⟩
  ·have hjl:j=t.a.length:=by omega
   go_wp2_with fail
   go_ret2
   have h1:chkTs (pl+1) (d+1) mo false t.k 0 (t.a.take j)=F:=by rw [hjl,List.take_length];exact HF.out
   exact ⟨ret_ii (by rw [h1]) (by rw [←h1,HZ.out]),hb⟩
set_option maxRecDepth 100000 in
set_option maxHeartbeats 2000000 in
theorem checkT_loopT (N:Nat) (mo:Int) (hmo0:0≤mo) (hmo1:mo≤4611686018427387904) (ih:CheckIH N mo) (t:GT) (w:World) (A:Nat→Prop) (m:TA) (pl d:Int) (hN:sizeT t≤N+1) (ox:okT t) (hp0:0≤pl) (hp1:pl+sizeT t≤1099511627776)
  (hd0:0≤d) (hd1:d+sizeT t≤2199023255552) (hl:RT w A t m) (hd:¬mo < d) (hn:nodeT t=0) (b:Bool) (h11':(t.k==11)=b):
  Calls Tryz.prog 58 #[TV t m,.int .i64 pl,.int .i64 d,.int .i64 mo,.bool true] w fun e w'=>e=.returned (.tuple #[.int .i64 (chkTs (pl+1) (d+1) mo true t.k 0 t.a).1,.int .i64 (chkTs (pl+1) (d+1) mo true t.k 0 t.a).2])∧Below w.heap.size w w':=by
 obtain ⟨ma,mb,mc,md,me,mf,mg,mh,mi,mj,mk,ml⟩:=m
 have IH:=hid ih
 have HL:=hid (RT_iff.1 hl).2.2.2.2
 have HT:=hid hl
 have OX:=hid ox
 obtain ⟨⟨x1,x2⟩,ov,⟨ovl,ovs⟩,⟨l1,l2⟩,⟨l3,l4⟩,⟨owl,ow⟩,op,oal,oa⟩:=okT_iff.1 ox
 have O:=hid oa
 have hse:=sizeT_eq t
 have hsv:=sizeV_pos t.v
 have hsp:=sizeP_pos t.p
 clear ih hl ox oa ov ovs ow op
 have hsz:sizeT t≤1099511627776:=by omega
 have HN:=hid hn
 have hn':(nodeT t != 0)=false:=by simp [hn]
 have hn2:(nodeT t==0)=true:=by simp [hn]
 clear hn
 generalize hF:chkTs (pl+1) (d+1) mo true t.k 0 t.a=F
 have HF:=hid hF
 clear hF
 cases b
 ·go_enter Tryz.func58,Tryz.ntmps58
  go_wp2_with (go_at_call 85;refine (nodeT_any t A ⟨ma,mb,mc,md,me,mf,mg,mh,mi,mj,mk,ml⟩ _ OX.out hsz (by exact RT.ext (Agree.below Below.z) _ _ HT.out)).mono ?_;rintro e w1 ⟨rfl,hb⟩;have hB1:=hb;clear hb;obtain ⟨hc1,hf1⟩:=bcells hB1)
  go_loopg [1,12,42] (t.a.length) (fun gk t1 t12 i wr=>∃j:Nat,gk+j=t.a.length∧i=.int .i64 j∧t1=.int .i64 (chkTs (pl+1) (d+1) mo true t.k 0 (t.a.take j)).1∧t12=.int .i64 0∧Hid ((chkTs (pl+1) (d+1) mo true t.k 0 (t.a.take j)).2=0)∧Below w.heap.size w wr∧w.heap.size < wr.heap.size∧wr.cell? ⟨w.heap.size,0,none⟩=some (.int .u8 t.k))
  case atStart=>exact ⟨0,by omega,rfl,by simp [chkTs],by rw [HN.out],by simp [chkTs,Hid],Below.z,by have:=hB1.size;simp at this;omega,by go_simp⟩
  case round=>
   obtain ⟨j,hj,rfl,rfl,rfl,HZ,hb,hz,hbx⟩:=hrel
   by_cases hlt:j < t.a.length
   ·obtain ⟨b,o,mj',rfl,hA,hbs,g0,gx⟩:=HL.out.get j hlt
    obtain ⟨k0,k1,k2,k3,k4,k5,k6,k7,k8,k9,ka,kb,kc,kd,ke⟩:=At15.1 (g0.ext (Agree.below hb) (A:=fun _=>True) trivial)
    have hs1:b < wr.heap.size:=by omega
    have hq:=chkTs_place mo (t.a.take j) (pl+1) (d+1) true t.k 0
    have hq1:=sizeTs_take t.a j
    have hq2:=sizeTs_take_succ t.a j hlt
    have hq3:=sizeTs_take t.a (j+1)
    have hst:=chkTs_take (pl+1) (d+1) mo true t.k t.a j hlt HZ.out
    clear g0
    generalize hQ:(chkTs (pl+1) (d+1) mo true t.k 0 (t.a.take j)).1=Q at *
    have HQ:=hid hQ
    clear hQ
    have hstb:(true||stepB t.k j)=true:=rfl
    rw [hstb] at hst
    have HST:=hid hst
    clear hst hstb
    cases hk10:(t.k==10)
    ·go_wp2_with (go_at_call 58;refine (IH.out t.a[j] _ A mj' Q (d+1) true (by omega) (O.out.get j hlt) (by omega) (by omega) (by omega) (by omega) (by exact RT.ext (Agree.below Below.z) _ _ gx)).mono ?_;rintro e w2 ⟨rfl,hb2⟩)
     all_goals have hbb:Below w.heap.size w w2:=(hb.alloc (by omega) _).trans (hb2.mono (by simp;omega))
     ·have hne:(chkT Q (d+1) mo true t.a[j]).2≠0:=by simpa using ‹((chkT Q (d+1) mo true t.a[j]).2 != 0)=true›
      go_ret2
      have h1:chkT Q (d+1) mo true t.a[j]=F:=by rw [←HF.out,←HST.out];exact (chkTs_stop _ _ _ _ _ _ _ (by rw [HST.out];exact hne)).symm
      exact ⟨ret_ii (congrArg Prod.fst h1) (congrArg Prod.snd h1),hbb⟩
     ·have hne:(chkT Q (d+1) mo true t.a[j]).2=0:=by simpa using ‹((chkT Q (d+1) mo true t.a[j]).2 != 0)=false›
      go_roundg (gk - 1)
      case measure=>omega
      case rel=>exact ⟨j+1,by omega,by go_num,by rw [HST.out],by rw [hne],by rw [HST.out];exact hne,hbb,by have:=hb2.size;simp at this;omega,(hb2.cell (by simp;omega)).trans (by go_simp)⟩
    ·by_cases hj1:j=1
     ·have hj1':((j:Int)==1)=true:=by rw [hj1];rfl
      have HJ1:=hid hj1
      clear hj1
      go_wp2_with (go_at_call 58;refine (IH.out t.a[j] _ A mj' Q (d+1) true (by omega) (O.out.get j hlt) (by omega) (by omega) (by omega) (by omega) (by exact RT.ext (Agree.below Below.z) _ _ gx)).mono ?_;rintro e w2 ⟨rfl,hb2⟩)
      all_goals have hbb:Below w.heap.size w w2:=(hb.alloc (by omega) _).trans (hb2.mono (by simp;omega))
      ·have hne:(chkT Q (d+1) mo true t.a[j]).2≠0:=by simpa using ‹((chkT Q (d+1) mo true t.a[j]).2 != 0)=true›
       go_ret2
       have h1:chkT Q (d+1) mo true t.a[j]=F:=by rw [←HF.out,←HST.out];exact (chkTs_stop _ _ _ _ _ _ _ (by rw [HST.out];exact hne)).symm
       exact ⟨ret_ii (congrArg Prod.fst h1) (congrArg Prod.snd h1),hbb⟩
      ·have hne:(chkT Q (d+1) mo true t.a[j]).2=0:=by simpa using ‹((chkT Q (d+1) mo true t.a[j]).2 != 0)=false›
       go_roundg (gk - 1)
       case measure=>omega
       case rel=>exact ⟨j+1,by omega,by go_num,by rw [HST.out],by rw [hne],by rw [HST.out];exact hne,hbb,by have:=hb2.size;simp at this;omega,(hb2.cell (by simp;omega)).trans (by go_simp)⟩
     ·have hj1':((j:Int)==1)=false:=beq_eq_false_iff_ne.2 (by omega)
      have HJ1:=hid hj1
      clear hj1
      go_wp2_with (go_at_call 58;refine (IH.out t.a[j] _ A mj' Q (d+1) true (by omega) (O.out.get j hlt) (by omega) (by omega) (by omega) (by omega) (by exact RT.ext (Agree.below Below.z) _ _ gx)).mono ?_;rintro e w2 ⟨rfl,hb2⟩)
      all_goals have hbb:Below w.heap.size w w2:=(hb.alloc (by omega) _).trans (hb2.mono (by simp;omega))
      ·have hne:(chkT Q (d+1) mo true t.a[j]).2≠0:=by simpa using ‹((chkT Q (d+1) mo true t.a[j]).2 != 0)=true›
       go_ret2
       have h1:chkT Q (d+1) mo true t.a[j]=F:=by rw [←HF.out,←HST.out];exact (chkTs_stop _ _ _ _ _ _ _ (by rw [HST.out];exact hne)).symm
       exact ⟨ret_ii (congrArg Prod.fst h1) (congrArg Prod.snd h1),hbb⟩
      ·have hne:(chkT Q (d+1) mo true t.a[j]).2=0:=by simpa using ‹((chkT Q (d+1) mo true t.a[j]).2 != 0)=false›
       go_roundg (gk - 1)
       case measure=>omega
       case rel=>exact ⟨j+1,by omega,by go_num,by rw [HST.out],by rw [hne],by rw [HST.out];exact hne,hbb,by have:=hb2.size;simp at this;omega,(hb2.cell (by simp;omega)).trans (by go_simp)⟩
   ·have hjl:j=t.a.length:=by omega
    go_wp2_with fail
    go_ret2
    have h1:chkTs (pl+1) (d+1) mo true t.k 0 (t.a.take j)=F:=by rw [hjl,List.take_length];exact HF.out
    exact ⟨ret_ii (by rw [h1]) (by rw [←h1,HZ.out]),hb⟩
 ·go_enter Tryz.func58,Tryz.ntmps58
  go_wp2_with (go_at_call 85;refine (nodeT_any t A ⟨ma,mb,mc,md,me,mf,mg,mh,mi,mj,mk,ml⟩ _ OX.out hsz (by exact RT.ext (Agree.below Below.z) _ _ HT.out)).mono ?_;rintro e w1 ⟨rfl,hb⟩;have hB1:=hb;clear hb;obtain ⟨hc1,hf1⟩:=bcells hB1)
  go_loopg [1,12,42] (t.a.length) (fun gk t1 t12 i wr=>∃j:Nat,gk+j=t.a.length∧i=.int .i64 j∧t1=.int .i64 (chkTs (pl+1) (d+1) mo true t.k 0 (t.a.take j)).1∧t12=.int .i64 0∧Hid ((chkTs (pl+1) (d+1) mo true t.k 0 (t.a.take j)).2=0)∧Below w.heap.size w wr∧w.heap.size < wr.heap.size∧wr.cell? ⟨w.heap.size,0,none⟩=some (.int .u8 t.k))
  case atStart=>exact ⟨0,by omega,rfl,by simp [chkTs],by rw [HN.out],by simp [chkTs,Hid],Below.z,by have:=hB1.size;simp at this;omega,by go_simp⟩
  case round=>
   obtain ⟨j,hj,rfl,rfl,rfl,HZ,hb,hz,hbx⟩:=hrel
   by_cases hlt:j < t.a.length
   ·obtain ⟨b,o,mj',rfl,hA,hbs,g0,gx⟩:=HL.out.get j hlt
    obtain ⟨k0,k1,k2,k3,k4,k5,k6,k7,k8,k9,ka,kb,kc,kd,ke⟩:=At15.1 (g0.ext (Agree.below hb) (A:=fun _=>True) trivial)
    have hs1:b < wr.heap.size:=by omega
    have hq:=chkTs_place mo (t.a.take j) (pl+1) (d+1) true t.k 0
    have hq1:=sizeTs_take t.a j
    have hq2:=sizeTs_take_succ t.a j hlt
    have hq3:=sizeTs_take t.a (j+1)
    have hst:=chkTs_take (pl+1) (d+1) mo true t.k t.a j hlt HZ.out
    clear g0
    generalize hQ:(chkTs (pl+1) (d+1) mo true t.k 0 (t.a.take j)).1=Q at *
    have HQ:=hid hQ
    clear hQ
    have hstb:(true||stepB t.k j)=true:=rfl
    rw [hstb] at hst
    have HST:=hid hst
    clear hst hstb
    have hk10:(t.k==10)=false:=by have h:=beq_iff_eq.1 h11';rw [h];rfl
    go_wp2_with (go_at_call 58;refine (IH.out t.a[j] _ A mj' Q (d+1) true (by omega) (O.out.get j hlt) (by omega) (by omega) (by omega) (by omega) (by exact RT.ext (Agree.below Below.z) _ _ gx)).mono ?_;rintro e w2 ⟨rfl,hb2⟩)
    all_goals have hbb:Below w.heap.size w w2:=(hb.alloc (by omega) _).trans (hb2.mono (by simp;omega))
    ·have hne:(chkT Q (d+1) mo true t.a[j]).2≠0:=by simpa using ‹((chkT Q (d+1) mo true t.a[j]).2 != 0)=true›
     go_ret2
     have h1:chkT Q (d+1) mo true t.a[j]=F:=by rw [←HF.out,←HST.out];exact (chkTs_stop _ _ _ _ _ _ _ (by rw [HST.out];exact hne)).symm
     exact ⟨ret_ii (congrArg Prod.fst h1) (congrArg Prod.snd h1),hbb⟩
    ·have hne:(chkT Q (d+1) mo true t.a[j]).2=0:=by simpa using ‹((chkT Q (d+1) mo true t.a[j]).2 != 0)=false›
     go_roundg (gk - 1)
     case measure=>omega
     case rel=>exact ⟨j+1,by omega,by go_num,by rw [HST.out],by rw [hne],by rw [HST.out];exact hne,hbb,by have:=hb2.size;simp at this;omega,(hb2.cell (by simp;omega)).trans (by go_simp)⟩
   ·have hjl:j=t.a.length:=by omega
    go_wp2_with fail
    go_ret2
    have h1:chkTs (pl+1) (d+1) mo true t.k 0 (t.a.take j)=F:=by rw [hjl,List.take_length];exact HF.out
    exact ⟨ret_ii (by rw [h1]) (by rw [←h1,HZ.out]),hb⟩
set_option maxRecDepth 100000 in
set_option maxHeartbeats 2000000 in
theorem checkT_any (N:Nat) (mo:Int) (hmo:0≤mo∧mo≤4611686018427387904):∀(t:GT) (w:World) (A:Nat→Prop) (m:TA) (pl d:Int) (inn:Bool),sizeT t≤N→okT t→0≤pl→pl+sizeT t≤1099511627776→0≤d→d+sizeT t≤2199023255552→RT w A t m →
  Calls Tryz.prog 58 #[TV t m,.int .i64 pl,.int .i64 d,.int .i64 mo,.bool inn] w fun e w'=>e=.returned (.tuple #[.int .i64 (chkT pl d mo inn t).1,.int .i64 (chkT pl d mo inn t).2])∧Below w.heap.size w w':=by
 obtain ⟨hmo0,hmo1⟩:=hmo
 induction N with
 | zero=>intro t;have:=sizeT_pos t;intros;omega
 | succ N ih=>
  rintro t w A ⟨ma,mb,mc,md,me,mf,mg,mh,mi,mj,mk,ml⟩ pl d inn hN ox hp0 hp1 hd0 hd1 hl
  have IH:=hid ih
  have HL:=hid (RT_iff.1 hl).2.2.2.2
  have HT:=hid hl
  have OX:=hid ox
  obtain ⟨⟨x1,x2⟩,ov,⟨ovl,ovs⟩,⟨l1,l2⟩,⟨l3,l4⟩,⟨owl,ow⟩,op,oal,oa⟩:=okT_iff.1 ox
  have O:=hid oa
  have hse:=sizeT_eq t
  have hsv:=sizeV_pos t.v
  have hsp:=sizeP_pos t.p
  clear ih hl ox oa ov ovs ow op
  rw [chkT_eq]
  by_cases hd:mo < d
  ·rw [if_pos hd]
   go_enter Tryz.func58,Tryz.ntmps58
   go_wp2_with fail
   go_ret2
   exact ⟨rfl,Below.z⟩
  rw [if_neg hd]
  have hsz:sizeT t≤1099511627776:=by omega
  by_cases hn:nodeT t=0
  case neg=>
   rw [if_pos hn]
   have hn':(nodeT t != 0)=true:=by simp [hn]
   have hn2:(nodeT t==0)=false:=by simp [hn]
   clear hn
   go_enter Tryz.func58,Tryz.ntmps58
   go_wp2_with (go_at_call 85;refine (nodeT_any t A ⟨ma,mb,mc,md,me,mf,mg,mh,mi,mj,mk,ml⟩ _ OX.out hsz (by exact RT.ext (Agree.below Below.z) _ _ HT.out)).mono ?_;rintro e w1 ⟨rfl,hb⟩;have hB1:=hb;clear hb;obtain ⟨hc1,hf1⟩:=bcells hB1)
   go_ret2
   exact ⟨rfl,Below.z⟩
  rw [if_neg (by simp [hn])]
  have HN:=hid hn
  have hn':(nodeT t != 0)=false:=by simp [hn]
  have hn2:(nodeT t==0)=true:=by simp [hn]
  clear hn
  by_cases h11:t.k=11∧inn=false
  ·rw [if_pos h11]
   obtain ⟨h11,rfl⟩:=h11
   have h11':(t.k==11)=true:=by simp [h11]
   clear h11
   go_enter Tryz.func58,Tryz.ntmps58
   go_wp2_with (go_at_call 85;refine (nodeT_any t A ⟨ma,mb,mc,md,me,mf,mg,mh,mi,mj,mk,ml⟩ _ OX.out hsz (by exact RT.ext (Agree.below Below.z) _ _ HT.out)).mono ?_;rintro e w1 ⟨rfl,hb⟩;have hB1:=hb;clear hb;obtain ⟨hc1,hf1⟩:=bcells hB1)
   go_ret2
   exact ⟨rfl,Below.z⟩
  rw [if_neg h11]
  cases inn
  ·have h11':(t.k==11)=false:=by
    cases h:(t.k==11)
    ·rfl
    ·exact absurd ⟨by simpa using h,rfl⟩ h11
   exact checkT_loopF N mo hmo0 hmo1 IH.out t w A ⟨ma,mb,mc,md,me,mf,mg,mh,mi,mj,mk,ml⟩ pl d hN OX.out hp0 hp1 hd0 hd1 HT.out hd HN.out h11'
  ·exact checkT_loopT N mo hmo0 hmo1 IH.out t w A ⟨ma,mb,mc,md,me,mf,mg,mh,mi,mj,mk,ml⟩ pl d hN OX.out hp0 hp1 hd0 hd1 HT.out hd HN.out _ rfl
end Go.Proofs.YtclphfojkggcpaaGreat
