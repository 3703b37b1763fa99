/- Part 7. -/
import Derived.Test.YtkdffbdnjfgpeaaGreatY4
set_option linter.all false
namespace Go.Proofs.YtkdffbdnjfgpeaaGreat
open Go.Lib (hid)
open Go Go.RowKit Go.Proofs.Tryz
theorem XA {a b:Bool} (h:a=b):Ending.returned (.bool a)=.returned (.bool b):=by rw [h]
def Zw (p:GP):Int×Int:=if (XF 0 1 p).2≠0 then XF 0 1 p else if 512 < (Xg p:Int) then (0,5) else (0,0)
set_option maxRecDepth 100000
theorem XJ (p:GP) (w:World) (A:Nat→Prop) (m:PA) (ox:okP p) (hs:Zm p≤1099511627776) (hl:RP w A p m):
  Calls prog 258 #[PV p m] w fun e w'=>e=.returned (.tuple #[.int .i64 (Zw p).1,.int .i64 (Zw p).2])∧Below w.heap.size w w':=by
 obtain ⟨ma,mc,mb,md⟩:=m
 have HL:=hid hl
 have OX:=hid ox
 have hnl:=Yv p
 clear hl ox
 unfold Zw
 by_cases h1:(XF 0 1 p).2=0
 case neg=>
  have h1':((XF 0 1 p).2 != 0)=true:=by simp [h1]
  rw [if_pos h1]
  clear h1
  go_enter func258,ntmps258
  go_wp2_with (go_at_call 282;refine (Zci _ p _ A ⟨ma,mc,mb,md⟩ 0 1 (Nat.le_refl _) OX.out om om om om (by exact Zub az _ _ HL.out)).mono ?_;rintro e w1 ⟨rfl,hb⟩;have hB1:=hb;clear hb;obtain ⟨hc1,hf1⟩:=Za hB1)
  go_ret2
  exact ⟨rfl,ZtX⟩
 have h1':((XF 0 1 p).2 != 0)=false:=by simp [h1]
 rw [if_neg (by simp [h1])]
 clear h1
 generalize hF:(if 512 < (Xg p:Int) then ((0:Int),(5:Int)) else (0,0))=F
 have HF:=hid hF
 clear hF
 go_enter func258,ntmps258
 go_wp2_with (first
  | (go_at_call 282;refine (Zci _ p _ A ⟨ma,mc,mb,md⟩ 0 1 (Nat.le_refl _) OX.out om om om om (by exact Zub az _ _ HL.out)).mono ?_;rintro e w1 ⟨rfl,hb⟩;have hB1:=hb;clear hb;obtain ⟨hc1,hf1⟩:=Za hB1)
  | (go_at_call 140;refine (ZcB _ p _ A ⟨ma,mc,mb,md⟩ (Nat.le_refl _) OX.out hs (by exact Zub az _ _ HL.out)).mono ?_;rintro e w2 ⟨rfl,hb⟩;have hB2:=Below.trans hB1 (Below.mono hb (Below.size hB1));clear hb;obtain ⟨hc2,hf2⟩:=Za hB2))
 all_goals go_ret2
 all_goals refine ⟨?_,ZtX⟩
 all_goals rw [←HF.out]
 ·rw [if_pos (by assumption)];rfl
 rw [if_neg om];rfl
set_option maxRecDepth 512
def Xo (p:GP):Bool:=(Zw p).2==0
theorem Ve (p:GP) (w:World) (A:Nat→Prop) (m:PA) (ox:okP p) (hs:Zm p≤1099511627776) (hl:RP w A p m):
  Calls prog 269 #[PV p m] w fun e w'=>e=.returned (.bool (Xo p))∧Below w.heap.size w w':=by
 obtain ⟨ma,mc,mb,md⟩:=m
 have HL:=hid hl
 have OX:=hid ox
 clear hl ox
 generalize hF:Xo p=F
 have HF:=hid hF
 clear hF
 go_enter func269,ntmps269
 go_wp2_with (go_at_call 258;refine (XJ p _ A ⟨ma,mc,mb,md⟩ OX.out hs (by exact Zub az _ _ HL.out)).mono ?_;rintro e w1 ⟨rfl,hb⟩;have hB1:=hb;clear hb;obtain ⟨hc1,hf1⟩:=Za hB1)
 all_goals go_ret
 all_goals exact ⟨by rw [←HF.out];simp [Xo],ZtX⟩
def Wi (p:GP):Bool:=p.k==0&&Xw p.v&&p.n==0&&(p.a.length:Int)==0
theorem q66 {p:Prop} (h:p:=by
 go_ret
 all_goals refine ⟨XW ?_,ZtX⟩
 all_goals rw [←HF.out]
 all_goals unfold Wi
 all_goals (first|(simp;done)|(simp [*];done)|(simp_all;done)|(simp_all;omega)|(simp;omega))):p:=h
set_option maxRecDepth 100000
theorem Zd5 (p:GP) (m:PA) (w:World) (ox:okP p):
  Calls prog 259 #[PV p m] w fun e w'=>e=.returned (.bool (Wi p))∧Below w.heap.size w w':=by
 obtain ⟨⟨x1,x2⟩,ov,⟨x3,x4⟩,x5,oa⟩:=Y3.1 ox
 obtain ⟨v1,v2,v3,_⟩:=ZA.1 ov
 have HV:=hid (show Yg p.v.k∧Zv p.v.n∧p.v.l.length≤1048576 from ⟨v1,v2,v3⟩)
 obtain ⟨ma,mc,mb,md⟩:=m
 clear ox oa ov v1 v2
 generalize hF:Wi p=F
 have HF:=hid hF
 clear hF
 go_enter func259,ntmps259
 go_wp2_with (go_at_call 283;refine (Zd4 p.v ⟨ma,mc⟩ _ HV.out).mono ?_;rintro e w1 ⟨rfl,hb⟩;have hB1:=hb;clear hb;obtain ⟨hc1,hf1⟩:=Za hB1)
 all_goals exact q66
theorem XR (p:GP) (m:PA) (w:World) (ox:okP p):
  Calls prog 240 #[PV p m] w fun e w'=>e=.returned (.bool (Wi p))∧Below w.heap.size w w':=by
 obtain ⟨⟨x1,x2⟩,ov,⟨x3,x4⟩,x5,oa⟩:=Y3.1 ox
 obtain ⟨v1,v2,v3,_⟩:=ZA.1 ov
 have HV:=hid (show Yg p.v.k∧Zv p.v.n∧p.v.l.length≤1048576 from ⟨v1,v2,v3⟩)
 obtain ⟨ma,mc,mb,md⟩:=m
 clear ox oa ov v1 v2
 generalize hF:Wi p=F
 have HF:=hid hF
 clear hF
 go_enter func240,ntmps240
 go_wp2_with (go_at_call 275;refine (Zaw p.v ⟨ma,mc⟩ _ HV.out).mono ?_;rintro e w1 ⟨rfl,hb⟩;have hB1:=hb;clear hb;obtain ⟨hc1,hf1⟩:=Za hB1)
 all_goals exact q66
set_option maxRecDepth 512
theorem ZdW (l:List Int) (w:World) (A:Nat→Prop) (wa:Option Addr) (wc:Nat) (ol:okIs l) (hln:l.length≤1048576) (hl:RIs w A l wa):
  Calls prog 144 #[.slice wa l.length wc] w fun e w'=>(∃q,e=.returned (.tuple #[.pointer q,.int .i64 (Yc l)]))∧Below w.heap.size w w':=
 (Uf l w A wa wc ol hln hl).mono fun e w' ⟨hb,h⟩=>⟨by
  rcases h with ⟨_,h⟩|⟨h0,b,a,c,h,_⟩
  ·exact ⟨_,h⟩
  exact ⟨_,by rw [h,h0]⟩,hb⟩
def Vp (t:GT):Int:=if t.k≠3∧t.k≠4 then (if (t.w.length:Int)=0 then 0 else 3) else Yc t.w
def ZB (t:GT):Int:=
 if t.k=9 then (if (Zw t.p).2≠0 then (Zw t.p).2 else Vp t) else if Wi t.p=true then Vp t else 3
def Zn (t:GT):Int:=
 if t.k=3 then Xl t.a.length t.w.length t.w.length
 else if t.k=5∨t.k=7∨t.k=8 then Xl t.a.length 0 64
 else if t.k=6∨t.k=9 then Xl t.a.length 1 1
 else if t.k=10 then Xl t.a.length 2 2
 else if t.k=4 then (if Xl t.vs.length t.w.length t.w.length≠0 then Xl t.vs.length t.w.length t.w.length else Xl t.a.length 0 0)
 else Xl t.a.length 0 0
theorem q62 {p:Prop} (h:p:=by (first|rfl|omega|((try simp only [beq_iff_eq,beq_eq_false_iff_ne,bne_iff_ne,bne_eq_false_iff_eq,decide_eq_true_eq,decide_eq_false_iff_not,ne_eq,Bool.and_eq_true,Bool.or_eq_true,Bool.and_eq_false_iff,Bool.or_eq_false_iff,Bool.not_eq_true',Bool.not_eq_false'] at *);(repeat' split)<;>first|rfl|omega|contradiction|(simp_all;done)|(simp_all;omega)))):p:=h
set_option maxRecDepth 100000
set_option maxHeartbeats 1000000
theorem Zb1 (t:GT) (m:TA) (w:World) (ox:okT t):
  Calls prog 214 #[TV t m] w fun e w'=>e=.returned (.int .i64 (Zn t))∧Below w.heap.size w w':=by
 obtain ⟨⟨x1,x2⟩,ov,⟨ovl,_⟩,⟨l1,l2⟩,⟨l3,l4⟩,⟨owl,_⟩,op,oal,oa⟩:=Ze.1 ox
 obtain ⟨ma,mb,mc,md,me,mf,mg,mh,mi,mj,mk,ml⟩:=m
 clear ox ov oa op
 generalize hF:Zn t=F
 have HF:=hid hF
 clear hF
 go_enter func214,ntmps214
 go_wp2_with (first
  | (go_at_call 261;refine (ZdZ _ _ _ _ ⟨om,om⟩ ⟨om,om⟩ ⟨om,om⟩).mono ?_;rintro e w2 ⟨rfl,hb⟩;have hB2:=Below.trans hB1 (Below.mono hb (Below.size hB1));clear hb;obtain ⟨hc2,hf2⟩:=Za hB2)
  | (go_at_call 261;refine (ZdZ _ _ _ _ ⟨om,om⟩ ⟨om,om⟩ ⟨om,om⟩).mono ?_;rintro e w1 ⟨rfl,hb⟩;have hB1:=hb;clear hb;obtain ⟨hc1,hf1⟩:=Za hB1))
 all_goals go_ret
 all_goals refine ⟨Zf ?_,ZtX⟩
 all_goals rw [←HF.out]
 all_goals unfold Zn
 all_goals exact q62
set_option maxRecDepth 512
def Ya (t:GT):Int:=
 if t.k=2 then (if (Yi t.lo (-1099511627776) t.hi&&Yi t.hi t.lo 1099511627776)=true then 0 else 1)
 else if t.k=6 then (if (Yi t.lo 0 t.hi&&Yi t.hi t.lo 16)=true then 0 else 1)
 else if t.k=8 then (if Yi t.lo 0 t.a.length=true then (if t.hi=0 then 0 else 3) else 1)
 else if t.k=10 then (if Yi t.lo 0 8=true then (if t.hi=0 then 0 else 3) else 1)
 else if t.lo=0∧t.hi=0 then 0 else 3
set_option maxRecDepth 100000
theorem Zh5 (t:GT) (m:TA) (w:World) (ox:okT t):
  Calls prog 213 #[TV t m] w fun e w'=>e=.returned (.int .i64 (Ya t))∧Below w.heap.size w w':=by
 obtain ⟨⟨x1,x2⟩,ov,⟨ovl,_⟩,⟨l1,l2⟩,⟨l3,l4⟩,⟨owl,_⟩,op,oal,oa⟩:=Ze.1 ox
 obtain ⟨ma,mb,mc,md,me,mf,mg,mh,mi,mj,mk,ml⟩:=m
 clear ox ov oa op
 generalize hF:Ya t=F
 have HF:=hid hF
 clear hF
 go_enter func213,ntmps213
 go_wp2_with (first
  | (go_at_call 255;refine (Z9 _ _).mono ?_;rintro e w3 ⟨rfl,hb⟩;have hB3:=Below.trans hB2 (Below.mono hb (Below.size hB2));clear hb;obtain ⟨hc3,hf3⟩:=Za hB3)
  | (go_at_call 255;refine (Z9 _ _).mono ?_;rintro e w3 ⟨rfl,hb⟩;have hB3:=Below.trans hB1 (Below.mono hb (Below.size hB1));clear hb;obtain ⟨hc3,hf3⟩:=Za hB3)
  | (go_at_call 255;refine (Z9 _ _).mono ?_;rintro e w3 ⟨rfl,hb⟩;have hB3:=hb;clear hb;obtain ⟨hc3,hf3⟩:=Za hB3)
  | (go_at_call 260;refine (ZbX _ _ _ _ ⟨om,om⟩ ⟨om,om⟩ ⟨om,om⟩).mono ?_;rintro e w2 ⟨rfl,hb⟩;have hB2:=Below.trans hB1 (Below.mono hb (Below.size hB1));clear hb;obtain ⟨hc2,hf2⟩:=Za hB2)
  | (go_at_call 260;refine (ZbX _ _ _ _ ⟨om,om⟩ ⟨om,om⟩ ⟨om,om⟩).mono ?_;rintro e w1 ⟨rfl,hb⟩;have hB1:=hb;clear hb;obtain ⟨hc1,hf1⟩:=Za hB1))
 all_goals go_ret
 all_goals refine ⟨Zf ?_,ZtX⟩
 all_goals rw [←HF.out]
 all_goals unfold Ya
 all_goals (try unfold Qb)
 all_goals exact q62
theorem ZeK (t:GT) (A:Nat→Prop) (m:TA) (w:World) (ox:okT t) (hs:Zb t≤1099511627776) (hl:RT w A t m):
  Calls prog 212 #[TV t m] w fun e w'=>e=.returned (.int .i64 (ZB t))∧Below w.heap.size w w':=by
 obtain ⟨⟨x1,x2⟩,ov,⟨ovl,_⟩,⟨l1,l2⟩,⟨l3,l4⟩,⟨owl,ow⟩,op,oal,oa⟩:=Ze.1 ox
 obtain ⟨ma,mb,mc,md,me,mf,mg,mh,mi,mj,mk,ml⟩:=m
 obtain ⟨_,_,h3,h4,_⟩:=Zo.1 hl
 have H3:=hid h3
 have H4:=hid h4
 have OW:=hid ow
 have OP:=hid op
 have hps:Zm t.p≤1099511627776:=by have:=Zq t;omega
 clear ox ov oa op hl h3 h4 ow
 generalize hF:ZB t=F
 have HF:=hid hF
 clear hF
 go_enter func212,ntmps212
 go_wp2_with (first
  | (go_at_call 258;refine (XJ t.p _ A ⟨mg,mh,mi,mj⟩ OP.out hps (by exact Zub az _ _ H4.out)).mono ?_;rintro e w1 ⟨rfl,hb⟩;have hB1:=hb;clear hb;obtain ⟨hc1,hf1⟩:=Za hB1)
  | (go_at_call 259;refine (Zd5 t.p ⟨mg,mh,mi,mj⟩ _ OP.out).mono ?_;rintro e w1 ⟨rfl,hb⟩;have hB1:=hb;clear hb;obtain ⟨hc1,hf1⟩:=Za hB1)
  | (go_at_call 255;refine (Z9 _ _).mono ?_;rintro e w2 ⟨rfl,hb⟩;have hB2:=Below.trans hB1 (Below.mono hb (Below.size hB1));clear hb;obtain ⟨hc2,hf2⟩:=Za hB2)
  | (go_at_call 144;refine (ZdW t.w _ A me mf OW.out owl (by exact Zuc az _ _ H3.out)).mono ?_;rintro e w2 ⟨⟨q,rfl⟩,hb⟩;have hB2:=Below.trans hB1 (Below.mono hb (Below.size hB1));clear hb;obtain ⟨hc2,hf2⟩:=Za hB2))
 all_goals go_ret
 all_goals refine ⟨Zf ?_,ZtX⟩
 all_goals rw [←HF.out]
 all_goals unfold ZB Vp
 all_goals (try unfold Qb)
 all_goals exact q62
set_option maxRecDepth 512
def YA:List GV→Int
 | []=>0
 | x::l=>if ZQ x≠0 then ZQ x else YA l
theorem Zag (l:List GV) (j:Nat) (h:j < l.length) (h0:∀q (hq:q < l.length),q < j→ZQ l[q]=0) (h1:ZQ l[j]≠0):YA l=ZQ l[j]:=by
 induction l generalizing j with
 | nil=>simp at h
 | cons x l ih=>cases j with
  | zero=>simp only [List.getElem_cons_zero] at h1 ⊢;rw [YA,if_pos h1]
  | succ j=>
   have:=h0 0 sm om
   simp only [List.getElem_cons_zero] at this
   rw [YA,if_neg (by simp [this])]
   simp only [List.getElem_cons_succ] at h1 ⊢
   exact ih j (by simpa using h) (fun q hq hj=>by have:=h0 (q+1) (by simpa using hq) om;simpa only [List.getElem_cons_succ] using this) h1
theorem K9 (l:List GV) (h0:∀q (hq:q < l.length),ZQ l[q]=0):YA l=0:=by
 induction l with
 | nil=>rfl
 | cons x l ih=>
  have:=h0 0 sm
  simp only [List.getElem_cons_zero] at this
  rw [YA,if_neg (by simp [this])]
  exact ih fun q hq=>by have:=h0 (q+1) (by simpa using hq);simpa only [List.getElem_cons_succ] using this
def Vo (t:GT):Int:=if t.k≠4 then (if (t.vs.length:Int)=0 then 0 else 3) else YA t.vs
def Z6 (t:GT):Int:=if t.k=1 then (if ZQ t.v≠0 then ZQ t.v else Vo t) else if Xw t.v=true then Vo t else 3
set_option maxRecDepth 100000
theorem Zf8 (t:GT) (A:Nat→Prop) (m:TA) (w:World) (ox:okT t) (hs:Zb t≤1099511627776) (hl:RT w A t m):
  Calls prog 211 #[TV t m] w fun e w'=>e=.returned (.int .i64 (Z6 t))∧Below w.heap.size w w':=by
 obtain ⟨⟨x1,x2⟩,ov,⟨ovl,ovs⟩,⟨l1,l2⟩,⟨l3,l4⟩,⟨owl,ow⟩,op,oal,oa⟩:=Ze.1 ox
 obtain ⟨ma,mb,mc,md,me,mf,mg,mh,mi,mj,mk,ml⟩:=m
 obtain ⟨h1,h2,_⟩:=Zo.1 hl
 have H1:=hid (Zl.1 h1)
 have H2:=hid h2
 have OV:=hid ov
 have OVS:=hid ovs
 obtain ⟨v1,v2,v3,_⟩:=ZA.1 ov
 have HV:=hid (show Yg t.v.k∧Zv t.v.n∧t.v.l.length≤1048576 from ⟨v1,v2,v3⟩)
 have hse:=Zq t
 have hvs:Zg t.v≤1099511627776:=om
 clear ox ov oa op hl h1 h2 ow ovs v1 v2
 by_cases hk:t.k=4
 case neg=>
  have hk2:(t.k != 4)=true:=by simp [hk]
  have HK:=hid hk
  clear hk
  generalize hF:Z6 t=F
  have HF:=hid hF
  clear hF
  go_enter func211,ntmps211
  go_wp2_with (first
   | (go_at_call 256;refine (J6 t.v ⟨ma,mb⟩ _ HV.out).mono ?_;rintro e w1 ⟨rfl,hb⟩;have hB1:=hb;clear hb;obtain ⟨hc1,hf1⟩:=Za hB1)
   | (go_at_call 255;refine (Z9 _ _).mono ?_;rintro e w4 ⟨rfl,hb⟩;have hB4:=Below.trans hB3 (Below.mono hb (Below.size hB3));clear hb;obtain ⟨hc4,hf4⟩:=Za hB4)
   | (go_at_call 255;refine (Z9 _ _).mono ?_;rintro e w3 ⟨rfl,hb⟩;have hB3:=Below.trans hB2 (Below.mono hb (Below.size hB2));clear hb;obtain ⟨hc3,hf3⟩:=Za hB3)
   | (go_at_call 255;refine (Z9 _ _).mono ?_;rintro e w2 ⟨rfl,hb⟩;have hB2:=Below.trans hB1 (Below.mono hb (Below.size hB1));clear hb;obtain ⟨hc2,hf2⟩:=Za hB2)
   | (go_at_call 255;refine (Z9 _ _).mono ?_;rintro e w2 ⟨rfl,hb⟩;have hB2:=hb;clear hb;obtain ⟨hc2,hf2⟩:=Za hB2)
   | (go_at_call 257;refine (VO t.v A ⟨ma,mb⟩ _ OV.out hvs (by exact Zt8 az _ _ H1.out)).mono ?_;rintro e w3 ⟨rfl,hb⟩;have hB3:=Below.trans hB2 (Below.mono hb (Below.size hB2));clear hb;obtain ⟨hc3,hf3⟩:=Za hB3))
  all_goals go_ret
  all_goals refine ⟨Zf ?_,ZtX⟩
  all_goals rw [←HF.out]
  all_goals unfold Z6 Vo
  all_goals rw [if_pos HK.out]
  all_goals (try unfold Qb at *)
  all_goals exact q62
 have hk1:(t.k==1)=false:=by rw [hk];rfl
 have hk2:(t.k != 4)=false:=by rw [hk];rfl
 have hF:Z6 t=if Xw t.v=true then YA t.vs else 3:=by simp [Z6,Vo,hk]
 rw [hF]
 clear hk hF
 cases hn:Xw t.v
 ·have HN:=hid hn
  clear hn
  go_enter func211,ntmps211
  go_wp2_with (first
   | (go_at_call 256;refine (J6 t.v ⟨ma,mb⟩ _ HV.out).mono ?_;rw [HN.out];rintro e w1 ⟨rfl,hb⟩;have hB1:=hb;clear hb;obtain ⟨hc1,hf1⟩:=Za hB1)
   | (go_at_call 255;refine (Z9 _ _).mono ?_;rintro e w4 ⟨rfl,hb⟩;have hB4:=Below.trans hB3 (Below.mono hb (Below.size hB3));clear hb;obtain ⟨hc4,hf4⟩:=Za hB4)
   | (go_at_call 255;refine (Z9 _ _).mono ?_;rintro e w3 ⟨rfl,hb⟩;have hB3:=Below.trans hB2 (Below.mono hb (Below.size hB2));clear hb;obtain ⟨hc3,hf3⟩:=Za hB3)
   | (go_at_call 255;refine (Z9 false _).mono ?_;rintro e w2 ⟨rfl,hb⟩;have hB2:=Below.trans hB1 (Below.mono hb (Below.size hB1));clear hb;obtain ⟨hc2,hf2⟩:=Za hB2)
   | (go_at_call 255;refine (Z9 _ _).mono ?_;rintro e w2 ⟨rfl,hb⟩;have hB2:=hb;clear hb;obtain ⟨hc2,hf2⟩:=Za hB2)
   | (go_at_call 257;refine (VO t.v A ⟨ma,mb⟩ _ OV.out hvs (by exact Zt8 az _ _ H1.out)).mono ?_;rintro e w3 ⟨rfl,hb⟩;have hB3:=Below.trans hB2 (Below.mono hb (Below.size hB2));clear hb;obtain ⟨hc3,hf3⟩:=Za hB3))
  all_goals go_ret
  all_goals exact ⟨rfl,ZtX⟩
 have HN:=hid hn
 clear hn
 rw [if_pos rfl]
 generalize hF:YA t.vs=F
 have HF:=hid hF
 clear hF
 go_enter func211,ntmps211
 go_wp2_with (first
  | (go_at_call 256;refine (J6 t.v ⟨ma,mb⟩ _ HV.out).mono ?_;rw [HN.out];rintro e w1 ⟨rfl,hb⟩;have hB1:=hb;clear hb;obtain ⟨hc1,hf1⟩:=Za hB1)
  | (go_at_call 255;refine (Z9 _ _).mono ?_;rintro e w4 ⟨rfl,hb⟩;have hB4:=Below.trans hB3 (Below.mono hb (Below.size hB3));clear hb;obtain ⟨hc4,hf4⟩:=Za hB4)
  | (go_at_call 255;refine (Z9 _ _).mono ?_;rintro e w3 ⟨rfl,hb⟩;have hB3:=Below.trans hB2 (Below.mono hb (Below.size hB2));clear hb;obtain ⟨hc3,hf3⟩:=Za hB3)
  | (go_at_call 255;refine (Z9 true _).mono ?_;rintro e w2 ⟨rfl,hb⟩;have hB2:=Below.trans hB1 (Below.mono hb (Below.size hB1));clear hb;obtain ⟨hc2,hf2⟩:=Za hB2)
  | (go_at_call 255;refine (Z9 _ _).mono ?_;rintro e w2 ⟨rfl,hb⟩;have hB2:=hb;clear hb;obtain ⟨hc2,hf2⟩:=Za hB2)
  | (go_at_call 257;refine (VO t.v A ⟨ma,mb⟩ _ OV.out hvs (by exact Zt8 az _ _ H1.out)).mono ?_;rintro e w3 ⟨rfl,hb⟩;have hB3:=Below.trans hB2 (Below.mono hb (Below.size hB2));clear hb;obtain ⟨hc3,hf3⟩:=Za hB3))
 go_loopg [36] (t.vs.length) (fun gk i wr=>∃j:Nat,gk+j=t.vs.length∧i=.int .i64 j∧Hid (∀q (hq:q < t.vs.length),q < j→ZQ t.vs[q]=0)∧Below w.heap.size w wr∧w.heap.size < wr.heap.size)
 case atStart=>exact ⟨0,om,rfl,fun q hq hj=>absurd hj om,ZtX,by have:=hB2.size;simp at this;omega⟩
 case round=>
  obtain ⟨j,hj,rfl,HZ,hb,hz⟩:=hrel
  by_cases hlt:j < t.vs.length
  ·obtain ⟨b,o,mj',rfl,hA,hbs,g0,gx⟩:=H2.out.get j hlt
   obtain ⟨k0,k1,k2⟩:=At3.1 (g0.ext (ZtY hb) (A:=fun _=>True) trivial)
   have hs1:b < wr.heap.size:=om
   have hq1:=ZX t.vs j hlt
   clear g0
   go_wp2_with (go_at_call 257;refine (VO t.vs[j] A mj' _ (OVS.out.get j hlt) om (by exact Zl.1 (Zt5 az _ _ gx))).mono ?_;rintro e w4 ⟨rfl,hb4⟩)
   all_goals have hbb:Below w.heap.size w w4:=(hb.alloc om _).trans (hb4.mono (by simp;omega))
   ·have hne:ZQ t.vs[j]≠0:=by simpa using ‹(ZQ t.vs[j] != 0)=true›
    go_ret
    exact ⟨Zf (by rw [←HF.out,Zag _ j hlt HZ.out hne]),hbb⟩
   have hne:ZQ t.vs[j]=0:=by simpa using ‹(ZQ t.vs[j] != 0)=false›
   go_roundg (gk - 1)
   case measure=>omega
   case rel=>exact ⟨j+1,om,by go_num,fun q hq hj'=>(by
    by_cases hqj:q=j
    ·subst hqj;exact hne
    exact HZ.out q hq om),hbb,by have:=hb4.size;simp at this;omega⟩
  have hjl:j=t.vs.length:=om
  go_wp2_with fail
  go_ret
  exact ⟨Zf (by rw [←HF.out,K9 _ fun q hq=>HZ.out q hq om]),hb⟩
set_option maxRecDepth 512
def ZG (t:GT):Int:=
 if t.k < 1∨11 < t.k then 11 else if Z6 t≠0 then Z6 t else if ZB t≠0 then ZB t else if Ya t≠0 then Ya t else Zn t
set_option maxRecDepth 100000
theorem Uz (t:GT) (A:Nat→Prop) (m:TA) (w:World) (ox:okT t) (hs:Zb t≤1099511627776) (hl:RT w A t m):
  Calls prog 137 #[TV t m] w fun e w'=>e=.returned (.int .i64 (ZG t))∧Below w.heap.size w w':=by
 obtain ⟨⟨x1,x2⟩,ov,⟨ovl,ovs⟩,⟨l1,l2⟩,⟨l3,l4⟩,⟨owl,ow⟩,op,oal,oa⟩:=Ze.1 ox
 obtain ⟨ma,mb,mc,md,me,mf,mg,mh,mi,mj,mk,ml⟩:=m
 have HL:=hid hl
 have OX:=hid ox
 clear ov oa op hl ow ovs ox
 by_cases hk:t.k < 1∨11 < t.k
 ·have hF:ZG t=11:=by rw [ZG,if_pos hk]
  rw [hF]
  clear hF
  rcases hk with hk|hk
  all_goals go_enter func137,ntmps137
  all_goals go_wp2_with fail
  all_goals go_ret
  all_goals exact ⟨rfl,ZtX⟩
 have hF:ZG t=if Z6 t≠0 then Z6 t else if ZB t≠0 then ZB t else if Ya t≠0 then Ya t else Zn t:=by rw [ZG,if_neg hk]
 rw [hF]
 clear hF
 generalize hF:(if Z6 t≠0 then Z6 t else if ZB t≠0 then ZB t else if Ya t≠0 then Ya t else Zn t)=F
 have HF:=hid hF
 clear hF
 have hk1:1≤t.k:=om
 have hk2:t.k≤11:=om
 clear hk
 go_enter func137,ntmps137
 go_wp2_with fail
 go_loopg [16] 4 (fun gk i wr=>∃j:Nat,gk+j=4∧i=.int .i64 j∧Hid ((0 < j→Z6 t=0)∧(1 < j→ZB t=0)∧(2 < j→Ya t=0)∧(3 < j→Zn t=0))∧Below w.heap.size w wr∧w.heap.size+1 < wr.heap.size ∧
   Hid (∀o,wr.cell? ⟨w.heap.size,o,none⟩=(w.alloc (.cells #[.int .u8 t.k,.int .u8 t.v.k,.int .i64 t.v.n,.slice ma t.v.l.length mb,.slice mc t.vs.length md,.int .i64 t.lo,.int .i64 t.hi,.slice me t.w.length mf,.int .u8 t.p.k,.int .u8 t.p.v.k,.int .i64 t.p.v.n,.slice mg t.p.v.l.length mh,.int .i64 t.p.n,.slice mi t.p.a.length mj,.slice mk t.a.length ml] 31)).cell? ⟨w.heap.size,o,none⟩) ∧
   wr.cell? ⟨w.heap.size+1,0,none⟩=some (.func (.func 211) #[] #[])∧wr.cell? ⟨w.heap.size+1,1,none⟩=some (.func (.func 212) #[] #[])∧wr.cell? ⟨w.heap.size+1,2,none⟩=some (.func (.func 213) #[] #[])∧wr.cell? ⟨w.heap.size+1,3,none⟩=some (.func (.func 214) #[] #[]))
 case atStart=>exact ⟨0,om,rfl,⟨fun h=>absurd h om,fun h=>absurd h om,fun h=>absurd h om,fun h=>absurd h om⟩,ZtX,sm,fun o=>gs,gs,gs,gs,gs⟩
 case round=>
  obtain ⟨j,hj,rfl,HZ,hb,hz,HC,c0,c1,c2,c3⟩:=hrel
  have b0:=(HC.out 0).trans (show _=some (Value.int .u8 t.k) by go_simp)
  have b1:=(HC.out 1).trans (show _=some (Value.int .u8 t.v.k) by go_simp)
  have b2:=(HC.out 2).trans (show _=some (Value.int .i64 t.v.n) by go_simp)
  have b3:=(HC.out 3).trans (show _=some (Value.slice ma t.v.l.length mb) by go_simp)
  have b4:=(HC.out 4).trans (show _=some (Value.slice mc t.vs.length md) by go_simp)
  have b5:=(HC.out 5).trans (show _=some (Value.int .i64 t.lo) by go_simp)
  have b6:=(HC.out 6).trans (show _=some (Value.int .i64 t.hi) by go_simp)
  have b7:=(HC.out 7).trans (show _=some (Value.slice me t.w.length mf) by go_simp)
  have b8:=(HC.out 8).trans (show _=some (Value.int .u8 t.p.k) by go_simp)
  have b9:=(HC.out 9).trans (show _=some (Value.int .u8 t.p.v.k) by go_simp)
  have b10:=(HC.out 10).trans (show _=some (Value.int .i64 t.p.v.n) by go_simp)
  have b11:=(HC.out 11).trans (show _=some (Value.slice mg t.p.v.l.length mh) by go_simp)
  have b12:=(HC.out 12).trans (show _=some (Value.int .i64 t.p.n) by go_simp)
  have b13:=(HC.out 13).trans (show _=some (Value.slice mi t.p.a.length mj) by go_simp)
  have b14:=(HC.out 14).trans (show _=some (Value.slice mk t.a.length ml) by go_simp)
  have hj4:j=0∨j=1∨j=2∨j=3∨j=4:=om
  rcases hj4 with rfl|rfl|rfl|rfl|rfl
  ·go_wp2_with (go_at_call 211;refine (Zf8 t A ⟨ma,mb,mc,md,me,mf,mg,mh,mi,mj,mk,ml⟩ _ OX.out hs (by exact Zt2 az _ _ HL.out)).mono ?_;rintro e w5 ⟨rfl,hb⟩;have hB5:=hb;clear hb;obtain ⟨hc5,hf5⟩:=Za hB5)
   all_goals have hbb:Below w.heap.size w w5:=hb.trans (hB5.mono om)
   ·have hne:Z6 t≠0:=by simpa using ‹(Z6 t != 0)=true›
    go_ret
    exact ⟨Zf (by rw [←HF.out,if_pos hne]),hbb⟩
   have hne:Z6 t=0:=by simpa using ‹(Z6 t != 0)=false›
   go_roundg (gk - 1)
   case measure=>omega
   case rel=>exact ⟨0+1,om,by go_num,⟨fun _=>hne,fun h=>absurd h om,fun h=>absurd h om,fun h=>absurd h om⟩,hbb,by have:=hB5.size;omega,fun o=>(hc5 _ o om).trans (HC.out o),(hc5 _ 0 om).trans c0,(hc5 _ 1 om).trans c1,(hc5 _ 2 om).trans c2,(hc5 _ 3 om).trans c3⟩
  ·go_wp2_with (go_at_call 212;refine (ZeK t A ⟨ma,mb,mc,md,me,mf,mg,mh,mi,mj,mk,ml⟩ _ OX.out hs (by exact Zt2 az _ _ HL.out)).mono ?_;rintro e w5 ⟨rfl,hb⟩;have hB5:=hb;clear hb;obtain ⟨hc5,hf5⟩:=Za hB5)
   all_goals have hbb:Below w.heap.size w w5:=hb.trans (hB5.mono om)
   ·have hne:ZB t≠0:=by simpa using ‹(ZB t != 0)=true›
    go_ret
    exact ⟨Zf (by rw [←HF.out,if_neg (by rw [HZ.out.1 om];simp),if_pos hne]),hbb⟩
   have hne:ZB t=0:=by simpa using ‹(ZB t != 0)=false›
   go_roundg (gk - 1)
   case measure=>omega
   case rel=>exact ⟨1+1,om,by go_num,⟨fun _=>HZ.out.1 om,fun _=>hne,fun h=>absurd h om,fun h=>absurd h om⟩,hbb,by have:=hB5.size;omega,fun o=>(hc5 _ o om).trans (HC.out o),(hc5 _ 0 om).trans c0,(hc5 _ 1 om).trans c1,(hc5 _ 2 om).trans c2,(hc5 _ 3 om).trans c3⟩
  ·go_wp2_with (go_at_call 213;refine (Zh5 t ⟨ma,mb,mc,md,me,mf,mg,mh,mi,mj,mk,ml⟩ _ OX.out).mono ?_;rintro e w5 ⟨rfl,hb⟩;have hB5:=hb;clear hb;obtain ⟨hc5,hf5⟩:=Za hB5)
   all_goals have hbb:Below w.heap.size w w5:=hb.trans (hB5.mono om)
   ·have hne:Ya t≠0:=by simpa using ‹(Ya t != 0)=true›
    go_ret
    exact ⟨Zf (by rw [←HF.out,if_neg (by rw [HZ.out.1 om];simp),if_neg (by rw [HZ.out.2.1 om];simp),if_pos hne]),hbb⟩
   have hne:Ya t=0:=by simpa using ‹(Ya t != 0)=false›
   go_roundg (gk - 1)
   case measure=>omega
   case rel=>exact ⟨2+1,om,by go_num,⟨fun _=>HZ.out.1 om,fun _=>HZ.out.2.1 om,fun _=>hne,fun h=>absurd h om⟩,hbb,by have:=hB5.size;omega,fun o=>(hc5 _ o om).trans (HC.out o),(hc5 _ 0 om).trans c0,(hc5 _ 1 om).trans c1,(hc5 _ 2 om).trans c2,(hc5 _ 3 om).trans c3⟩
  ·go_wp2_with (go_at_call 214;refine (Zb1 t ⟨ma,mb,mc,md,me,mf,mg,mh,mi,mj,mk,ml⟩ _ OX.out).mono ?_;rintro e w5 ⟨rfl,hb⟩;have hB5:=hb;clear hb;obtain ⟨hc5,hf5⟩:=Za hB5)
   all_goals have hbb:Below w.heap.size w w5:=hb.trans (hB5.mono om)
   ·have hne:Zn t≠0:=by simpa using ‹(Zn t != 0)=true›
    go_ret
    exact ⟨Zf (by rw [←HF.out,if_neg (by rw [HZ.out.1 om];simp),if_neg (by rw [HZ.out.2.1 om];simp),if_neg (by rw [HZ.out.2.2.1 om];simp)]),hbb⟩
   have hne:Zn t=0:=by simpa using ‹(Zn t != 0)=false›
   go_roundg (gk - 1)
   case measure=>omega
   case rel=>exact ⟨3+1,om,by go_num,⟨fun _=>HZ.out.1 om,fun _=>HZ.out.2.1 om,fun _=>HZ.out.2.2.1 om,fun _=>hne⟩,hbb,by have:=hB5.size;omega,fun o=>(hc5 _ o om).trans (HC.out o),(hc5 _ 0 om).trans c0,(hc5 _ 1 om).trans c1,(hc5 _ 2 om).trans c2,(hc5 _ 3 om).trans c3⟩
  go_wp2_with fail
  go_ret
  exact ⟨Zf (by rw [←HF.out,if_neg (by rw [HZ.out.1 om];simp),if_neg (by rw [HZ.out.2.1 om];simp),if_neg (by rw [HZ.out.2.2.1 om];simp),HZ.out.2.2.2 om]),hb⟩
set_option maxRecDepth 512
def ZU (k:Int) (j:Nat):Bool:=k==10&&j==1
mutual
def ZF (pl d mo:Int) (inn:Bool):GT→Int×Int
 | ⟨k,v,vs,lo,hi,ws,p,l⟩=>if mo < d then (pl,9) else if ZG ⟨k,v,vs,lo,hi,ws,p,l⟩≠0 then (pl,ZG ⟨k,v,vs,lo,hi,ws,p,l⟩) else if k=11∧inn=false then (pl,10) else ZH (pl+1) (d+1) mo inn k 0 l
def ZH (pl d mo:Int) (inn:Bool) (k:Int) (i:Nat):List GT→Int×Int
 | []=>(pl,0)
 | x::l=>if (ZF pl d mo (inn||ZU k i) x).2≠0 then ZF pl d mo (inn||ZU k i) x else ZH (ZF pl d mo (inn||ZU k i) x).1 d mo inn k (i+1) l
end
theorem Zgg (pl d mo:Int) (inn:Bool) (t:GT):ZF pl d mo inn t=if mo < d then (pl,9) else if ZG t≠0 then (pl,ZG t) else if t.k=11∧inn=false then (pl,10) else ZH (pl+1) (d+1) mo inn t.k 0 t.a:=by cases t;simp only [ZF]
theorem UM (d mo:Int) (inn:Bool) (k:Int):∀(a b:List GT) (pl:Int) (i:Nat),ZH pl d mo inn k i (a++b)=if (ZH pl d mo inn k i a).2≠0 then ZH pl d mo inn k i a else ZH (ZH pl d mo inn k i a).1 d mo inn k (i+a.length) b
 | [],b,pl,i=>by simp [ZH]
 | x::a,b,pl,i=>by
  simp only [List.cons_append,ZH,List.length_cons]
  split
  ·rename_i h;simp [h]
  rename_i h;rw [UM d mo inn k a b _ (i+1),show i+1+a.length=i+(a.length+1) by omega]
mutual
theorem Ze0 (mo:Int):∀(t:GT) (pl d:Int) (inn:Bool),pl≤(ZF pl d mo inn t).1∧(ZF pl d mo inn t).1≤pl+Zb t
 | ⟨k,v,vs,lo,hi,ws,p,l⟩,pl,d,inn=>by
  have:=XK mo l (pl+1) (d+1) inn k 0
  simp only [ZF,Zb]
  split
  ·simp;omega
  split
  ·simp;omega
  split
  ·simp;omega
  omega
theorem XK (mo:Int):∀(l:List GT) (pl d:Int) (inn:Bool) (k:Int) (i:Nat),pl≤(ZH pl d mo inn k i l).1∧(ZH pl d mo inn k i l).1≤pl+Z5 l
 | [],pl,d,inn,k,i=>by simp [ZH,Z5]
 | x::l,pl,d,inn,k,i=>by
  have h1:=Ze0 mo x pl d (inn||ZU k i)
  have h2:=XK mo l (ZF pl d mo (inn||ZU k i) x).1 d inn k (i+1)
  simp only [ZH,Z5]
  split<;>omega
end
theorem VP (pl d mo:Int) (inn:Bool) (k:Int) (l:List GT) (j:Nat) (h:j < l.length) (h0:(ZH pl d mo inn k 0 (l.take j)).2=0):
  ZH pl d mo inn k 0 (l.take (j+1))=ZF (ZH pl d mo inn k 0 (l.take j)).1 d mo (inn||ZU k j) l[j]:=by
 rw [List.take_succ_eq_append_getElem h,UM,if_neg (by simp [h0])]
 simp only [ZH,List.length_take]
 rw [show 0+min j l.length=j by omega]
 split
 ·rfl
 rename_i h;ext<;>simp_all
theorem Yu (pl d mo:Int) (inn:Bool) (k:Int) (l:List GT) (j:Nat) (h0:(ZH pl d mo inn k 0 (l.take j)).2≠0):ZH pl d mo inn k 0 l=ZH pl d mo inn k 0 (l.take j):=by
 conv=>lhs;rw [←List.take_append_drop j l]
 rw [UM,if_pos h0]
theorem Yo:∀(l:List GT) (j:Nat),Z5 (l.take j)≤Z5 l
 | [],j=>sm
 | x::l,0=>by simp [Z5]
 | x::l,j+1=>by have:=Yo l j;simp only [List.take_succ_cons,Z5];omega
theorem YV:∀(l:List GT) (j:Nat) (h:j < l.length),Z5 (l.take (j+1))=Z5 (l.take j)+Zb l[j]
 | x::l,0,_=>by simp [Z5]
 | x::l,j+1,h=>by have:=YV l j (by simpa using h);simp only [List.take_succ_cons,Z5,List.getElem_cons_succ] at this ⊢;omega
def Zf9 (N:Nat) (mo:Int):Prop:=∀(t:GT) (w:World) (A:Nat→Prop) (m:TA) (pl d:Int) (inn:Bool),Zb t≤N→okT t→0≤pl→pl+Zb t≤1099511627776→0≤d→d+Zb t≤2199023255552→RT w A t m →
  Calls prog 87 #[TV t m,.int .i64 pl,.int .i64 d,.int .i64 mo,.bool inn] w fun e w'=>e=.returned (.tuple #[.int .i64 (ZF pl d mo inn t).1,.int .i64 (ZF pl d mo inn t).2])∧Below w.heap.size w w'
theorem q61 {p:Prop} (h:p:=by
 have hne:(ZF Q (d+1) mo true t.a[j]).2≠0:=by simpa using ‹((ZF Q (d+1) mo true t.a[j]).2 != 0)=true›
 go_ret2
 have h1:ZF Q (d+1) mo true t.a[j]=F:=by rw [←HF.out,←HST.out];exact (Yu _ _ _ _ _ _ _ (by rw [HST.out];exact hne)).symm
 exact ⟨YS (congrArg Prod.fst h1) (congrArg Prod.snd h1),hbb⟩):p:=h
theorem q63 {p:Prop} (h:p:=by
 have hne:(ZF Q (d+1) mo false t.a[j]).2≠0:=by simpa using ‹((ZF Q (d+1) mo false t.a[j]).2 != 0)=true›
 go_ret2
 have h1:ZF Q (d+1) mo false t.a[j]=F:=by rw [←HF.out,←HST.out];exact (Yu _ _ _ _ _ _ _ (by rw [HST.out];exact hne)).symm
 exact ⟨YS (congrArg Prod.fst h1) (congrArg Prod.snd h1),hbb⟩):p:=h
set_option maxRecDepth 100000
set_option maxHeartbeats 2000000
theorem Zc7 (N:Nat) (mo:Int) (hmo0:0≤mo) (hmo1:mo≤4611686018427387904) (ih:Zf9 N mo) (t:GT) (w:World) (A:Nat→Prop) (m:TA) (pl d:Int) (hN:Zb t≤N+1) (ox:okT t) (hp0:0≤pl) (hp1:pl+Zb t≤1099511627776)
  (hd0:0≤d) (hd1:d+Zb t≤2199023255552) (hl:RT w A t m) (hd:¬mo < d) (hn:ZG t=0) (h11':(t.k==11)=false):
  Calls prog 87 #[TV t m,.int .i64 pl,.int .i64 d,.int .i64 mo,.bool false] w fun e w'=>e=.returned (.tuple #[.int .i64 (ZH (pl+1) (d+1) mo false t.k 0 t.a).1,.int .i64 (ZH (pl+1) (d+1) mo false t.k 0 t.a).2])∧Below w.heap.size w w':=by
 obtain ⟨ma,mb,mc,md,me,mf,mg,mh,mi,mj,mk,ml⟩:=m
 have IH:=hid ih
 have HL:=hid (Zo.1 hl).2.2.2.2
 have HT:=hid hl
 have OX:=hid ox
 obtain ⟨⟨x1,x2⟩,ov,⟨ovl,ovs⟩,⟨l1,l2⟩,⟨l3,l4⟩,⟨owl,ow⟩,op,oal,oa⟩:=Ze.1 ox
 have O:=hid oa
 have hse:=Zq t
 have hsv:=Zr t.v
 have hsp:=ZS t.p
 clear ih hl ox oa ov ovs ow op
 have hsz:Zb t≤1099511627776:=om
 have HN:=hid hn
 have hn':(ZG t != 0)=false:=by simp [hn]
 have hn2:(ZG t==0)=true:=by simp [hn]
 clear hn
 generalize hF:ZH (pl+1) (d+1) mo false t.k 0 t.a=F
 have HF:=hid hF
 clear hF
 go_enter func87,ntmps87
 go_wp2_with (go_at_call 137;refine (Uz t A ⟨ma,mb,mc,md,me,mf,mg,mh,mi,mj,mk,ml⟩ _ OX.out hsz (by exact Zt2 az _ _ HT.out)).mono ?_;rintro e w1 ⟨rfl,hb⟩;have hB1:=hb;clear hb;obtain ⟨hc1,hf1⟩:=Za hB1)
 go_loopg [1,12,42] (t.a.length) (fun gk t1 t12 i wr=>∃j:Nat,gk+j=t.a.length∧i=.int .i64 j∧t1=.int .i64 (ZH (pl+1) (d+1) mo false t.k 0 (t.a.take j)).1∧t12=.int .i64 0∧Hid ((ZH (pl+1) (d+1) mo false t.k 0 (t.a.take j)).2=0)∧Below w.heap.size w wr∧w.heap.size < wr.heap.size∧wr.cell? ⟨w.heap.size,0,none⟩=some (.int .u8 t.k))
 case atStart=>exact ⟨0,om,rfl,by simp [ZH],by rw [HN.out],by simp [ZH,Hid],ZtX,by have:=hB1.size;simp at this;omega,gs⟩
 case round=>
  obtain ⟨j,hj,rfl,rfl,rfl,HZ,hb,hz,hbx⟩:=hrel
  by_cases hlt:j < t.a.length
  ·obtain ⟨b,o,mj',rfl,hA,hbs,g0,gx⟩:=HL.out.get j hlt
   obtain ⟨k0,k1,k2,k3,k4,k5,k6,k7,k8,k9,ka,kb,kc,kd,ke⟩:=Yp.1 (g0.ext (ZtY hb) (A:=fun _=>True) trivial)
   have hs1:b < wr.heap.size:=om
   have hq:=XK mo (t.a.take j) (pl+1) (d+1) false t.k 0
   have hq1:=Yo t.a j
   have hq2:=YV t.a j hlt
   have hq3:=Yo t.a (j+1)
   have hst:=VP (pl+1) (d+1) mo false t.k t.a j hlt HZ.out
   clear g0
   generalize hQ:(ZH (pl+1) (d+1) mo false t.k 0 (t.a.take j)).1=Q at *
   have HQ:=hid hQ
   clear hQ
   cases hk10:(t.k==10)
   ·have hstb:(false||ZU t.k j)=false:=by simp [ZU,hk10]
    rw [hstb] at hst
    have HST:=hid hst
    clear hst hstb
    go_wp2_with (go_at_call 87;refine (IH.out t.a[j] _ A mj' Q (d+1) false om (O.out.get j hlt) om om om om (by exact Zt2 az _ _ gx)).mono ?_;rintro e w2 ⟨rfl,hb2⟩)
    all_goals have hbb:Below w.heap.size w w2:=(hb.alloc om _).trans (hb2.mono (by simp;omega))
    ·exact q63
    have hne:(ZF Q (d+1) mo false t.a[j]).2=0:=by simpa using ‹((ZF Q (d+1) mo false t.a[j]).2 != 0)=false›
    go_roundg (gk - 1)
    case measure=>omega
    case rel=>exact ⟨j+1,om,by go_num,by rw [HST.out],by rw [hne],by rw [HST.out];exact hne,hbb,by have:=hb2.size;simp at this;omega,(hb2.cell (by simp;omega)).trans gs⟩
   by_cases hj1:j=1
   ·have hj1':((j:Int)==1)=true:=by rw [hj1];rfl
    have hstb:(false||ZU t.k j)=true:=by simp [ZU,hk10,hj1]
    rw [hstb] at hst
    have HST:=hid hst
    have HJ1:=hid hj1
    clear hst hstb hj1
    go_wp2_with (go_at_call 87;refine (IH.out t.a[j] _ A mj' Q (d+1) true om (O.out.get j hlt) om om om om (by exact Zt2 az _ _ gx)).mono ?_;rintro e w2 ⟨rfl,hb2⟩)
    all_goals have hbb:Below w.heap.size w w2:=(hb.alloc om _).trans (hb2.mono (by simp;omega))
    ·exact q61
    have hne:(ZF Q (d+1) mo true t.a[j]).2=0:=by simpa using ‹((ZF Q (d+1) mo true t.a[j]).2 != 0)=false›
    go_roundg (gk - 1)
    case measure=>omega
    case rel=>exact ⟨j+1,om,by go_num,by rw [HST.out],by rw [hne],by rw [HST.out];exact hne,hbb,by have:=hb2.size;simp at this;omega,(hb2.cell (by simp;omega)).trans gs⟩
   have hj1':((j:Int)==1)=false:=beq_eq_false_iff_ne.2 om
   have hstb:(false||ZU t.k j)=false:=by simp [ZU,hk10,hj1]
   rw [hstb] at hst
   have HST:=hid hst
   have HJ1:=hid hj1
   clear hst hstb hj1
   go_wp2_with (go_at_call 87;refine (IH.out t.a[j] _ A mj' Q (d+1) false om (O.out.get j hlt) om om om om (by exact Zt2 az _ _ gx)).mono ?_;rintro e w2 ⟨rfl,hb2⟩)
   all_goals have hbb:Below w.heap.size w w2:=(hb.alloc om _).trans (hb2.mono (by simp;omega))
   ·exact q63
   have hne:(ZF Q (d+1) mo false t.a[j]).2=0:=by simpa using ‹((ZF Q (d+1) mo false t.a[j]).2 != 0)=false›
   go_roundg (gk - 1)
   case measure=>omega
   case rel=>exact ⟨j+1,om,by go_num,by rw [HST.out],by rw [hne],by rw [HST.out];exact hne,hbb,by have:=hb2.size;simp at this;omega,(hb2.cell (by simp;omega)).trans gs⟩
  have hjl:j=t.a.length:=om
  go_wp2_with fail
  go_ret2
  have h1:ZH (pl+1) (d+1) mo false t.k 0 (t.a.take j)=F:=by rw [hjl,List.take_length];exact HF.out
  exact ⟨YS (by rw [h1]) (by rw [←h1,HZ.out]),hb⟩
set_option maxRecDepth 512
theorem q65 {p:Prop} (h:p:=by
 have hjl:j=t.a.length:=om
 go_wp2_with fail
 go_ret2
 have h1:ZH (pl+1) (d+1) mo true t.k 0 (t.a.take j)=F:=by rw [hjl,List.take_length];exact HF.out
 exact ⟨YS (by rw [h1]) (by rw [←h1,HZ.out]),hb⟩):p:=h
set_option maxRecDepth 100000
theorem Zc8 (N:Nat) (mo:Int) (hmo0:0≤mo) (hmo1:mo≤4611686018427387904) (ih:Zf9 N mo) (t:GT) (w:World) (A:Nat→Prop) (m:TA) (pl d:Int) (hN:Zb t≤N+1) (ox:okT t) (hp0:0≤pl) (hp1:pl+Zb t≤1099511627776)
  (hd0:0≤d) (hd1:d+Zb t≤2199023255552) (hl:RT w A t m) (hd:¬mo < d) (hn:ZG t=0) (b:Bool) (h11':(t.k==11)=b):
  Calls prog 87 #[TV t m,.int .i64 pl,.int .i64 d,.int .i64 mo,.bool true] w fun e w'=>e=.returned (.tuple #[.int .i64 (ZH (pl+1) (d+1) mo true t.k 0 t.a).1,.int .i64 (ZH (pl+1) (d+1) mo true t.k 0 t.a).2])∧Below w.heap.size w w':=by
 obtain ⟨ma,mb,mc,md,me,mf,mg,mh,mi,mj,mk,ml⟩:=m
 have IH:=hid ih
 have HL:=hid (Zo.1 hl).2.2.2.2
 have HT:=hid hl
 have OX:=hid ox
 obtain ⟨⟨x1,x2⟩,ov,⟨ovl,ovs⟩,⟨l1,l2⟩,⟨l3,l4⟩,⟨owl,ow⟩,op,oal,oa⟩:=Ze.1 ox
 have O:=hid oa
 have hse:=Zq t
 have hsv:=Zr t.v
 have hsp:=ZS t.p
 clear ih hl ox oa ov ovs ow op
 have hsz:Zb t≤1099511627776:=om
 have HN:=hid hn
 have hn':(ZG t != 0)=false:=by simp [hn]
 have hn2:(ZG t==0)=true:=by simp [hn]
 clear hn
 generalize hF:ZH (pl+1) (d+1) mo true t.k 0 t.a=F
 have HF:=hid hF
 clear hF
 cases b
 ·go_enter func87,ntmps87
  go_wp2_with (go_at_call 137;refine (Uz t A ⟨ma,mb,mc,md,me,mf,mg,mh,mi,mj,mk,ml⟩ _ OX.out hsz (by exact Zt2 az _ _ HT.out)).mono ?_;rintro e w1 ⟨rfl,hb⟩;have hB1:=hb;clear hb;obtain ⟨hc1,hf1⟩:=Za hB1)
  go_loopg [1,12,42] (t.a.length) (fun gk t1 t12 i wr=>∃j:Nat,gk+j=t.a.length∧i=.int .i64 j∧t1=.int .i64 (ZH (pl+1) (d+1) mo true t.k 0 (t.a.take j)).1∧t12=.int .i64 0∧Hid ((ZH (pl+1) (d+1) mo true t.k 0 (t.a.take j)).2=0)∧Below w.heap.size w wr∧w.heap.size < wr.heap.size∧wr.cell? ⟨w.heap.size,0,none⟩=some (.int .u8 t.k))
  case atStart=>exact ⟨0,om,rfl,by simp [ZH],by rw [HN.out],by simp [ZH,Hid],ZtX,by have:=hB1.size;simp at this;omega,gs⟩
  case round=>
   obtain ⟨j,hj,rfl,rfl,rfl,HZ,hb,hz,hbx⟩:=hrel
   by_cases hlt:j < t.a.length
   ·obtain ⟨b,o,mj',rfl,hA,hbs,g0,gx⟩:=HL.out.get j hlt
    obtain ⟨k0,k1,k2,k3,k4,k5,k6,k7,k8,k9,ka,kb,kc,kd,ke⟩:=Yp.1 (g0.ext (ZtY hb) (A:=fun _=>True) trivial)
    have hs1:b < wr.heap.size:=om
    have hq:=XK mo (t.a.take j) (pl+1) (d+1) true t.k 0
    have hq1:=Yo t.a j
    have hq2:=YV t.a j hlt
    have hq3:=Yo t.a (j+1)
    have hst:=VP (pl+1) (d+1) mo true t.k t.a j hlt HZ.out
    clear g0
    generalize hQ:(ZH (pl+1) (d+1) mo true t.k 0 (t.a.take j)).1=Q at *
    have HQ:=hid hQ
    clear hQ
    have hstb:(true||ZU t.k j)=true:=rfl
    rw [hstb] at hst
    have HST:=hid hst
    clear hst hstb
    cases hk10:(t.k==10)
    ·go_wp2_with (go_at_call 87;refine (IH.out t.a[j] _ A mj' Q (d+1) true om (O.out.get j hlt) om om om om (by exact Zt2 az _ _ gx)).mono ?_;rintro e w2 ⟨rfl,hb2⟩)
     all_goals have hbb:Below w.heap.size w w2:=(hb.alloc om _).trans (hb2.mono (by simp;omega))
     ·exact q61
     have hne:(ZF Q (d+1) mo true t.a[j]).2=0:=by simpa using ‹((ZF Q (d+1) mo true t.a[j]).2 != 0)=false›
     go_roundg (gk - 1)
     case measure=>omega
     case rel=>exact ⟨j+1,om,by go_num,by rw [HST.out],by rw [hne],by rw [HST.out];exact hne,hbb,by have:=hb2.size;simp at this;omega,(hb2.cell (by simp;omega)).trans gs⟩
    by_cases hj1:j=1
    ·have hj1':((j:Int)==1)=true:=by rw [hj1];rfl
     have HJ1:=hid hj1
     clear hj1
     go_wp2_with (go_at_call 87;refine (IH.out t.a[j] _ A mj' Q (d+1) true om (O.out.get j hlt) om om om om (by exact Zt2 az _ _ gx)).mono ?_;rintro e w2 ⟨rfl,hb2⟩)
     all_goals have hbb:Below w.heap.size w w2:=(hb.alloc om _).trans (hb2.mono (by simp;omega))
     ·exact q61
     have hne:(ZF Q (d+1) mo true t.a[j]).2=0:=by simpa using ‹((ZF Q (d+1) mo true t.a[j]).2 != 0)=false›
     go_roundg (gk - 1)
     case measure=>omega
     case rel=>exact ⟨j+1,om,by go_num,by rw [HST.out],by rw [hne],by rw [HST.out];exact hne,hbb,by have:=hb2.size;simp at this;omega,(hb2.cell (by simp;omega)).trans gs⟩
    have hj1':((j:Int)==1)=false:=beq_eq_false_iff_ne.2 om
    have HJ1:=hid hj1
    clear hj1
    go_wp2_with (go_at_call 87;refine (IH.out t.a[j] _ A mj' Q (d+1) true om (O.out.get j hlt) om om om om (by exact Zt2 az _ _ gx)).mono ?_;rintro e w2 ⟨rfl,hb2⟩)
    all_goals have hbb:Below w.heap.size w w2:=(hb.alloc om _).trans (hb2.mono (by simp;omega))
    ·exact q61
    have hne:(ZF Q (d+1) mo true t.a[j]).2=0:=by simpa using ‹((ZF Q (d+1) mo true t.a[j]).2 != 0)=false›
    go_roundg (gk - 1)
    case measure=>omega
    case rel=>exact ⟨j+1,om,by go_num,by rw [HST.out],by rw [hne],by rw [HST.out];exact hne,hbb,by have:=hb2.size;simp at this;omega,(hb2.cell (by simp;omega)).trans gs⟩
   exact q65
 go_enter func87,ntmps87
 go_wp2_with (go_at_call 137;refine (Uz t A ⟨ma,mb,mc,md,me,mf,mg,mh,mi,mj,mk,ml⟩ _ OX.out hsz (by exact Zt2 az _ _ HT.out)).mono ?_;rintro e w1 ⟨rfl,hb⟩;have hB1:=hb;clear hb;obtain ⟨hc1,hf1⟩:=Za hB1)
 go_loopg [1,12,42] (t.a.length) (fun gk t1 t12 i wr=>∃j:Nat,gk+j=t.a.length∧i=.int .i64 j∧t1=.int .i64 (ZH (pl+1) (d+1) mo true t.k 0 (t.a.take j)).1∧t12=.int .i64 0∧Hid ((ZH (pl+1) (d+1) mo true t.k 0 (t.a.take j)).2=0)∧Below w.heap.size w wr∧w.heap.size < wr.heap.size∧wr.cell? ⟨w.heap.size,0,none⟩=some (.int .u8 t.k))
 case atStart=>exact ⟨0,om,rfl,by simp [ZH],by rw [HN.out],by simp [ZH,Hid],ZtX,by have:=hB1.size;simp at this;omega,gs⟩
 case round=>
  obtain ⟨j,hj,rfl,rfl,rfl,HZ,hb,hz,hbx⟩:=hrel
  by_cases hlt:j < t.a.length
  ·obtain ⟨b,o,mj',rfl,hA,hbs,g0,gx⟩:=HL.out.get j hlt
   obtain ⟨k0,k1,k2,k3,k4,k5,k6,k7,k8,k9,ka,kb,kc,kd,ke⟩:=Yp.1 (g0.ext (ZtY hb) (A:=fun _=>True) trivial)
   have hs1:b < wr.heap.size:=om
   have hq:=XK mo (t.a.take j) (pl+1) (d+1) true t.k 0
   have hq1:=Yo t.a j
   have hq2:=YV t.a j hlt
   have hq3:=Yo t.a (j+1)
   have hst:=VP (pl+1) (d+1) mo true t.k t.a j hlt HZ.out
   clear g0
   generalize hQ:(ZH (pl+1) (d+1) mo true t.k 0 (t.a.take j)).1=Q at *
   have HQ:=hid hQ
   clear hQ
   have hstb:(true||ZU t.k j)=true:=rfl
   rw [hstb] at hst
   have HST:=hid hst
   clear hst hstb
   have hk10:(t.k==10)=false:=by have h:=beq_iff_eq.1 h11';rw [h];rfl
   go_wp2_with (go_at_call 87;refine (IH.out t.a[j] _ A mj' Q (d+1) true om (O.out.get j hlt) om om om om (by exact Zt2 az _ _ gx)).mono ?_;rintro e w2 ⟨rfl,hb2⟩)
   all_goals have hbb:Below w.heap.size w w2:=(hb.alloc om _).trans (hb2.mono (by simp;omega))
   ·exact q61
   have hne:(ZF Q (d+1) mo true t.a[j]).2=0:=by simpa using ‹((ZF Q (d+1) mo true t.a[j]).2 != 0)=false›
   go_roundg (gk - 1)
   case measure=>omega
   case rel=>exact ⟨j+1,om,by go_num,by rw [HST.out],by rw [hne],by rw [HST.out];exact hne,hbb,by have:=hb2.size;simp at this;omega,(hb2.cell (by simp;omega)).trans gs⟩
  exact q65
set_option maxRecDepth 512
theorem q64 {p:Prop} (h:p:=by
 go_enter func87,ntmps87
 go_wp2_with (go_at_call 137;refine (Uz t A ⟨ma,mb,mc,md,me,mf,mg,mh,mi,mj,mk,ml⟩ _ OX.out hsz (by exact Zt2 az _ _ HT.out)).mono ?_;rintro e w1 ⟨rfl,hb⟩;have hB1:=hb;clear hb;obtain ⟨hc1,hf1⟩:=Za hB1)
 go_ret2
 exact ⟨rfl,ZtX⟩):p:=h
set_option maxRecDepth 100000
theorem Za5 (N:Nat) (mo:Int) (hmo:0≤mo∧mo≤4611686018427387904):∀(t:GT) (w:World) (A:Nat→Prop) (m:TA) (pl d:Int) (inn:Bool),Zb t≤N→okT t→0≤pl→pl+Zb t≤1099511627776→0≤d→d+Zb t≤2199023255552→RT w A t m →
  Calls prog 87 #[TV t m,.int .i64 pl,.int .i64 d,.int .i64 mo,.bool inn] w fun e w'=>e=.returned (.tuple #[.int .i64 (ZF pl d mo inn t).1,.int .i64 (ZF pl d mo inn t).2])∧Below w.heap.size w w':=by
 obtain ⟨hmo0,hmo1⟩:=hmo
 induction N with
 | zero=>intro t;have:=X8 t;intros;omega
 | succ N ih=>
  rintro t w A ⟨ma,mb,mc,md,me,mf,mg,mh,mi,mj,mk,ml⟩ pl d inn hN ox hp0 hp1 hd0 hd1 hl
  have IH:=hid ih
  have HL:=hid (Zo.1 hl).2.2.2.2
  have HT:=hid hl
  have OX:=hid ox
  obtain ⟨⟨x1,x2⟩,ov,⟨ovl,ovs⟩,⟨l1,l2⟩,⟨l3,l4⟩,⟨owl,ow⟩,op,oal,oa⟩:=Ze.1 ox
  have O:=hid oa
  have hse:=Zq t
  have hsv:=Zr t.v
  have hsp:=ZS t.p
  clear ih hl ox oa ov ovs ow op
  rw [Zgg]
  by_cases hd:mo < d
  ·rw [if_pos hd]
   go_enter func87,ntmps87
   go_wp2_with fail
   go_ret2
   exact ⟨rfl,ZtX⟩
  rw [if_neg hd]
  have hsz:Zb t≤1099511627776:=om
  by_cases hn:ZG t=0
  case neg=>
   rw [if_pos hn]
   have hn':(ZG t != 0)=true:=by simp [hn]
   have hn2:(ZG t==0)=false:=by simp [hn]
   clear hn
   exact q64
  rw [if_neg (by simp [hn])]
  have HN:=hid hn
  have hn':(ZG t != 0)=false:=by simp [hn]
  have hn2:(ZG t==0)=true:=by simp [hn]
  clear hn
  by_cases h11:t.k=11∧inn=false
  ·rw [if_pos h11]
   obtain ⟨h11,rfl⟩:=h11
   have h11':(t.k==11)=true:=by simp [h11]
   clear h11
   exact q64
  rw [if_neg h11]
  cases inn
  ·have h11':(t.k==11)=false:=by
    cases h:(t.k==11)
    ·rfl
    exact absurd ⟨by simpa using h,rfl⟩ h11
   exact Zc7 N mo hmo0 hmo1 IH.out t w A ⟨ma,mb,mc,md,me,mf,mg,mh,mi,mj,mk,ml⟩ pl d hN OX.out hp0 hp1 hd0 hd1 HT.out hd HN.out h11'
  exact Zc8 N mo hmo0 hmo1 IH.out t w A ⟨ma,mb,mc,md,me,mf,mg,mh,mi,mj,mk,ml⟩ pl d hN OX.out hp0 hp1 hd0 hd1 HT.out hd HN.out _ rfl
set_option maxRecDepth 512
def Vs (t:GT):Nat:=if t.k=1 then Zg t.v else if t.k=4 then Zi t.vs else if t.k=9 then Xg t.p else 0
mutual
def Z8:GT→Nat
 | ⟨k,v,vs,lo,hi,ws,p,l⟩=>1+Vs ⟨k,v,vs,lo,hi,ws,p,l⟩+Z4 l
def Z4:List GT→Nat
 | []=>0
 | x::l=>Z8 x+Z4 l
end
theorem Wv (t:GT):Z8 t=1+Vs t+Z4 t.a:=by cases t;simp only [Z8]
theorem Zju (t:GT):Vs t≤Zg t.v+Zi t.vs+Zm t.p:=by
 have:=Yv t.p
 unfold Vs;(repeat' split)<;>omega
mutual
theorem Xh:∀(t:GT),Z8 t≤Zb t
 | ⟨k,v,vs,lo,hi,ws,p,l⟩=>by have:=Ky l;have h:=Zju ⟨k,v,vs,lo,hi,ws,p,l⟩;simp only [Z8,Zb] at *;omega
theorem Ky:∀(l:List GT),Z4 l≤Z5 l
 | []=>by simp [Z4]
 | x::l=>by have:=Xh x;have:=Ky l;simp only [Z4,Z5];omega
end
theorem ZZ:∀(l:List GT) (j:Nat) (h:j < l.length),Z4 (l.take (j+1))=Z4 (l.take j)+Z8 l[j]
 | x::l,0,_=>by simp [Z4]
 | x::l,j+1,h=>by have:=ZZ l j (by simpa using h);simp only [List.take_succ_cons,Z4,List.getElem_cons_succ] at this ⊢;omega
theorem Ym (l:List GT) (j:Nat):Z4 (l.take j)≤Z5 l:=Nat.le_trans (Ky _) (Yo l j)
theorem X9:∀(l:List GV) (j:Nat) (h:j < l.length),Zi (l.take (j+1))=Zi (l.take j)+Zg l[j]
 | x::l,0,_=>by simp [Zi]
 | x::l,j+1,h=>by have:=X9 l j (by simpa using h);simp only [List.take_succ_cons,Zi,List.getElem_cons_succ] at this ⊢;omega
def KT (N:Nat):Prop:=∀(t:GT) (w:World) (A:Nat→Prop) (m:TA),Zb t≤N→okT t→Zb t≤1099511627776→RT w A t m →
  Calls prog 89 #[TV t m] w fun e w'=>e=.returned (.int .i64 (Z8 t))∧Below w.heap.size w w'
theorem q60 {p:Prop} (h:p:=by
 obtain ⟨j,hj,rfl,rfl,hb,hz⟩:=hrel
 by_cases hlt:j < t.a.length
 ·obtain ⟨b,o,mj',rfl,hA,hbs,g0,gx⟩:=HL.out.get j hlt
  obtain ⟨k0,k1,k2,k3,k4,k5,k6,k7,k8,k9,ka,kb,kc,kd,ke⟩:=Yp.1 (g0.ext (ZtY hb) (A:=fun _=>True) trivial)
  have hs1:b < wr.heap.size:=om
  have hq1:=ZD t.a j hlt
  have hq2:=ZZ t.a j hlt
  have hq3:=Ym t.a j
  have hq4:=Xh t.a[j]
  have HQ:=hid hq2
  clear hq2 g0
  go_wp2_with (go_at_call 89;refine (IH.out t.a[j] _ A mj' om (O.out.get j hlt) om (by exact Zt2 az _ _ gx)).mono ?_;rintro e w2 ⟨rfl,hb2⟩)
  have hbb:Below w.heap.size w w2:=(hb.alloc om _).trans (hb2.mono (by simp;omega))
  go_roundg (gk - 1)
  case measure=>omega
  case rel=>exact ⟨j+1,om,by go_num,by rw [HQ.out];go_num,hbb,by have:=hb2.size;simp at this;omega⟩
 have hjl:j=t.a.length:=om
 go_wp2_with fail
 go_ret
 exact ⟨Zf (by rw [hjl,List.take_length]),hb⟩):p:=h
set_option maxRecDepth 100000
theorem Zik (N:Nat) (ih:KT N) (t:GT) (w:World) (A:Nat→Prop) (m:TA) (hN:Zb t≤N+1) (ox:okT t) (hs:Zb t≤1099511627776) (hl:RT w A t m) (h1:t.k=1):
  Calls prog 89 #[TV t m] w fun e w'=>e=.returned (.int .i64 (Z8 t))∧Below w.heap.size w w':=by
 obtain ⟨ma,mb,mc,md,me,mf,mg,mh,mi,mj,mk,ml⟩:=m
 have IH:=hid ih
 obtain ⟨h1,h2,_,h4,h5⟩:=Zo.1 hl
 have HL:=hid h5
 have HV:=hid (Zl.1 h1)
 have HVS:=hid h2
 have HP:=hid h4
 obtain ⟨⟨x1,x2⟩,ov,⟨ovl,ovs⟩,⟨l1,l2⟩,⟨l3,l4⟩,⟨owl,ow⟩,op,oal,oa⟩:=Ze.1 ox
 have O:=hid oa
 have OV:=hid ov
 have OVS:=hid ovs
 have OP:=hid op
 have hse:=Zq t
 have hsv:=Zr t.v
 have hsp:=ZS t.p
 have hnp:=Yv t.p
 have hsv2:Zg t.v≤1099511627776:=om
 have hsp2:Zm t.p≤1099511627776:=om
 clear ih hl ox oa ov ovs ow op h1 h2 h4 h5
 rw [Wv]
 have hG:Vs t=Zg t.v:=by rw [Vs,if_pos h1]
 rw [hG]
 have h1':(t.k==1)=true:=by simp [h1]
 clear hG h1
 go_enter func89,ntmps89
 go_wp2_with (go_at_call 39;refine (V3 t.v A ⟨ma,mb⟩ _ OV.out hsv2 (by exact Zt8 az _ _ HV.out)).mono ?_;rintro e w1 ⟨rfl,hb⟩;have hB1:=hb;clear hb;obtain ⟨hc1,hf1⟩:=Za hB1)
 go_loopg [3,41] (t.a.length) (fun gk t3 i wr=>∃j:Nat,gk+j=t.a.length∧i=.int .i64 j∧t3=.int .i64 ((1+Zg t.v+Z4 (t.a.take j):Nat):Int)∧Below w.heap.size w wr∧w.heap.size < wr.heap.size)
 case atStart=>exact ⟨0,om,rfl,by simp [Z4],ZtX,by have:=hB1.size;simp at this;omega⟩
 case round=>
  exact q60
theorem Zim (N:Nat) (ih:KT N) (t:GT) (w:World) (A:Nat→Prop) (m:TA) (hN:Zb t≤N+1) (ox:okT t) (hs:Zb t≤1099511627776) (hl:RT w A t m) (h1:¬t.k=1) (h9:t.k=9):
  Calls prog 89 #[TV t m] w fun e w'=>e=.returned (.int .i64 (Z8 t))∧Below w.heap.size w w':=by
 obtain ⟨ma,mb,mc,md,me,mf,mg,mh,mi,mj,mk,ml⟩:=m
 have IH:=hid ih
 obtain ⟨h1,h2,_,h4,h5⟩:=Zo.1 hl
 have HL:=hid h5
 have HV:=hid (Zl.1 h1)
 have HVS:=hid h2
 have HP:=hid h4
 obtain ⟨⟨x1,x2⟩,ov,⟨ovl,ovs⟩,⟨l1,l2⟩,⟨l3,l4⟩,⟨owl,ow⟩,op,oal,oa⟩:=Ze.1 ox
 have O:=hid oa
 have OV:=hid ov
 have OVS:=hid ovs
 have OP:=hid op
 have hse:=Zq t
 have hsv:=Zr t.v
 have hsp:=ZS t.p
 have hnp:=Yv t.p
 have hsv2:Zg t.v≤1099511627776:=om
 have hsp2:Zm t.p≤1099511627776:=om
 clear ih hl ox oa ov ovs ow op h1 h2 h4 h5
 rw [Wv]
 have h1':(t.k==1)=false:=by simp [h1]
 have hG:Vs t=Xg t.p:=by rw [Vs,if_neg h1,if_neg om,if_pos h9]
 rw [hG]
 have h4':(t.k==4)=false:=by simp [h9]
 have h9':(t.k==9)=true:=by simp [h9]
 clear hG h1 h9
 go_enter func89,ntmps89
 go_wp2_with (go_at_call 140;refine (ZcB _ t.p _ A ⟨mg,mh,mi,mj⟩ (Nat.le_refl _) OP.out hsp2 (by exact Zub az _ _ HP.out)).mono ?_;rintro e w1 ⟨rfl,hb⟩;have hB1:=hb;clear hb;obtain ⟨hc1,hf1⟩:=Za hB1)
 go_loopg [3,41] (t.a.length) (fun gk t3 i wr=>∃j:Nat,gk+j=t.a.length∧i=.int .i64 j∧t3=.int .i64 ((1+Xg t.p+Z4 (t.a.take j):Nat):Int)∧Below w.heap.size w wr∧w.heap.size < wr.heap.size)
 case atStart=>exact ⟨0,om,rfl,by simp [Z4],ZtX,by have:=hB1.size;simp at this;omega⟩
 case round=>
  exact q60
theorem Zil (N:Nat) (ih:KT N) (t:GT) (w:World) (A:Nat→Prop) (m:TA) (hN:Zb t≤N+1) (ox:okT t) (hs:Zb t≤1099511627776) (hl:RT w A t m) (h1:¬t.k=1) (h9:¬t.k=9) (h4:t.k=4):
  Calls prog 89 #[TV t m] w fun e w'=>e=.returned (.int .i64 (Z8 t))∧Below w.heap.size w w':=by
 obtain ⟨ma,mb,mc,md,me,mf,mg,mh,mi,mj,mk,ml⟩:=m
 have IH:=hid ih
 obtain ⟨h1,h2,_,h4,h5⟩:=Zo.1 hl
 have HL:=hid h5
 have HV:=hid (Zl.1 h1)
 have HVS:=hid h2
 have HP:=hid h4
 obtain ⟨⟨x1,x2⟩,ov,⟨ovl,ovs⟩,⟨l1,l2⟩,⟨l3,l4⟩,⟨owl,ow⟩,op,oal,oa⟩:=Ze.1 ox
 have O:=hid oa
 have OV:=hid ov
 have OVS:=hid ovs
 have OP:=hid op
 have hse:=Zq t
 have hsv:=Zr t.v
 have hsp:=ZS t.p
 have hnp:=Yv t.p
 have hsv2:Zg t.v≤1099511627776:=om
 have hsp2:Zm t.p≤1099511627776:=om
 clear ih hl ox oa ov ovs ow op h1 h2 h4 h5
 rw [Wv]
 have h1':(t.k==1)=false:=by simp [h1]
 have h9':(t.k==9)=false:=by simp [h9]
 have hG:Vs t=Zi t.vs:=by rw [Vs,if_neg h1,if_pos h4]
 rw [hG]
 have h4':(t.k==4)=true:=by simp [h4]
 clear hG h1 h9 h4
 go_enter func89,ntmps89
 go_wp2_with fail
 go_loopg [3,22] (t.vs.length) (fun gk t3 i wr=>∃j:Nat,gk+j=t.vs.length∧i=.int .i64 j∧t3=.int .i64 ((1+Zi (t.vs.take j):Nat):Int)∧Below w.heap.size w wr∧w.heap.size < wr.heap.size∧wr.cell? ⟨w.heap.size,14,none⟩=some (.slice mk t.a.length ml))
 case atStart=>exact ⟨0,om,rfl,by simp [Zi],ZtX,sm,gs⟩
 case round=>
  obtain ⟨j,hj,rfl,rfl,hb,hz,hbx⟩:=hrel
  by_cases hlt:j < t.vs.length
  ·obtain ⟨b,o,mj',rfl,hA,hbs,g0,gx⟩:=HVS.out.get j hlt
   obtain ⟨k0,k1,k2⟩:=At3.1 (g0.ext (ZtY hb) (A:=fun _=>True) trivial)
   have hs1:b < wr.heap.size:=om
   have hq1:=ZX t.vs j hlt
   have hq2:=X9 t.vs j hlt
   have hq3:=Un t.vs (j+1)
   have HQ:=hid hq2
   clear g0
   go_wp2_with (go_at_call 39;refine (V3 t.vs[j] A mj' _ (OVS.out.get j hlt) om (by exact Zl.1 (Zt5 az _ _ gx))).mono ?_;rintro e w2 ⟨rfl,hb2⟩)
   have hbb:Below w.heap.size w w2:=(hb.alloc om _).trans (hb2.mono (by simp;omega))
   go_roundg (gk - 1)
   case measure=>omega
   case rel=>exact ⟨j+1,om,by go_num,by rw [HQ.out];go_num,hbb,by have:=hb2.size;simp at this;omega,(hb2.cell (by simp;omega)).trans gs⟩
  have hjl:j=t.vs.length:=om
  subst hjl
  have htk:t.vs.take t.vs.length=t.vs:=by rw [List.take_length]
  rw [htk]
  have hvl:Zi t.vs≤1099511627776:=om
  clear htk
  go_wp2_with fail
  go_loopg [3,41] (t.a.length) (fun gk t3 i wr=>∃j:Nat,gk+j=t.a.length∧i=.int .i64 j∧t3=.int .i64 ((1+Zi t.vs+Z4 (t.a.take j):Nat):Int)∧Below w.heap.size w wr∧w.heap.size < wr.heap.size)
  case atStart=>exact ⟨0,om,rfl,by simp [Z4],ZtX,om⟩
  case round=>
   exact q60
end Go.Proofs.YtkdffbdnjfgpeaaGreat
