/- Part 51. -/
import Derived.Test.YtclphfojkggcpaaGreatDoorX25
set_option linter.all false
namespace Go.Proofs.YtclphfojkggcpaaGreatDoor
open Go.Lib (hid)
open Go Go.RowKit Go.Proofs.Tryz
def ZhB (M:Int) (w:World) (e:Ending) (w':World):Prop:=(∃r:Int,e=.returned (.int .i64 r)∧1≤r∧r≤M+1)∧Below w.heap.size w w'
theorem UR {t:GT} (hn:ZG t=0):Wg t=0∧ZB t=0∧Ya t=0∧Zn t=0∧Vo t=0∧1≤t.k∧t.k≤11:=by
 unfold ZG at hn
 by_cases hk:t.k < 1∨11 < t.k
 ·rw [if_pos hk] at hn;omega
 rw [if_neg hk] at hn
 by_cases h1:Z6 t=0
 case neg=>rw [if_pos h1] at hn;exact absurd hn h1
 rw [if_neg (by simp [h1])] at hn
 by_cases h2:ZB t=0
 case neg=>rw [if_pos h2] at hn;exact absurd hn h2
 rw [if_neg (by simp [h2])] at hn
 by_cases h3:Ya t=0
 case neg=>rw [if_pos h3] at hn;exact absurd hn h3
 rw [if_neg (by simp [h3])] at hn
 have hv:=Qc t
 rw [h1] at hv
 by_cases h4:Wg t=0
 case neg=>rw [if_pos h4] at hv;omega
 rw [if_neg (by simp [h4])] at hv
 exact ⟨h4,h2,h3,hn,hv.symm,om,om⟩
theorem Zgp {n a b:Int} (h:Xl n a b=0):a≤n∧n≤b:=by
 unfold Xl at h
 split at h
 ·omega
 split at h
 ·omega
 omega
theorem Zh6 {l:List Int} (h:Yc l=0):l.length≤64:=by
 unfold Yc at h
 split at h
 ·omega
 split at h
 ·omega
 omega
theorem Zaf:∀(l:List GV),YA l=0→∀j (hj:j < l.length),ZQ l[j]=0
 | [],_,j,hj=>absurd hj sm
 | x::l,h,j,hj=>by
  unfold YA at h
  by_cases hx:ZQ x=0
  ·rw [if_neg (by simp [hx])] at h
   cases j with
   | zero=>exact hx
   | succ j=>exact Zaf l h j (by simpa using hj)
  rw [if_pos hx] at h;exact absurd h hx
theorem Zdy {t:GT} (hk:t.k=4) (hn:ZG t=0):t.vs.length≤64∧∀j (hj:j < t.vs.length),ZQ t.vs[j]=0:=by
 obtain ⟨_,h2,_,h4,h5,_,_⟩:=UR hn
 unfold Vo at h5
 rw [if_neg om] at h5
 unfold ZB at h2
 rw [if_neg om] at h2
 have h6:Vp t=0:=by
  split at h2
  ·exact h2
  omega
 unfold Vp at h6
 rw [if_neg om] at h6
 have h7:=Zh6 h6
 unfold Zn at h4
 rw [if_neg om,if_neg om,if_neg om,if_neg om,if_pos hk] at h4
 have h8:Xl (t.vs.length:Int) (t.w.length:Int) (t.w.length:Int)=0:=by
  split at h4
  ·omega
  omega
 have:=Zgp h8
 exact ⟨om,Zaf _ h5⟩
theorem Zip {t:GT} (hk:t.k=6) (hn:ZG t=0):t.a.length=1∧0≤t.lo∧t.hi≤16∧0≤t.hi:=by
 obtain ⟨_,_,h3,h4,_,_,_⟩:=UR hn
 unfold Ya at h3
 rw [if_neg om,if_pos hk] at h3
 unfold Zn at h4
 rw [if_neg om,if_neg om,if_pos om] at h4
 have:=Zgp h4
 have h9:(Yi t.lo 0 t.hi&&Yi t.hi t.lo 16)=true:=by
  split at h3
  ·assumption
  omega
 simp [Yi] at h9
 omega
theorem JF {t:GT} (hk:t.k=1) (hn:ZG t=0):ZQ t.v=0:=by
 have:=(UR hn).1
 unfold Wg at this
 rw [if_pos hk] at this
 exact this
set_option maxRecDepth 100000
set_option maxHeartbeats 4000000
theorem ZfI (t:GT) (A:Nat→Prop) (m:TA) (w:World) (ox:okT t) (hs:Zb t≤1099511627776) (hl:RT w A t m) (hh:Ux t=0) (he:Ya t=0) (h4:t.k=10∨t.k=11):
  Calls prog 55 #[TV t m] w fun e w'=>e=.returned (.int .i64 (Zn t))∧Below w.heap.size w w':=by
 obtain ⟨ma,mb,mc,md,me,mf,mg,mh,mi,mj,mk,ml⟩:=m
 obtain ⟨⟨x1,x2⟩,ov,⟨ovl,ovs⟩,l1,l2,⟨owl,ow⟩,op,oal,oa⟩:=Ze.1 ox
 have HL:=hid hl
 have OX:=hid ox
 have HH:=hid hh
 have HE:=hid he
 clear hl ox ov ovs l1 l2 ow op oa hh he
 obtain ⟨k,v,vs,lo,hi,ws,p,l⟩:=t
 dsimp only at h4 ovl owl oal x1 x2
 rcases h4 with rfl|rfl
 all_goals clear x1 x2
 all_goals
  go_enter func55,ntmps55
  go_wp2_with (first|(go_at_call 89;refine (XT _ A ⟨ma,mb,mc,md,me,mf,mg,mh,mi,mj,mk,ml⟩ _ OX.out hs (by exact ZlV ar _ _ HL.out)).mono ?_;rw [HH.out];rintro e w1 ⟨rfl,hbx⟩;have hB1:=hbx;clear hbx;obtain ⟨hc1,hf1⟩:=Za hB1)|(go_at_call 90;refine (XS _ ⟨ma,mb,mc,md,me,mf,mg,mh,mi,mj,mk,ml⟩ _ OX.out).mono ?_;rw [HE.out];rintro e w2 ⟨rfl,hbx⟩;have hB2:=Below.trans hB1 (Below.mono hbx (Below.size hB1));clear hbx;obtain ⟨hc2,hf2⟩:=Za hB2)|(go_at_call 91;refine (Ww _ _ _ _ ⟨om,om⟩ ⟨om,om⟩ ⟨om,om⟩).mono ?_;rintro e w3 ⟨rfl,hbx⟩;have hB3:=Below.trans hB2 (Below.mono hbx (Below.size hB2));clear hbx;obtain ⟨hc3,hf3⟩:=Za hB3))
  go_ret
  exact ⟨Zf (by simp [Zn]),ZlD⟩
theorem Zhb (t:GT) (A:Nat→Prop) (m:TA) (w:World) (ox:okT t) (hs:Zb t≤1099511627776) (hl:RT w A t m) (hh:Ux t=0) (he:Ya t=0) (h4:t.k=4):
  Calls prog 55 #[TV t m] w fun e w'=>e=.returned (.int .i64 (Zn t))∧Below w.heap.size w w':=by
 obtain ⟨ma,mb,mc,md,me,mf,mg,mh,mi,mj,mk,ml⟩:=m
 obtain ⟨⟨x1,x2⟩,ov,⟨ovl,ovs⟩,l1,l2,⟨owl,ow⟩,op,oal,oa⟩:=Ze.1 ox
 have HL:=hid hl
 have OX:=hid ox
 have HH:=hid hh
 have HE:=hid he
 clear hl ox ov ovs l1 l2 ow op oa hh he
 obtain ⟨k,v,vs,lo,hi,ws,p,l⟩:=t
 dsimp only at h4 ovl owl oal x1 x2
 have ma1:Zv ((l.length:Nat):Int):=⟨om,om⟩
 have ma2:Zv ((ws.length:Nat):Int):=⟨om,om⟩
 have ma3:Zv ((vs.length:Nat):Int):=⟨om,om⟩
 have MA1:=hid ma1
 have MA2:=hid ma2
 have MA3:=hid ma3
 clear ma1 ma2 ma3
 clear MA1 MA2 MA3
 subst h4
 clear x1 x2
 by_cases hM0:Xl (vs.length:Int) (ws.length:Int) (ws.length:Int)=0
 ·have hF:Zn ⟨4,v,vs,lo,hi,ws,p,l⟩=Xl (l.length:Int) 0 0:=by simp [Zn,hM0]
  rw [hF]
  have hm2:(Xl (vs.length:Int) (ws.length:Int) (ws.length:Int) != 0)=false:=by simp [hM0]
  have hm3:(Xl (vs.length:Int) (ws.length:Int) (ws.length:Int)==0)=true:=by simp [hM0]
  clear hM0 hF
  go_enter func55,ntmps55
  go_wp2_with (first|(go_at_call 89;refine (XT _ A ⟨ma,mb,mc,md,me,mf,mg,mh,mi,mj,mk,ml⟩ _ OX.out hs (by exact ZlV ar _ _ HL.out)).mono ?_;rw [HH.out];rintro e w1 ⟨rfl,hbx⟩;have hB1:=hbx;clear hbx;obtain ⟨hc1,hf1⟩:=Za hB1)|(go_at_call 90;refine (XS _ ⟨ma,mb,mc,md,me,mf,mg,mh,mi,mj,mk,ml⟩ _ OX.out).mono ?_;rw [HE.out];rintro e w2 ⟨rfl,hbx⟩;have hB2:=Below.trans hB1 (Below.mono hbx (Below.size hB1));clear hbx;obtain ⟨hc2,hf2⟩:=Za hB2)|(go_at_call 91;refine (Ww _ _ _ _ ⟨om,om⟩ ⟨om,om⟩ ⟨om,om⟩).mono ?_;rintro e w3 ⟨rfl,hbx⟩;first|(have hB4:=Below.trans hB3 (Below.mono hbx (Below.size hB3));clear hbx;obtain ⟨hc4,hf4⟩:=Za hB4)|(have hB3:=Below.trans hB2 (Below.mono hbx (Below.size hB2));clear hbx;obtain ⟨hc3,hf3⟩:=Za hB3)))
  go_ret
  exact ⟨Zf rfl,ZlD⟩
 have hF:Zn ⟨4,v,vs,lo,hi,ws,p,l⟩=Xl (vs.length:Int) (ws.length:Int) (ws.length:Int):=by simp [Zn,hM0]
 rw [hF]
 have hm2:(Xl (vs.length:Int) (ws.length:Int) (ws.length:Int) != 0)=true:=by simp [hM0]
 clear hM0 hF
 go_enter func55,ntmps55
 go_wp2_with (first|(go_at_call 89;refine (XT _ A ⟨ma,mb,mc,md,me,mf,mg,mh,mi,mj,mk,ml⟩ _ OX.out hs (by exact ZlV ar _ _ HL.out)).mono ?_;rw [HH.out];rintro e w1 ⟨rfl,hbx⟩;have hB1:=hbx;clear hbx;obtain ⟨hc1,hf1⟩:=Za hB1)|(go_at_call 90;refine (XS _ ⟨ma,mb,mc,md,me,mf,mg,mh,mi,mj,mk,ml⟩ _ OX.out).mono ?_;rw [HE.out];rintro e w2 ⟨rfl,hbx⟩;have hB2:=Below.trans hB1 (Below.mono hbx (Below.size hB1));clear hbx;obtain ⟨hc2,hf2⟩:=Za hB2)|(go_at_call 91;refine (Ww _ _ _ _ ⟨om,om⟩ ⟨om,om⟩ ⟨om,om⟩).mono ?_;rintro e w3 ⟨rfl,hbx⟩;have hB3:=Below.trans hB2 (Below.mono hbx (Below.size hB2));clear hbx;obtain ⟨hc3,hf3⟩:=Za hB3))
 go_ret
 exact ⟨Zf rfl,ZlD⟩
theorem Uk (t:GT) (A:Nat→Prop) (m:TA) (w:World) (ox:okT t) (hs:Zb t≤1099511627776) (hl:RT w A t m):
  Calls prog 55 #[TV t m] w fun e w'=>e=.returned (.int .i64 (ZG t))∧Below w.heap.size w w':=by
 obtain ⟨ma,mb,mc,md,me,mf,mg,mh,mi,mj,mk,ml⟩:=m
 obtain ⟨⟨x1,x2⟩,ov,⟨ovl,ovs⟩,l1,l2,⟨owl,ow⟩,op,oal,oa⟩:=Ze.1 ox
 have HL:=hid hl
 have OX:=hid ox
 clear hl ox ov ovs l1 l2 ow op oa
 by_cases hk:t.k < 1∨11 < t.k
 ·have hF:ZG t=11:=by unfold ZG;rw [if_pos hk]
  rw [hF]
  clear hF
  rcases hk with hk|hk
  all_goals go_enter func55,ntmps55
  all_goals go_wp2_with fail
  all_goals go_ret
  all_goals exact ⟨rfl,ZlD⟩
 rw [ZgX t hk]
 have hk1:1≤t.k:=om
 have hk2:t.k≤11:=om
 clear hk
 by_cases hh:Ux t=0
 case neg=>
  rw [if_pos hh]
  have h1:(Ux t==0)=false:=by simp [hh]
  have h2:(Ux t != 0)=true:=by simp [hh]
  clear hh
  go_enter func55,ntmps55
  go_wp2_with (go_at_call 89;refine (XT t A ⟨ma,mb,mc,md,me,mf,mg,mh,mi,mj,mk,ml⟩ _ OX.out hs (by exact ZlV az _ _ HL.out)).mono ?_;rintro e w1 ⟨rfl,hb⟩;have hB1:=hb;clear hb;obtain ⟨hc1,hf1⟩:=Za hB1)
  go_ret
  exact ⟨rfl,ZlD⟩
 rw [if_neg (by simp [hh])]
 have hh0:=hh
 have HH:=hid hh
 clear hh
 by_cases he:Ya t=0
 case neg=>
  rw [if_pos he]
  have h1:(Ya t==0)=false:=by simp [he]
  have h2:(Ya t != 0)=true:=by simp [he]
  clear he
  go_enter func55,ntmps55
  go_wp2_with (first
   | (go_at_call 89;refine (XT t A ⟨ma,mb,mc,md,me,mf,mg,mh,mi,mj,mk,ml⟩ _ OX.out hs (by exact ZlV az _ _ HL.out)).mono ?_;rw [HH.out];rintro e w1 ⟨rfl,hbx⟩;have hB1:=hbx;clear hbx;obtain ⟨hc1,hf1⟩:=Za hB1)
   | (go_at_call 90;refine (XS t ⟨ma,mb,mc,md,me,mf,mg,mh,mi,mj,mk,ml⟩ _ OX.out).mono ?_;rintro e w2 ⟨rfl,hb⟩;have hB2:=Below.trans hB1 (Below.mono hb (Below.size hB1));clear hb;obtain ⟨hc2,hf2⟩:=Za hB2))
  go_ret
  exact ⟨rfl,ZlD⟩
 rw [if_neg (by simp [he])]
 by_cases h4:t.k=4
 ·exact Zhb t A _ w OX.out hs HL.out hh0 he h4
 rcases (by omega:(t.k=1∨t.k=2∨t.k=3)∨(t.k=5∨t.k=6∨t.k=7)∨(t.k=8∨t.k=9)∨(t.k=10∨t.k=11)) with h|h|h|h
 ·exact ZfF t A _ w OX.out hs HL.out hh0 he h
 ·exact ZfG t A _ w OX.out hs HL.out hh0 he h
 ·exact ZfH t A _ w OX.out hs HL.out hh0 he h
 exact ZfI t A _ w OX.out hs HL.out hh0 he h
end Go.Proofs.YtclphfojkggcpaaGreatDoor
