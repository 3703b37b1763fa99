/- Part 56. -/
import Derived.Test.YtkdffbdnjfgpeaaGreatY2
import Derived.Test.YtkdffbdnjfgpeaaGreatY8
set_option linter.all false
namespace Go.Proofs.YtkdffbdnjfgpeaaGreat
open Go.Lib (hid)
open Go Go.RowKit Go.Proofs.Tryz
theorem wE1 {t:GT} (h:(t.k==9)=false) (hn:Wi t.p=false):ZB t=3:=by
 unfold ZB;rw [if_neg (by simpa using h),if_neg (by simp [hn])]
theorem wE2 {t:GT} (h:(t.k==9)=false) (hn:Wi t.p=true):ZB t=Vp t:=by
 unfold ZB;rw [if_neg (by simpa using h),if_pos hn]
theorem wE3 {t:GT} (h:(t.k==9)=true) (hn:(Zw t.p).2≠0):ZB t=(Zw t.p).2:=by
 unfold ZB;rw [if_pos (by simpa using h),if_pos hn]
theorem wE4 {t:GT} (h:(t.k==9)=true) (hn:(Zw t.p).2=0):ZB t=Vp t:=by
 unfold ZB;rw [if_pos (by simpa using h),if_neg (by simp [hn])]
theorem rW1 {t:GT} (h:(t.k==3)=true∨(t.k==4)=true):Vp t=Yc t.w:=by
 unfold Vp;rw [if_neg]
 simp at h
 omega
theorem rW2 {t:GT} (h3:(t.k==3)=false) (h4:(t.k==4)=false) (h:t.w.length=0):Vp t=0:=by
 simp at h3 h4
 unfold Vp;rw [if_pos ⟨h3,h4⟩,if_pos om]
theorem rW3 {t:GT} (h3:(t.k==3)=false) (h4:(t.k==4)=false) (h:¬t.w.length=0):Vp t=3:=by
 simp at h3 h4
 unfold Vp;rw [if_pos ⟨h3,h4⟩,if_neg om]
set_option maxRecDepth 100000
set_option maxHeartbeats 4000000
theorem Zax (t:GT) (A:Nat→Prop) (m:TA) (w:World) (ox:okT t) (hs:Zb t≤1099511627776) (hl:RT w A t m) (h:Wg t=0) (h4:t.k=4∨t.vs.length=0):
  Calls prog 181 #[TV t m] w fun e w'=>e=.returned (.int .i64 (if YA t.vs≠0 then YA t.vs else ZB t))∧Below w.heap.size w w':=by
 obtain ⟨x1,ov,⟨ovl,ovs⟩,l1,l2,⟨owl,ow⟩,op,oal,oa⟩:=Ze.1 ox
 obtain ⟨v1,v2,v3,_⟩:=ZA.1 ov
 obtain ⟨ma,mb,mc,md,me,mf,mg,mh,mi,mj,mk,ml⟩:=m
 obtain ⟨r1,r2,r3,r4,r5⟩:=Zo.1 hl
 have HV:=hid (And.intro v1 (And.intro v2 v3))
 have OV:=hid ov
 have OVS:=hid ovs
 have OW:=hid ow
 have OP:=hid op
 have HLV:=hid (Zl.1 r1)
 have HVS:=hid r2
 have HWS:=hid r3
 have HPS:=hid r4
 have hse:=Zq t
 have hsv:Zg t.v≤1099511627776:=om
 have hsp:Zm t.p≤1099511627776:=om
 have hsvs:Zi t.vs≤1099511627776:=om
 generalize hF:(if YA t.vs≠0 then YA t.vs else ZB t)=F
 have HF:=hid hF
 clear hF
 have h4':(t.k != 4)=true→(0:Int) < (t.vs.length:Int)→False:=fun a b=>by
  rcases h4 with h4|h4
  ·simp [h4] at a
  omega
 have H4:=hid h4
 clear ox ov ovs ow op oa v1 v2 v3 hl hse r1 r2 r3 r4 r5 h4
 have key:∀(b1 b4:Bool),(t.k==1)=b1→(t.k != 4)=b4→(b4=true→decide (0 < t.vs.length)=false) →
  Calls prog 181 #[TV t ⟨ma,mb,mc,md,me,mf,mg,mh,mi,mj,mk,ml⟩] w fun e w'=>e=.returned (.int .i64 F)∧Below w.heap.size w w':=by
  intro b1 b4 hb1 hb4 hvl
  have hcv:b1=true→ZQ t.v=0:=fun e=>by
   subst e
   have hk:t.k=1:=by simpa using hb1
   unfold Wg at h;rw [if_pos hk] at h;exact h
  have hnv:b1=false→Xw t.v=true:=fun e=>by
   subst e
   have hk:¬t.k=1:=by simpa using hb1
   unfold Wg at h;rw [if_neg hk] at h
   cases hn:Xw t.v
   ·rw [hn] at h;simp at h
   rfl
  have hb4':b4=false→True:=fun _=>trivial
  clear h
  cases b1
  all_goals cases b4
  all_goals (try have hvd:=hvl rfl)
  all_goals (try have HN:=hid (hnv rfl))
  all_goals (try have HC:=hid (hcv rfl))
  all_goals clear hcv hnv hvl hb4' h4'
  all_goals
   go_enter func181,ntmps181
   go_wp2_with (first
    | (go_at_call 238;refine (QE t.v ⟨ma,mb⟩ _ HV.out).mono ?_;rw [HN.out];rintro e w1 ⟨rfl,hbx⟩;have hB1:=hbx;clear hbx;obtain ⟨hc1,hf1⟩:=Za hB1)
    | (go_at_call 237;refine (X7 t.v _ A ⟨ma,mb⟩ OV.out hsv (by exact Zt8 az _ _ HLV.out)).mono ?_;rw [HC.out];rintro e w1 ⟨rfl,hbx⟩;have hB1:=hbx;clear hbx;obtain ⟨hc1,hf1⟩:=Za hB1))
   have hz1:=hB1.size
   simp at hz1
   have hbw1:Below w.heap.size w w1:=ZtZ
   have HB1:Hid (At w1 w.heap.size 0 [.int .u8 t.k,.int .u8 t.v.k,.int .i64 t.v.n,.slice ma t.v.l.length mb,.slice mc t.vs.length md,.int .i64 t.lo,.int .i64 t.hi,.slice me t.w.length mf,.int .u8 t.p.k,.int .u8 t.p.v.k,.int .i64 t.p.v.n,.slice mg t.p.v.l.length mh,.int .i64 t.p.n,.slice mi t.p.a.length mj,.slice mk t.a.length ml]):=hid (ZO.2 ⟨(hB1.cell so).trans gs,(hB1.cell so).trans gs,(hB1.cell so).trans gs,(hB1.cell so).trans gs,(hB1.cell so).trans gs,(hB1.cell so).trans gs,(hB1.cell so).trans gs,(hB1.cell so).trans gs,(hB1.cell so).trans gs,(hB1.cell so).trans gs,(hB1.cell so).trans gs,(hB1.cell so).trans gs,(hB1.cell so).trans gs,(hB1.cell so).trans gs,(hB1.cell so).trans gs⟩)
   go_loopg [4] (t.vs.length) (fun gk i wr=>∃j:Nat,gk+j=t.vs.length∧i=.int .i64 j∧Hid (∀q (h:q < t.vs.length),q < j→ZQ t.vs[q]=0)∧Below w1.heap.size w1 wr)
   case atStart=>exact ⟨0,om,rfl,hid (fun q h hq=>absurd hq om),Below.refl _ _⟩
   case round=>
    obtain ⟨j,hj,rfl,HZ,hbr⟩:=hrel
    have hzr:=hbr.size
    have hbw:Below w.heap.size w wr:=hbw1.trans (hbr.mono om)
    have u0:w.heap.size < wr.heap.size:=om
    obtain ⟨c0,c1,c2,c3,c4,c5,c6,c7,c8,c9,ca,cb,cc,cd,ce⟩:=ZO.1 (Zuf (ZtY hbr) (A:=fun _=>True) trivial _ _ HB1.out)
    by_cases hlt:j < t.vs.length
    ·obtain ⟨b,o,mj',rfl,hA,hbs,g0,gx⟩:=HVS.out.get j hlt
     obtain ⟨k0,k1,k2⟩:=At3.1 (g0.ext (ZtY hbw) (A:=fun _=>True) trivial)
     have hs1:b < wr.heap.size:=om
     have hq1:=ZX t.vs j hlt
     clear g0
     by_cases hc:ZQ t.vs[j]=0
     ·have hc':(ZQ t.vs[j] != 0)=false:=by simp [hc]
      have HCJ:=hid hc
      clear hc
      go_wp2_with (go_at_call 237;refine (X7 t.vs[j] _ A mj' (OVS.out.get j hlt) om (by exact Zt8 ar _ _ (Zl.1 gx))).mono ?_;rintro e w2 ⟨rfl,hb2⟩)
      go_roundg (gk - 1)
      case measure=>omega
      case rel=>exact ⟨j+1,om,by go_num,hid (fun q h hq=>by
       by_cases hqj:q=j
       ·subst hqj;exact HCJ.out
       exact HZ.out q h om),hbr.trans (hb2.mono om)⟩
     have hc':(ZQ t.vs[j] != 0)=true:=by simp [hc]
     have hfv:=Zag t.vs j hlt (fun q h hq=>HZ.out q h hq) hc
     have HFV:=hid (show F=ZQ t.vs[j] by rw [←HF.out,hfv,if_pos hc])
     clear hc hfv
     go_wp2_with (go_at_call 237;refine (X7 t.vs[j] _ A mj' (OVS.out.get j hlt) om (by exact Zt8 ar _ _ (Zl.1 gx))).mono ?_;rintro e w2 ⟨rfl,hb2⟩)
     go_ret
     exact ⟨Zf HFV.out.symm,hbw.trans (hb2.mono om)⟩
    have hFW:ZB t=F:=by
     rw [←HF.out,K9 t.vs fun q h=>HZ.out q h om,if_neg sm]
    have HFW:=hid hFW
    clear hFW
    cases k9:(t.k==9)
    ·cases hnp:Wi t.p
     ·have HNP:=hid hnp
      have HFF:=hid ((wE1 k9 hnp).symm.trans HFW.out)
      clear hnp
      go_wp2_with (go_at_call 240;refine (XR t.p ⟨mg,mh,mi,mj⟩ _ OP.out).mono ?_;rw [HNP.out];rintro e w2 ⟨rfl,hb2⟩;have hz2:=hb2.size;obtain ⟨hc2,hf2⟩:=Za hb2;have u2:w.heap.size < w2.heap.size:=om)
      go_ret
      exact ⟨Zf HFF.out,ZtZ⟩
     have HNP:=hid hnp
     have HRW:=hid ((wE2 k9 hnp).symm.trans HFW.out)
     clear hnp
     cases k3:(t.k==3)
     ·cases k4:(t.k==4)
      ·by_cases hw0:t.w.length=0
       ·have HFF:=hid ((rW2 k3 k4 hw0).symm.trans HRW.out)
        have hwd:decide (0 < t.w.length)=false:=by simp [hw0]
        clear hw0
        go_wp2_with (go_at_call 240;refine (XR t.p ⟨mg,mh,mi,mj⟩ _ OP.out).mono ?_;rw [HNP.out];rintro e w2 ⟨rfl,hb2⟩;have hz2:=hb2.size;obtain ⟨hc2,hf2⟩:=Za hb2;have u2:w.heap.size < w2.heap.size:=om)
        go_ret
        exact ⟨Zf HFF.out,ZtZ⟩
       have HFF:=hid ((rW3 k3 k4 hw0).symm.trans HRW.out)
       have hwd:decide (0 < t.w.length)=true:=decide_eq_true om
       clear hw0
       go_wp2_with (go_at_call 240;refine (XR t.p ⟨mg,mh,mi,mj⟩ _ OP.out).mono ?_;rw [HNP.out];rintro e w2 ⟨rfl,hb2⟩;have hz2:=hb2.size;obtain ⟨hc2,hf2⟩:=Za hb2;have u2:w.heap.size < w2.heap.size:=om)
       go_ret
       exact ⟨Zf HFF.out,ZtZ⟩
      have HFF:=hid ((rW1 (.inr k4)).symm.trans HRW.out)
      go_wp2_with (first|(go_at_call 240;refine (XR t.p ⟨mg,mh,mi,mj⟩ _ OP.out).mono ?_;rw [HNP.out];rintro e w2 ⟨rfl,hb2⟩;have hz2:=hb2.size;obtain ⟨hc2,hf2⟩:=Za hb2;have u2:w.heap.size < w2.heap.size:=om)|(go_at_call 241;refine (WH t.w _ A me mf owl OW.out (by exact Zuc ar _ _ HWS.out)).mono ?_;rintro e w3 ⟨rfl,hb3⟩))
      go_ret
      exact ⟨Zf HFF.out,ZtZ⟩
     have HFF:=hid ((rW1 (.inl k3)).symm.trans HRW.out)
     go_wp2_with (first|(go_at_call 240;refine (XR t.p ⟨mg,mh,mi,mj⟩ _ OP.out).mono ?_;rw [HNP.out];rintro e w2 ⟨rfl,hb2⟩;have hz2:=hb2.size;obtain ⟨hc2,hf2⟩:=Za hb2;have u2:w.heap.size < w2.heap.size:=om)|(go_at_call 241;refine (WH t.w _ A me mf owl OW.out (by exact Zuc ar _ _ HWS.out)).mono ?_;rintro e w3 ⟨rfl,hb3⟩))
     go_ret
     exact ⟨Zf HFF.out,ZtZ⟩
    by_cases hcp:(Zw t.p).2=0
    ·have hcp':((Zw t.p).2 != 0)=false:=by simp [hcp]
     have HRW:=hid ((wE4 k9 hcp).symm.trans HFW.out)
     clear hcp
     cases k3:(t.k==3)
     ·cases k4:(t.k==4)
      ·by_cases hw0:t.w.length=0
       ·have HFF:=hid ((rW2 k3 k4 hw0).symm.trans HRW.out)
        have hwd:decide (0 < t.w.length)=false:=by simp [hw0]
        clear hw0
        go_wp2_with (go_at_call 239;refine (Z2 t.p _ A ⟨mg,mh,mi,mj⟩ OP.out hsp (by exact Zub ar _ _ HPS.out)).mono ?_;rintro e w2 ⟨rfl,hb2⟩;have hz2:=hb2.size;obtain ⟨hc2,hf2⟩:=Za hb2;have u2:w.heap.size < w2.heap.size:=om)
        go_ret
        exact ⟨Zf HFF.out,ZtZ⟩
       have HFF:=hid ((rW3 k3 k4 hw0).symm.trans HRW.out)
       have hwd:decide (0 < t.w.length)=true:=decide_eq_true om
       clear hw0
       go_wp2_with (go_at_call 239;refine (Z2 t.p _ A ⟨mg,mh,mi,mj⟩ OP.out hsp (by exact Zub ar _ _ HPS.out)).mono ?_;rintro e w2 ⟨rfl,hb2⟩;have hz2:=hb2.size;obtain ⟨hc2,hf2⟩:=Za hb2;have u2:w.heap.size < w2.heap.size:=om)
       go_ret
       exact ⟨Zf HFF.out,ZtZ⟩
      have HFF:=hid ((rW1 (.inr k4)).symm.trans HRW.out)
      go_wp2_with (first|(go_at_call 239;refine (Z2 t.p _ A ⟨mg,mh,mi,mj⟩ OP.out hsp (by exact Zub ar _ _ HPS.out)).mono ?_;rintro e w2 ⟨rfl,hb2⟩;have hz2:=hb2.size;obtain ⟨hc2,hf2⟩:=Za hb2;have u2:w.heap.size < w2.heap.size:=om)|(go_at_call 241;refine (WH t.w _ A me mf owl OW.out (by exact Zuc ar _ _ HWS.out)).mono ?_;rintro e w3 ⟨rfl,hb3⟩))
      go_ret
      exact ⟨Zf HFF.out,ZtZ⟩
     have HFF:=hid ((rW1 (.inl k3)).symm.trans HRW.out)
     go_wp2_with (first|(go_at_call 239;refine (Z2 t.p _ A ⟨mg,mh,mi,mj⟩ OP.out hsp (by exact Zub ar _ _ HPS.out)).mono ?_;rintro e w2 ⟨rfl,hb2⟩;have hz2:=hb2.size;obtain ⟨hc2,hf2⟩:=Za hb2;have u2:w.heap.size < w2.heap.size:=om)|(go_at_call 241;refine (WH t.w _ A me mf owl OW.out (by exact Zuc ar _ _ HWS.out)).mono ?_;rintro e w3 ⟨rfl,hb3⟩))
     go_ret
     exact ⟨Zf HFF.out,ZtZ⟩
    have hcp':((Zw t.p).2 != 0)=true:=by simp [hcp]
    have HFF:=hid ((wE3 k9 hcp).symm.trans HFW.out)
    clear hcp
    go_wp2_with (go_at_call 239;refine (Z2 t.p _ A ⟨mg,mh,mi,mj⟩ OP.out hsp (by exact Zub ar _ _ HPS.out)).mono ?_;rintro e w2 ⟨rfl,hb2⟩;have hz2:=hb2.size;obtain ⟨hc2,hf2⟩:=Za hb2;have u2:w.heap.size < w2.heap.size:=om)
    go_ret
    exact ⟨Zf HFF.out,ZtZ⟩
 exact key _ _ rfl rfl fun a=>decide_eq_false fun b=>h4' a om
theorem Zha (t:GT) (A:Nat→Prop) (m:TA) (w:World) (ox:okT t) (hs:Zb t≤1099511627776) (hl:RT w A t m) (h:Wg t=0) (h4:¬t.k=4) (h5:¬t.vs.length=0):
  Calls prog 181 #[TV t m] w fun e w'=>e=.returned (.int .i64 3)∧Below w.heap.size w w':=by
 obtain ⟨x1,ov,⟨ovl,ovs⟩,l1,l2,⟨owl,ow⟩,op,oal,oa⟩:=Ze.1 ox
 obtain ⟨v1,v2,v3,_⟩:=ZA.1 ov
 obtain ⟨ma,mb,mc,md,me,mf,mg,mh,mi,mj,mk,ml⟩:=m
 have HV:=hid (And.intro v1 (And.intro v2 v3))
 have OV:=hid ov
 have HLV:=hid (Zl.1 (Zo.1 hl).1)
 have hse:=Zq t
 have hsv:Zg t.v≤1099511627776:=om
 have b4:(t.k != 4)=true:=by simp [h4]
 have hvd:decide (0 < t.vs.length)=true:=decide_eq_true om
 clear ox ov ovs ow op oa v1 v2 v3 hl hse h4 h5
 by_cases hk:t.k=1
 ·have hc:ZQ t.v=0:=by unfold Wg at h;rw [if_pos hk] at h;exact h
  have HC:=hid hc
  have hk':(t.k==1)=true:=by simp [hk]
  clear h hk hc
  go_enter func181,ntmps181
  go_wp2_with (go_at_call 237;refine (X7 t.v _ A ⟨ma,mb⟩ OV.out hsv (by exact Zt8 az _ _ HLV.out)).mono ?_;rw [HC.out];rintro e w1 ⟨rfl,hbx⟩;have hB1:=hbx;clear hbx;obtain ⟨hc1,hf1⟩:=Za hB1)
  go_ret
  exact ⟨rfl,ZtZ⟩
 have hn:Xw t.v=true:=by
  unfold Wg at h;rw [if_neg hk] at h
  cases hn:Xw t.v
  ·rw [hn] at h;simp at h
  rfl
 have HN:=hid hn
 have hk':(t.k==1)=false:=by simp [hk]
 clear h hk hn
 go_enter func181,ntmps181
 go_wp2_with (go_at_call 238;refine (QE t.v ⟨ma,mb⟩ _ HV.out).mono ?_;rw [HN.out];rintro e w1 ⟨rfl,hbx⟩;have hB1:=hbx;clear hbx;obtain ⟨hc1,hf1⟩:=Za hB1)
 go_ret
 exact ⟨rfl,ZtZ⟩
set_option maxRecDepth 512
theorem XT (t:GT) (A:Nat→Prop) (m:TA) (w:World) (ox:okT t) (hs:Zb t≤1099511627776) (hl:RT w A t m):
  Calls prog 181 #[TV t m] w fun e w'=>e=.returned (.int .i64 (Ux t))∧Below w.heap.size w w':=by
 by_cases h:Wg t=0
 case neg=>
  have hF:Ux t=Wg t:=by unfold Ux;rw [Qc,if_pos h,if_pos h]
  rw [hF]
  exact Zes t A m w ox hs hl h
 have hV:Z6 t=Vo t:=by rw [Qc,if_neg (by simp [h])]
 by_cases h4:t.k=4
 ·have hR:Vo t=YA t.vs:=by unfold Vo;rw [if_neg (by simp [h4])]
  have hF:Ux t=if YA t.vs≠0 then YA t.vs else ZB t:=by unfold Ux;rw [hV,hR]
  rw [hF]
  exact Zax t A m w ox hs hl h (.inl h4)
 by_cases h5:t.vs.length=0
 ·have hR:Vo t=0:=by unfold Vo;rw [if_pos h4,if_pos om]
  have hn:t.vs=[]:=List.eq_nil_of_length_eq_zero h5
  have hF:Ux t=if YA t.vs≠0 then YA t.vs else ZB t:=by unfold Ux;rw [hV,hR,hn];simp [YA]
  rw [hF]
  exact Zax t A m w ox hs hl h (.inr h5)
 have hR:Vo t=3:=by unfold Vo;rw [if_pos h4,if_neg om]
 have hF:Ux t=3:=by unfold Ux;rw [hV,hR];rfl
 rw [hF]
 exact Zha t A m w ox hs hl h h4 h5
theorem ZgX (t:GT) (hk:¬(t.k < 1∨11 < t.k)):ZG t=if Ux t≠0 then Ux t else if Ya t≠0 then Ya t else Zn t:=by
 unfold ZG Ux
 rw [if_neg hk]
 by_cases h:Z6 t=0<;>simp [h]
theorem Zwe {p:Prop} (h:p:=by
 go_enter func112,ntmps112
 go_wp2_with (first|(go_at_call 181;refine (XT _ A ⟨ma,mb,mc,md,me,mf,mg,mh,mi,mj,mk,ml⟩ _ OX.out hs (by exact Zt2 ar _ _ HL.out)).mono ?_;rw [HH.out];rintro e w1 ⟨rfl,hbx⟩;have hB1:=hbx;clear hbx;obtain ⟨hc1,hf1⟩:=Za hB1)|(go_at_call 182;refine (XS _ ⟨ma,mb,mc,md,me,mf,mg,mh,mi,mj,mk,ml⟩ _ OX.out).mono ?_;rw [HE.out];rintro e w2 ⟨rfl,hbx⟩;have hB2:=Below.trans hB1 (Below.mono hbx (Below.size hB1));clear hbx;obtain ⟨hc2,hf2⟩:=Za hB2)|(go_at_call 183;refine (Ww _ _ _ _ ⟨om,om⟩ ⟨om,om⟩ ⟨om,om⟩).mono ?_;rintro e w3 ⟨rfl,hbx⟩;have hB3:=Below.trans hB2 (Below.mono hbx (Below.size hB2));clear hbx;obtain ⟨hc3,hf3⟩:=Za hB3))
 go_ret
 exact ⟨Zf (by simp [Zn]),ZtZ⟩):p:=h
theorem Zwf {p:Prop} (h:p:=by
 obtain ⟨ma,mb,mc,md,me,mf,mg,mh,mi,mj,mk,ml⟩:=m
 obtain ⟨⟨x1,x2⟩,ov,⟨ovl,ovs⟩,l1,l2,⟨owl,ow⟩,op,oal,oa⟩:=Ze.1 ox
 have HL:=hid hl
 have OX:=hid ox
 have HH:=hid hh
 have HE:=hid he
 clear hl ox ov ovs l1 l2 ow op oa hh he
 obtain ⟨k,v,vs,lo,hi,ws,p,l⟩:=t
 dsimp only at h4 ovl owl oal x1 x2
 rcases h4 with rfl|rfl|rfl
 all_goals clear x1 x2
 all_goals exact Zwe):p:=h
set_option maxRecDepth 100000
theorem ZfF (t:GT) (A:Nat→Prop) (m:TA) (w:World) (ox:okT t) (hs:Zb t≤1099511627776) (hl:RT w A t m) (hh:Ux t=0) (he:Ya t=0) (h4:t.k=1∨t.k=2∨t.k=3):
  Calls prog 112 #[TV t m] w fun e w'=>e=.returned (.int .i64 (Zn t))∧Below w.heap.size w w':=by
 exact Zwf
theorem ZfG (t:GT) (A:Nat→Prop) (m:TA) (w:World) (ox:okT t) (hs:Zb t≤1099511627776) (hl:RT w A t m) (hh:Ux t=0) (he:Ya t=0) (h4:t.k=5∨t.k=6∨t.k=7):
  Calls prog 112 #[TV t m] w fun e w'=>e=.returned (.int .i64 (Zn t))∧Below w.heap.size w w':=by
 exact Zwf
set_option maxRecDepth 512
theorem Zwg {p:Prop} (h:p:=by
 obtain ⟨ma,mb,mc,md,me,mf,mg,mh,mi,mj,mk,ml⟩:=m
 obtain ⟨⟨x1,x2⟩,ov,⟨ovl,ovs⟩,l1,l2,⟨owl,ow⟩,op,oal,oa⟩:=Ze.1 ox
 have HL:=hid hl
 have OX:=hid ox
 have HH:=hid hh
 have HE:=hid he
 clear hl ox ov ovs l1 l2 ow op oa hh he
 obtain ⟨k,v,vs,lo,hi,ws,p,l⟩:=t
 dsimp only at h4 ovl owl oal x1 x2
 rcases h4 with rfl|rfl
 all_goals clear x1 x2
 all_goals exact Zwe):p:=h
set_option maxRecDepth 100000
theorem ZfH (t:GT) (A:Nat→Prop) (m:TA) (w:World) (ox:okT t) (hs:Zb t≤1099511627776) (hl:RT w A t m) (hh:Ux t=0) (he:Ya t=0) (h4:t.k=8∨t.k=9):
  Calls prog 112 #[TV t m] w fun e w'=>e=.returned (.int .i64 (Zn t))∧Below w.heap.size w w':=by
 exact Zwg
theorem ZfI (t:GT) (A:Nat→Prop) (m:TA) (w:World) (ox:okT t) (hs:Zb t≤1099511627776) (hl:RT w A t m) (hh:Ux t=0) (he:Ya t=0) (h4:t.k=10∨t.k=11):
  Calls prog 112 #[TV t m] w fun e w'=>e=.returned (.int .i64 (Zn t))∧Below w.heap.size w w':=by
 exact Zwg
theorem Zhb (t:GT) (A:Nat→Prop) (m:TA) (w:World) (ox:okT t) (hs:Zb t≤1099511627776) (hl:RT w A t m) (hh:Ux t=0) (he:Ya t=0) (h4:t.k=4):
  Calls prog 112 #[TV t m] w fun e w'=>e=.returned (.int .i64 (Zn t))∧Below w.heap.size w w':=by
 obtain ⟨ma,mb,mc,md,me,mf,mg,mh,mi,mj,mk,ml⟩:=m
 obtain ⟨⟨x1,x2⟩,ov,⟨ovl,ovs⟩,l1,l2,⟨owl,ow⟩,op,oal,oa⟩:=Ze.1 ox
 have HL:=hid hl
 have OX:=hid ox
 have HH:=hid hh
 have HE:=hid he
 clear hl ox ov ovs l1 l2 ow op oa hh he
 obtain ⟨k,v,vs,lo,hi,ws,p,l⟩:=t
 dsimp only at h4 ovl owl oal x1 x2
 have ma1:Zv ((l.length:Nat):Int):=⟨om,om⟩
 have ma2:Zv ((ws.length:Nat):Int):=⟨om,om⟩
 have ma3:Zv ((vs.length:Nat):Int):=⟨om,om⟩
 have MA1:=hid ma1
 have MA2:=hid ma2
 have MA3:=hid ma3
 clear ma1 ma2 ma3
 clear MA1 MA2 MA3
 subst h4
 clear x1 x2
 by_cases hM0:Xl (vs.length:Int) (ws.length:Int) (ws.length:Int)=0
 ·have hF:Zn ⟨4,v,vs,lo,hi,ws,p,l⟩=Xl (l.length:Int) 0 0:=by simp [Zn,hM0]
  rw [hF]
  have hm2:(Xl (vs.length:Int) (ws.length:Int) (ws.length:Int) != 0)=false:=by simp [hM0]
  have hm3:(Xl (vs.length:Int) (ws.length:Int) (ws.length:Int)==0)=true:=by simp [hM0]
  clear hM0 hF
  go_enter func112,ntmps112
  go_wp2_with (first|(go_at_call 181;refine (XT _ A ⟨ma,mb,mc,md,me,mf,mg,mh,mi,mj,mk,ml⟩ _ OX.out hs (by exact Zt2 ar _ _ HL.out)).mono ?_;rw [HH.out];rintro e w1 ⟨rfl,hbx⟩;have hB1:=hbx;clear hbx;obtain ⟨hc1,hf1⟩:=Za hB1)|(go_at_call 182;refine (XS _ ⟨ma,mb,mc,md,me,mf,mg,mh,mi,mj,mk,ml⟩ _ OX.out).mono ?_;rw [HE.out];rintro e w2 ⟨rfl,hbx⟩;have hB2:=Below.trans hB1 (Below.mono hbx (Below.size hB1));clear hbx;obtain ⟨hc2,hf2⟩:=Za hB2)|(go_at_call 183;refine (Ww _ _ _ _ ⟨om,om⟩ ⟨om,om⟩ ⟨om,om⟩).mono ?_;rintro e w3 ⟨rfl,hbx⟩;first|(have hB4:=Below.trans hB3 (Below.mono hbx (Below.size hB3));clear hbx;obtain ⟨hc4,hf4⟩:=Za hB4)|(have hB3:=Below.trans hB2 (Below.mono hbx (Below.size hB2));clear hbx;obtain ⟨hc3,hf3⟩:=Za hB3)))
  go_ret
  exact ⟨Zf rfl,ZtZ⟩
 have hF:Zn ⟨4,v,vs,lo,hi,ws,p,l⟩=Xl (vs.length:Int) (ws.length:Int) (ws.length:Int):=by simp [Zn,hM0]
 rw [hF]
 have hm2:(Xl (vs.length:Int) (ws.length:Int) (ws.length:Int) != 0)=true:=by simp [hM0]
 clear hM0 hF
 go_enter func112,ntmps112
 go_wp2_with (first|(go_at_call 181;refine (XT _ A ⟨ma,mb,mc,md,me,mf,mg,mh,mi,mj,mk,ml⟩ _ OX.out hs (by exact Zt2 ar _ _ HL.out)).mono ?_;rw [HH.out];rintro e w1 ⟨rfl,hbx⟩;have hB1:=hbx;clear hbx;obtain ⟨hc1,hf1⟩:=Za hB1)|(go_at_call 182;refine (XS _ ⟨ma,mb,mc,md,me,mf,mg,mh,mi,mj,mk,ml⟩ _ OX.out).mono ?_;rw [HE.out];rintro e w2 ⟨rfl,hbx⟩;have hB2:=Below.trans hB1 (Below.mono hbx (Below.size hB1));clear hbx;obtain ⟨hc2,hf2⟩:=Za hB2)|(go_at_call 183;refine (Ww _ _ _ _ ⟨om,om⟩ ⟨om,om⟩ ⟨om,om⟩).mono ?_;rintro e w3 ⟨rfl,hbx⟩;have hB3:=Below.trans hB2 (Below.mono hbx (Below.size hB2));clear hbx;obtain ⟨hc3,hf3⟩:=Za hB3))
 go_ret
 exact ⟨Zf rfl,ZtZ⟩
theorem Uk (t:GT) (A:Nat→Prop) (m:TA) (w:World) (ox:okT t) (hs:Zb t≤1099511627776) (hl:RT w A t m):
  Calls prog 112 #[TV t m] w fun e w'=>e=.returned (.int .i64 (ZG t))∧Below w.heap.size w w':=by
 obtain ⟨ma,mb,mc,md,me,mf,mg,mh,mi,mj,mk,ml⟩:=m
 obtain ⟨⟨x1,x2⟩,ov,⟨ovl,ovs⟩,l1,l2,⟨owl,ow⟩,op,oal,oa⟩:=Ze.1 ox
 have HL:=hid hl
 have OX:=hid ox
 clear hl ox ov ovs l1 l2 ow op oa
 by_cases hk:t.k < 1∨11 < t.k
 ·have hF:ZG t=11:=by unfold ZG;rw [if_pos hk]
  rw [hF]
  clear hF
  rcases hk with hk|hk
  all_goals go_enter func112,ntmps112
  all_goals go_wp2_with fail
  all_goals go_ret
  all_goals exact ⟨rfl,ZtZ⟩
 rw [ZgX t hk]
 have hk1:1≤t.k:=om
 have hk2:t.k≤11:=om
 clear hk
 by_cases hh:Ux t=0
 case neg=>
  rw [if_pos hh]
  have h1:(Ux t==0)=false:=by simp [hh]
  have h2:(Ux t != 0)=true:=by simp [hh]
  clear hh
  go_enter func112,ntmps112
  go_wp2_with (go_at_call 181;refine (XT t A ⟨ma,mb,mc,md,me,mf,mg,mh,mi,mj,mk,ml⟩ _ OX.out hs (by exact Zt2 az _ _ HL.out)).mono ?_;rintro e w1 ⟨rfl,hb⟩;have hB1:=hb;clear hb;obtain ⟨hc1,hf1⟩:=Za hB1)
  go_ret
  exact ⟨rfl,ZtZ⟩
 rw [if_neg (by simp [hh])]
 have hh0:=hh
 have HH:=hid hh
 clear hh
 by_cases he:Ya t=0
 case neg=>
  rw [if_pos he]
  have h1:(Ya t==0)=false:=by simp [he]
  have h2:(Ya t != 0)=true:=by simp [he]
  clear he
  go_enter func112,ntmps112
  go_wp2_with (first
   | (go_at_call 181;refine (XT t A ⟨ma,mb,mc,md,me,mf,mg,mh,mi,mj,mk,ml⟩ _ OX.out hs (by exact Zt2 az _ _ HL.out)).mono ?_;rw [HH.out];rintro e w1 ⟨rfl,hbx⟩;have hB1:=hbx;clear hbx;obtain ⟨hc1,hf1⟩:=Za hB1)
   | (go_at_call 182;refine (XS t ⟨ma,mb,mc,md,me,mf,mg,mh,mi,mj,mk,ml⟩ _ OX.out).mono ?_;rintro e w2 ⟨rfl,hb⟩;have hB2:=Below.trans hB1 (Below.mono hb (Below.size hB1));clear hb;obtain ⟨hc2,hf2⟩:=Za hB2))
  go_ret
  exact ⟨rfl,ZtZ⟩
 rw [if_neg (by simp [he])]
 by_cases h4:t.k=4
 ·exact Zhb t A _ w OX.out hs HL.out hh0 he h4
 rcases (by omega:(t.k=1∨t.k=2∨t.k=3)∨(t.k=5∨t.k=6∨t.k=7)∨(t.k=8∨t.k=9)∨(t.k=10∨t.k=11)) with h|h|h|h
 ·exact ZfF t A _ w OX.out hs HL.out hh0 he h
 ·exact ZfG t A _ w OX.out hs HL.out hh0 he h
 ·exact ZfH t A _ w OX.out hs HL.out hh0 he h
 exact ZfI t A _ w OX.out hs HL.out hh0 he h
end Go.Proofs.YtkdffbdnjfgpeaaGreat
