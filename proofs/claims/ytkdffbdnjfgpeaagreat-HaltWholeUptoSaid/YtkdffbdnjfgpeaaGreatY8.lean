/- Part 9. -/
import Derived.Test.YtkdffbdnjfgpeaaGreatY6
set_option linter.all false
namespace Go.Proofs.YtkdffbdnjfgpeaaGreat
open Go.Lib (hid)
open Go Go.RowKit Go.Proofs.Tryz
set_option maxRecDepth 100000
set_option maxHeartbeats 2000000
theorem Zin (N:Nat) (ih:KT N) (t:GT) (w:World) (A:Nat→Prop) (m:TA) (hN:Zb t≤N+1) (ox:okT t) (hs:Zb t≤1099511627776) (hl:RT w A t m) (h1:¬t.k=1) (h9:¬t.k=9) (h4:¬t.k=4):
  Calls prog 89 #[TV t m] w fun e w'=>e=.returned (.int .i64 (Z8 t))∧Below w.heap.size w w':=by
 obtain ⟨ma,mb,mc,md,me,mf,mg,mh,mi,mj,mk,ml⟩:=m
 have IH:=hid ih
 obtain ⟨h1,h2,_,h4,h5⟩:=Zo.1 hl
 have HL:=hid h5
 have HV:=hid (Zl.1 h1)
 have HVS:=hid h2
 have HP:=hid h4
 obtain ⟨⟨x1,x2⟩,ov,⟨ovl,ovs⟩,⟨l1,l2⟩,⟨l3,l4⟩,⟨owl,ow⟩,op,oal,oa⟩:=Ze.1 ox
 have O:=hid oa
 have OV:=hid ov
 have OVS:=hid ovs
 have OP:=hid op
 have hse:=Zq t
 have hsv:=Zr t.v
 have hsp:=ZS t.p
 have hnp:=Yv t.p
 have hsv2:Zg t.v≤1099511627776:=om
 have hsp2:Zm t.p≤1099511627776:=om
 clear ih hl ox oa ov ovs ow op h1 h2 h4 h5
 rw [Wv]
 have h1':(t.k==1)=false:=by simp [h1]
 have h9':(t.k==9)=false:=by simp [h9]
 have hG:Vs t=0:=by rw [Vs,if_neg h1,if_neg h4,if_neg h9]
 rw [hG]
 have h4':(t.k==4)=false:=by simp [h4]
 clear hG h1 h9 h4
 go_enter func89,ntmps89
 go_wp2_with fail
 go_loopg [3,41] (t.a.length) (fun gk t3 i wr=>∃j:Nat,gk+j=t.a.length∧i=.int .i64 j∧t3=.int .i64 ((1+0+Z4 (t.a.take j):Nat):Int)∧Below w.heap.size w wr∧w.heap.size < wr.heap.size)
 case atStart=>exact ⟨0,om,rfl,by simp [Z4],ZtX,sm⟩
 case round=>
  obtain ⟨j,hj,rfl,rfl,hb,hz⟩:=hrel
  by_cases hlt:j < t.a.length
  ·obtain ⟨b,o,mj',rfl,hA,hbs,g0,gx⟩:=HL.out.get j hlt
   obtain ⟨k0,k1,k2,k3,k4,k5,k6,k7,k8,k9,ka,kb,kc,kd,ke⟩:=Yp.1 (g0.ext (ZtY hb) (A:=fun _=>True) trivial)
   have hs1:b < wr.heap.size:=om
   have hq1:=ZD t.a j hlt
   have hq2:=ZZ t.a j hlt
   have hq3:=Ym t.a j
   have hq4:=Xh t.a[j]
   have HQ:=hid hq2
   clear hq2 g0
   go_wp2_with (go_at_call 89;refine (IH.out t.a[j] _ A mj' om (O.out.get j hlt) om (by exact Zt2 az _ _ gx)).mono ?_;rintro e w2 ⟨rfl,hb2⟩)
   have hbb:Below w.heap.size w w2:=(hb.alloc om _).trans (hb2.mono (by simp;omega))
   go_roundg (gk - 1)
   case measure=>omega
   case rel=>exact ⟨j+1,om,by go_num,by rw [HQ.out];go_num,hbb,by have:=hb2.size;simp at this;omega⟩
  have hjl:j=t.a.length:=om
  go_wp2_with fail
  go_ret
  exact ⟨Zf (by rw [hjl,List.take_length]),hb⟩
set_option maxRecDepth 512
theorem Zfj (N:Nat):KT N:=by
 induction N with
 | zero=>intro t;have:=X8 t;intros;omega
 | succ N ih=>
  intro t w A m hN ox hs hl
  by_cases h1:t.k=1
  ·exact Zik N ih t w A m hN ox hs hl h1
  by_cases h9:t.k=9
  ·exact Zim N ih t w A m hN ox hs hl h1 h9
  by_cases h4:t.k=4
  ·exact Zil N ih t w A m hN ox hs hl h1 h9 h4
  exact Zin N ih t w A m hN ox hs hl h1 h9 h4
set_option maxRecDepth 100000
set_option maxHeartbeats 4000000
theorem Zav (p:GP) (A:Nat→Prop) (m:PA) (w:World) (ox:okP p) (hsz:Zm p≤1099511627776) (hl:RP w A p m):
  Calls prog 289 #[PV p m] w fun e w'=>e=.returned (.int .i64 (XC p))∧Below w.heap.size w w':=by
 obtain ⟨ma,mc,mb,md⟩:=m
 obtain ⟨k,v,n,a⟩:=p
 obtain ⟨⟨x1,x2⟩,ov,⟨x3,x4⟩,x5,oa⟩:=Y3.1 ox
 obtain ⟨v1,v2,v3,_⟩:=ZA.1 ov
 have HV:=hid (And.intro v1 (And.intro v2 v3))
 have OV:=hid ov
 have HLV:=hid (Zl.1 (Wn.1 hl).1)
 have hse:=Wk ⟨k,v,n,a⟩
 have hsv:Zg v≤1099511627776:=by simp only at hse;omega
 dsimp only at HV OV HLV x1 x2 x3 x4 x5
 clear ox oa ov v1 v2 v3 hl hse hsz
 by_cases hk:k < 1∨11 < k
 ·have hF:XC ⟨k,v,n,a⟩=11:=by unfold XC;rw [if_pos hk]
  rw [hF]
  clear hF
  rcases hk with hk|hk
  all_goals go_enter func289,ntmps289
  all_goals go_wp2_with fail
  all_goals go_ret
  all_goals exact ⟨rfl,ZtZ⟩
 rcases (by omega:k=1∨k=2∨k=3∨k=4∨k=5∨k=6∨k=7∨k=8∨k=9∨k=10∨k=11) with rfl|rfl|rfl|rfl|rfl|rfl|rfl|rfl|rfl|rfl|rfl
 all_goals clear hk
 all_goals
  generalize hF:XC _=F
  have HF:=hid hF
  clear hF
  go_enter func289,ntmps289
  go_wp2_with (first
   | (go_at_call 237;refine (X7 v _ A ⟨ma,mc⟩ OV.out hsv (by exact Zt8 az _ _ HLV.out)).mono ?_;rintro e w1 ⟨rfl,hb⟩;have hB1:=hb;clear hb;obtain ⟨hc1,hf1⟩:=Za hB1)
   | (go_at_call 275;refine (Zaw v ⟨ma,mc⟩ _ HV.out).mono ?_;rintro e w1 ⟨rfl,hb⟩;have hB1:=hb;clear hb;obtain ⟨hc1,hf1⟩:=Za hB1))
  all_goals go_ret
  all_goals refine ⟨Zf ?_,ZtZ⟩
  all_goals rw [←HF.out]
  all_goals unfold XC VF UY Jw Jy Xe
  all_goals first|(simp [*];done)|(simp_all;done)|(simp_all;omega)|(first|rfl|omega|((try simp only [beq_iff_eq,beq_eq_false_iff_ne,bne_iff_ne,bne_eq_false_iff_eq,decide_eq_true_eq,decide_eq_false_iff_not,ne_eq,Bool.and_eq_true,Bool.or_eq_true,Bool.and_eq_false_iff,Bool.or_eq_false_iff,Bool.not_eq_true',Bool.not_eq_false'] at *);(repeat' split)<;>first|rfl|omega|contradiction|(simp_all;done)|(simp_all;omega)))
theorem Jr (N:Nat):∀(p:GP) (w:World) (A:Nat→Prop) (m:PA) (pl d:Int),Zm p≤N→okP p→0≤pl→pl+Zm p≤1099511627776→0≤d→d≤13→RP w A p m →
  Calls prog 274 #[PV p m,.int .i64 pl,.int .i64 d] w fun e w'=>e=.returned (.tuple #[.int .i64 (XF pl d p).1,.int .i64 (XF pl d p).2])∧Below w.heap.size w w':=by
 induction N with
 | zero=>intro p;have:=ZS p;intros;omega
 | succ N ih=>
  rintro p w A ⟨ma,mc,mb,md⟩ pl d hN ox hp0 hp1 hd0 hd1 hl
  have IH:=hid ih
  have HL:=hid (Wn.1 hl).2
  have HP:=hid hl
  have OX:=hid ox
  obtain ⟨⟨x1,x2⟩,ov,⟨x3,x4⟩,x5,oa⟩:=Y3.1 ox
  have O:=hid oa
  have hse:=Wk p
  have hsv:=Zr p.v
  clear ih hl ox oa ov
  rw [Zgf]
  by_cases hd:12 < d
  ·rw [if_pos hd]
   go_enter func274,ntmps274
   go_wp2_with fail
   go_ret2
   exact ⟨rfl,ZtX⟩
  rw [if_neg hd]
  have hsz:Zm p≤1099511627776:=om
  by_cases hn:XC p=0
  case neg=>
   rw [if_pos hn]
   have hn':(XC p != 0)=true:=by simp [hn]
   clear hn
   go_enter func274,ntmps274
   go_wp2_with (go_at_call 289;refine (Zav p A ⟨ma,mc,mb,md⟩ _ OX.out hsz (by exact Zub az _ _ HP.out)).mono ?_;rintro e w1 ⟨rfl,hb⟩;have hB1:=hb;clear hb;obtain ⟨hc1,hf1⟩:=Za hB1)
   go_ret2
   exact ⟨rfl,ZtX⟩
  rw [if_neg (by simp [hn])]
  have HN:=hid hn
  have hn':(XC p != 0)=false:=by simp [hn]
  clear hn
  generalize hF:Yj (pl+1) (d+1) p.a=F
  have HF:=hid hF
  clear hF
  go_enter func274,ntmps274
  go_wp2_with (go_at_call 289;refine (Zav p A ⟨ma,mc,mb,md⟩ _ OX.out hsz (by exact Zub az _ _ HP.out)).mono ?_;rintro e w1 ⟨rfl,hb⟩;have hB1:=hb;clear hb;obtain ⟨hc1,hf1⟩:=Za hB1)
  go_loopg [1,8,9] (p.a.length) (fun gk t1 t8 i wr=>∃j:Nat,gk+j=p.a.length∧i=.int .i64 j∧t1=.int .i64 (Yj (pl+1) (d+1) (p.a.take j)).1∧t8=.int .i64 0∧Hid ((Yj (pl+1) (d+1) (p.a.take j)).2=0)∧Below w.heap.size w wr∧w.heap.size < wr.heap.size∧wr.cell? ⟨w.heap.size,5,none⟩=some (.slice mb p.a.length md))
  case atStart=>exact ⟨0,om,rfl,by simp [Yj],by rw [HN.out],by simp [Yj,Hid],ZtX,by have:=hB1.size;simp at this;omega,(hB1.cell so).trans gs⟩
  case round=>
   obtain ⟨j,hj,rfl,rfl,rfl,HZ,hb,hz,hcell⟩:=hrel
   by_cases hlt:j < p.a.length
   ·obtain ⟨b,o,mj,rfl,hA,hbs,g0,gx⟩:=HL.out.get j hlt
    obtain ⟨k0,k1,k2,k3,k4,k5⟩:=At6.1 (g0.ext (ZtY hb) (A:=fun _=>True) trivial)
    have hs1:b < wr.heap.size:=om
    have hq:=Uc (p.a.take j) (pl+1) (d+1)
    have hq1:=Wy p.a j
    have hq2:=WP p.a j hlt
    have hq3:=Wy p.a (j+1)
    have hst:=Za7 (pl+1) (d+1) p.a j hlt HZ.out
    have HST:=hid hst
    clear hst g0
    generalize hQ:(Yj (pl+1) (d+1) (p.a.take j)).1=Q at *
    have HQ:=hid hQ
    clear hQ
    go_wp2_with (go_at_call 274;refine (IH.out p.a[j] _ A mj Q (d+1) om (O.out.get j hlt) om om om om (by exact Zub az _ _ gx)).mono ?_;rintro e w2 ⟨rfl,hb2⟩)
    all_goals have hbb:Below w.heap.size w w2:=hb.trans (hb2.mono om)
    ·have hne:(XF Q (d+1) p.a[j]).2≠0:=by simpa using ‹((XF Q (d+1) p.a[j]).2 != 0)=true›
     go_ret2
     have h1:XF Q (d+1) p.a[j]=F:=by
      rw [←HF.out,←HST.out];exact (Za6 _ _ _ _ (by rw [HST.out];exact hne)).symm
     exact ⟨YS (congrArg Prod.fst h1) (congrArg Prod.snd h1),hbb⟩
    have hne:(XF Q (d+1) p.a[j]).2=0:=by simpa using ‹((XF Q (d+1) p.a[j]).2 != 0)=false›
    go_roundg (gk - 1)
    case measure=>omega
    case rel=>exact ⟨j+1,om,by go_num,by rw [HST.out],by rw [hne],by rw [HST.out];exact hne,hbb,by have:=hb2.size;omega,(hb2.cell (by simp;omega)).trans hcell⟩
   have hjl:j=p.a.length:=om
   go_wp2_with fail
   go_ret2
   have h1:Yj (pl+1) (d+1) (p.a.take j)=F:=by rw [hjl,List.take_length];exact HF.out
   exact ⟨YS (by rw [h1]) (by rw [←h1,HZ.out]),hb⟩
theorem Js (N:Nat):∀(p:GP) (w:World) (A:Nat→Prop) (m:PA),Zm p≤N→okP p→Zm p≤1099511627776→RP w A p m →
  Calls prog 129 #[PV p m] w fun e w'=>e=.returned (.int .i64 (Xg p))∧Below w.heap.size w w':=by
 induction N with
 | zero=>intro p;have:=ZS p;intros;omega
 | succ N ih=>
  rintro p w A ⟨ma,mc,mb,md⟩ hN ox hs hl
  have IH:=hid ih
  have HL:=hid (Wn.1 hl).2
  have HLV:=hid (Zl.1 (Wn.1 hl).1)
  obtain ⟨⟨x1,x2⟩,ov,⟨x3,x4⟩,x5,oa⟩:=Y3.1 ox
  have O:=hid oa
  have OV:=hid ov
  have hse:=Wk p
  have hsv:Zg p.v≤1099511627776:=om
  have hpos:=Zr p.v
  clear ih hl ox oa ov
  rw [ZcA]
  obtain ⟨G,hGd⟩:∃G,G=(if Xe p.k=true then Zg p.v else 0):=⟨_,rfl⟩
  rw [←hGd]
  have hGl:G≤Zg p.v:=by rw [hGd];split<;>omega
  cases h3:(p.k==3)
  all_goals cases h4:(p.k==4)
  all_goals unfold Xe at hGd
  all_goals simp only [h3,h4,Bool.or_self,Bool.or_true,Bool.true_or,Bool.or_false,Bool.false_or,if_true,if_false,Bool.false_eq_true,reduceIte] at hGd
  all_goals have HGD:=hid hGd
  all_goals clear hGd
  all_goals go_enter func129,ntmps129
  all_goals go_wp2_with (go_at_call 113;refine (XQ _ p.v _ A ⟨ma,mc⟩ (Nat.le_refl _) hsv OV.out (by exact Zt8 az _ _ HLV.out)).mono ?_;rw [←HGD.out];rintro e w1 ⟨rfl,hb1⟩;have hz1:=hb1.size;(try simp at hz1);obtain ⟨hc1,hf1⟩:=Za hb1)
  all_goals
   go_loopg [3,4] (p.a.length) (fun gk t3 i wr=>∃(j n:Nat),gk+j=p.a.length∧i=.int .i64 j∧t3=.int .i64 n∧Hid (n=1+G+YR (p.a.take j))∧n≤1099511627776∧Below w.heap.size w wr∧w.heap.size < wr.heap.size∧wr.cell? ⟨w.heap.size,5,none⟩=some (.slice mb p.a.length md))
   case atStart=>exact ⟨0,1+G,om,rfl,by first|go_num|(have hg0:=HGD.out;subst hg0;rfl),hid (by simp [YR]),om,ZtZ,by first|(simp;done)|(simp;omega)|omega,gs⟩
   case round=>
    obtain ⟨j,n,hj,rfl,rfl,HE,hn,hb,hz,hcell⟩:=hrel
    by_cases hlt:j < p.a.length
    ·obtain ⟨b,o,mj,rfl,hA,hbs,g0,gx⟩:=HL.out.get j hlt
     obtain ⟨k0,k1,k2,k3,k4,k5⟩:=At6.1 (g0.ext (ZtY hb) (A:=fun _=>True) trivial)
     have hs1:b < wr.heap.size:=om
     have hq1:=Xq p.a j hlt
     have hq2:=XD p.a j hlt
     have hq3:=Vl p.a (j+1)
     have hn2:n+Xg p.a[j]≤1099511627776:=by have:=HE.out;omega
     have hn3:=Yv p.a[j]
     have HQ:=hid hq2
     clear hq2 hq3 g0
     go_wp2_with (go_at_call 129;refine (IH.out p.a[j] _ A mj om (O.out.get j hlt) om (by exact Zub az _ _ gx)).mono ?_;rintro e w2 ⟨rfl,hb2⟩)
     have hbb:Below w.heap.size w w2:=hb.trans (hb2.mono om)
     go_roundg (gk - 1)
     case measure=>omega
     case rel=>exact ⟨j+1,n+Xg p.a[j],om,by go_num,by go_num,hid (by have:=HE.out;have:=HQ.out;omega),hn2,hbb,by have:=hb2.size;omega,(hb2.cell (by simp;omega)).trans hcell⟩
    have hjl:j=p.a.length:=om
    go_wp2_with fail
    go_ret
    exact ⟨Zf (by have:=HE.out;rw [hjl,List.take_length] at this;omega),hb⟩
theorem Z2 (p:GP) (w:World) (A:Nat→Prop) (m:PA) (ox:okP p) (hs:Zm p≤1099511627776) (hl:RP w A p m):
  Calls prog 239 #[PV p m] w fun e w'=>e=.returned (.tuple #[.int .i64 (Zw p).1,.int .i64 (Zw p).2])∧Below w.heap.size w w':=by
 obtain ⟨ma,mc,mb,md⟩:=m
 have HL:=hid hl
 have OX:=hid ox
 have hnl:=Yv p
 clear hl ox
 unfold Zw
 by_cases h1:(XF 0 1 p).2=0
 case neg=>
  have h1':((XF 0 1 p).2 != 0)=true:=by simp [h1]
  rw [if_pos h1]
  clear h1
  go_enter func239,ntmps239
  go_wp2_with (go_at_call 274;refine (Jr _ p _ A ⟨ma,mc,mb,md⟩ 0 1 (Nat.le_refl _) OX.out om om om om (by exact Zub az _ _ HL.out)).mono ?_;rintro e w1 ⟨rfl,hb⟩;have hB1:=hb;clear hb;obtain ⟨hc1,hf1⟩:=Za hB1)
  go_ret2
  exact ⟨rfl,ZtX⟩
 have h1':((XF 0 1 p).2 != 0)=false:=by simp [h1]
 rw [if_neg (by simp [h1])]
 clear h1
 generalize hF:(if 512 < (Xg p:Int) then ((0:Int),(5:Int)) else (0,0))=F
 have HF:=hid hF
 clear hF
 go_enter func239,ntmps239
 go_wp2_with (first
  | (go_at_call 274;refine (Jr _ p _ A ⟨ma,mc,mb,md⟩ 0 1 (Nat.le_refl _) OX.out om om om om (by exact Zub az _ _ HL.out)).mono ?_;rintro e w1 ⟨rfl,hb⟩;have hB1:=hb;clear hb;obtain ⟨hc1,hf1⟩:=Za hB1)
  | (go_at_call 129;refine (Js _ p _ A ⟨ma,mc,mb,md⟩ (Nat.le_refl _) OX.out hs (by exact Zub az _ _ HL.out)).mono ?_;rintro e w2 ⟨rfl,hb⟩;have hB2:=Below.trans hB1 (Below.mono hb (Below.size hB1));clear hb;obtain ⟨hc2,hf2⟩:=Za hB2))
 all_goals go_ret2
 all_goals refine ⟨?_,ZtX⟩
 all_goals rw [←HF.out]
 ·rw [if_pos (by assumption)];rfl
 rw [if_neg om];rfl
set_option maxRecDepth 512
theorem q80 {p:Prop} (h:p:=by
 go_enter func182,ntmps182
 go_wp2_with fail
 go_ret
 exact ⟨rfl,ZtZ⟩):p:=h
theorem Zg9 (t:GT) (m:TA) (w:World) (ox:okT t) (h2:(t.k==2)=false) (h6:(t.k==6)=false) (h8:(t.k==8)=false) (h10:(t.k==10)=false):
  Calls prog 182 #[TV t m] w fun e w'=>e=.returned (.int .i64 (Ya t))∧Below w.heap.size w w':=by
 obtain ⟨⟨x1,x2⟩,ov,⟨ovl,_⟩,⟨l1,l2⟩,⟨l3,l4⟩,⟨owl,_⟩,op,oal,oa⟩:=Ze.1 ox
 obtain ⟨ma,mb,mc,md,me,mf,mg,mh,mi,mj,mk,ml⟩:=m
 have hF:Ya t=if t.lo=0∧t.hi=0 then 0 else 3:=by
  unfold Ya
  rw [if_neg (by simpa using h2),if_neg (by simpa using h6),if_neg (by simpa using h8),if_neg (by simpa using h10)]
 rw [hF]
 clear ox ov oa op hF
 by_cases a:t.lo=0
 ·by_cases b:t.hi=0
  ·rw [if_pos ⟨a,b⟩]
   have a':(t.lo != 0)=false:=by simp [a]
   have b':(t.hi != 0)=false:=by simp [b]
   clear a b
   exact q80
  rw [if_neg (fun h=>b h.2)]
  have a':(t.lo != 0)=false:=by simp [a]
  have b':(t.hi != 0)=true:=by simp [b]
  clear a b
  exact q80
 rw [if_neg (fun h=>a h.1)]
 have a':(t.lo != 0)=true:=by simp [a]
 clear a
 exact q80
set_option maxRecDepth 100000
theorem XS (t:GT) (m:TA) (w:World) (ox:okT t):
  Calls prog 182 #[TV t m] w fun e w'=>e=.returned (.int .i64 (Ya t))∧Below w.heap.size w w':=by
 by_cases hk:t.k=2∨t.k=6∨t.k=8∨t.k=10
 case neg=>exact Zg9 t m w ox (beq_eq_false_iff_ne.2 om) (beq_eq_false_iff_ne.2 om) (beq_eq_false_iff_ne.2 om) (beq_eq_false_iff_ne.2 om)
 obtain ⟨k,v,vs,lo,hi,ws,p,l⟩:=t
 obtain ⟨⟨x1,x2⟩,ov,⟨ovl,_⟩,⟨l1,l2⟩,⟨l3,l4⟩,⟨owl,_⟩,op,oal,oa⟩:=Ze.1 ox
 obtain ⟨ma,mb,mc,md,me,mf,mg,mh,mi,mj,mk,ml⟩:=m
 dsimp only at hk x1 x2 l1 l2 l3 l4 oal
 clear ox ov oa op ovl owl
 rcases hk with rfl|rfl|rfl|rfl
 all_goals
  generalize hF:Ya _=F
  have HF:=hid hF
  clear hF
  go_enter func182,ntmps182
  go_wp2_with fail
  all_goals go_ret
  all_goals refine ⟨Zf ?_,ZtZ⟩
  all_goals rw [←HF.out]
  all_goals unfold Ya Yi
  all_goals first|(simp;omega)|(simp [*];done)|(simp_all;done)|(simp_all;omega)|(first|rfl|omega|((try simp only [beq_iff_eq,beq_eq_false_iff_ne,bne_iff_ne,bne_eq_false_iff_eq,decide_eq_true_eq,decide_eq_false_iff_not,ne_eq,Bool.and_eq_true,Bool.or_eq_true,Bool.and_eq_false_iff,Bool.or_eq_false_iff,Bool.not_eq_true',Bool.not_eq_false'] at *);(repeat' split)<;>first|rfl|omega|contradiction|(simp_all;done)|(simp_all;omega)))
set_option maxRecDepth 512
def Ux (t:GT):Int:=if Z6 t≠0 then Z6 t else ZB t
def Wg (t:GT):Int:=if t.k=1 then ZQ t.v else if Xw t.v=true then 0 else 3
theorem Qc (t:GT):Z6 t=if Wg t≠0 then Wg t else Vo t:=by
 unfold Z6 Wg
 split
 ·rfl
 split
 ·simp
 simp
set_option maxRecDepth 100000
theorem Zes (t:GT) (A:Nat→Prop) (m:TA) (w:World) (ox:okT t) (hs:Zb t≤1099511627776) (hl:RT w A t m) (h:Wg t≠0):
  Calls prog 181 #[TV t m] w fun e w'=>e=.returned (.int .i64 (Wg t))∧Below w.heap.size w w':=by
 obtain ⟨x1,ov,⟨ovl,ovs⟩,l1,l2,⟨owl,ow⟩,op,oal,oa⟩:=Ze.1 ox
 obtain ⟨v1,v2,v3,_⟩:=ZA.1 ov
 obtain ⟨ma,mb,mc,md,me,mf,mg,mh,mi,mj,mk,ml⟩:=m
 have HV:=hid (And.intro v1 (And.intro v2 v3))
 have OV:=hid ov
 have HLV:=hid (Zl.1 (Zo.1 hl).1)
 have hse:=Zq t
 have hsv:Zg t.v≤1099511627776:=om
 clear ox ov ovs ow op oa v1 v2 v3 hl hse
 by_cases hk:t.k=1
 ·have hF:Wg t=ZQ t.v:=by unfold Wg;rw [if_pos hk]
  rw [hF] at h ⊢
  have h':(ZQ t.v != 0)=true:=by simp [h]
  have hk':(t.k==1)=true:=by simp [hk]
  clear hF h hk
  go_enter func181,ntmps181
  go_wp2_with (go_at_call 237;refine (X7 t.v _ A ⟨ma,mb⟩ OV.out hsv (by exact Zt8 az _ _ HLV.out)).mono ?_;rintro e w1 ⟨rfl,hb⟩;have hB1:=hb;clear hb;obtain ⟨hc1,hf1⟩:=Za hB1)
  go_ret
  exact ⟨rfl,ZtZ⟩
 have hn:Xw t.v=false:=by
  cases hn:Xw t.v
  ·rfl
  unfold Wg at h;rw [if_neg hk,if_pos hn] at h;exact absurd rfl h
 have hF:Wg t=3:=by unfold Wg;rw [if_neg hk,if_neg (by simp [hn])]
 rw [hF]
 have hk':(t.k==1)=false:=by simp [hk]
 have HN:=hid hn
 clear hF h hk hn
 go_enter func181,ntmps181
 go_wp2_with (go_at_call 238;refine (QE t.v ⟨ma,mb⟩ _ HV.out).mono ?_;rw [HN.out];rintro e w1 ⟨rfl,hb⟩;have hB1:=hb;clear hb)
 go_ret
 exact ⟨rfl,ZtZ⟩
end Go.Proofs.YtkdffbdnjfgpeaaGreat
