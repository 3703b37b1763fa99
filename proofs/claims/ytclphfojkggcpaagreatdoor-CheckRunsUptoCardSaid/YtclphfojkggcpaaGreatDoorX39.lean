/- Part 40. -/
import Derived.Test.YtclphfojkggcpaaGreatDoorX4
set_option linter.all false
namespace Go.Proofs.YtclphfojkggcpaaGreatDoor
open Go.Lib (hid)
open Go Go.RowKit Go.Proofs.Tryz
theorem Zmy {p:Prop} (h:p:=by (first|rfl|omega|((try simp only [beq_iff_eq,beq_eq_false_iff_ne,bne_iff_ne,bne_eq_false_iff_eq,decide_eq_true_eq,decide_eq_false_iff_not,ne_eq,Bool.and_eq_true,Bool.or_eq_true,Bool.and_eq_false_iff,Bool.or_eq_false_iff,Bool.not_eq_true',Bool.not_eq_false'] at *);(repeat' split)<;>first|rfl|omega|contradiction|(simp_all;done)|(simp_all;omega)))):p:=h
set_option maxRecDepth 100000
theorem Zem (x:GV) (m:VA) (w:World) (ox:Yg x.k∧Zv x.n∧x.l.length≤1048576):
  Calls prog 183 #[VV x m] w fun e w'=>e=.returned (.int .i64 (Wh x))∧Below w.heap.size w w':=by
 obtain ⟨⟨x1,x2⟩,⟨x3,x4⟩,x5⟩:=ox
 obtain ⟨ma,mc⟩:=m
 generalize hF:Wh x=F
 have HF:=hid hF
 clear hF
 go_enter func183,ntmps183
 go_wp2_with fail
 all_goals go_ret
 all_goals refine ⟨Zf ?_,ZlD⟩
 all_goals rw [←HF.out]
 all_goals unfold Wh
 all_goals exact Zmy
set_option maxRecDepth 512
mutual
def K3:GV→Int
 | ⟨k,n,l⟩=>if Wh ⟨k,n,l⟩≠0 then Wh ⟨k,n,l⟩ else Wc l
def Wc:List GV→Int
 | []=>0
 | x::l=>if K3 x≠0 then K3 x else Wc l
end
theorem ZiZ (x:GV):K3 x=if Wh x≠0 then Wh x else Wc x.l:=by cases x;simp only [K3]
mutual
theorem ZdJ:∀(x:GV) (d:Nat),K3 x=Z1 (V8 d x)
 | ⟨k,n,l⟩,d=>by simp only [K3,V8,Z1,Zcb l (d+1)]
theorem Zcb:∀(l:List GV) (d:Nat),Wc l=Z1 (XE d l)
 | [],d=>by simp only [Wc,XE,Z1]
 | x::l,d=>by simp only [Wc,XE,Xv,ZdJ x d,Zcb l d]
end
theorem UJ:∀(a b:List GV),Wc (a++b)=if Wc a≠0 then Wc a else Wc b
 | [],b=>by simp [Wc]
 | x::a,b=>by
  simp only [List.cons_append,Wc,UJ a b]
  by_cases h:K3 x=0<;>simp [h]
theorem ZeX (l:List GV) (j:Nat) (h:j < l.length) (h0:Wc (l.take j)=0):Wc (l.take (j+1))=K3 l[j]:=by
 rw [List.take_succ_eq_append_getElem h,UJ,h0,if_neg sm]
 simp only [Wc]
 split
 ·rfl
 rename_i h1;exact (Decidable.not_not.1 h1).symm
theorem ZeW (l:List GV) (j:Nat) (h0:Wc (l.take j)≠0):Wc l=Wc (l.take j):=by
 conv=>lhs;rw [←List.take_append_drop j l]
 rw [UJ,if_pos h0]
set_option maxRecDepth 100000
set_option maxHeartbeats 1000000
theorem ZbO (N:Nat):∀(x:GV) (w:World) (A:Nat→Prop) (m:VA),Zg x≤N→okV x→RVs w A x.l m.a →
  Calls prog 151 #[VV x m] w fun e w'=>e=.returned (.int .i64 (K3 x))∧Below w.heap.size w w':=by
 induction N with
 | zero=>intro x;have:=Zr x;intros;omega
 | succ N ih=>
  rintro x w A ⟨ma,mc⟩ hN ox hl
  have IH:=hid ih
  have HL:=hid hl
  obtain ⟨x1,x2,hlen,oa⟩:=ZA.1 ox
  have O:=hid oa
  have HU:=hid (And.intro x1 (And.intro x2 hlen))
  have hse:=XZ x
  rw [ZiZ]
  generalize hF:(if Wh x≠0 then Wh x else Wc x.l)=F
  have HF:=hid hF
  clear hF
  clear ih hl ox oa x1 x2
  go_enter func151,ntmps151
  go_wp2_with (go_at_call 183;refine (Zem x ⟨ma,mc⟩ _ HU.out).mono ?_;rintro e w1 ⟨rfl,hb⟩;have hB1:=hb;clear hb;obtain ⟨hc1,hf1⟩:=Za hB1)
  have hz1:=hB1.size
  simp at hz1
  have q2:w1.cell? ⟨w.heap.size,2,none⟩=some (.slice ma x.l.length mc):=(hB1.cell so).trans gs
  have hbw1:Below w.heap.size w w1:=ZlD
  go_loopg [3,4] (x.l.length) (fun gk t3 i wr=>∃(j:Nat) (E:Int),gk+j=x.l.length∧i=.int .i64 j∧t3=.int .i64 E∧Hid (E=if Wh x≠0 then Wh x else Wc (x.l.take j))∧Below w.heap.size w wr∧w.heap.size < wr.heap.size∧wr.cell? ⟨w.heap.size,2,none⟩=some (.slice ma x.l.length mc))
  case atStart=>exact ⟨0,_,om,rfl,rfl,hid (by simp [Wc]),hbw1,om,q2⟩
  case round=>
   obtain ⟨j,E,hj,rfl,rfl,HE,hb,hz,hcell⟩:=hrel
   by_cases hE:E=0
   ·have hE':(E==0)=true:=by simp [hE]
    have h0:Wh x=0∧Wc (x.l.take j)=0:=by
     have:=HE.out
     rw [hE] at this
     split at this
     ·rename_i h1;exact absurd this.symm h1
     rename_i h1;exact ⟨by simpa using h1,this.symm⟩
    have H0:=hid h0
    clear h0 hE
    by_cases hlt:j < x.l.length
    ·obtain ⟨b,o,mj,rfl,hA,hbs,g0,gx⟩:=HL.out.get j hlt
     obtain ⟨k0,k1,k2⟩:=At3.1 (g0.ext (ZlH hb) (A:=fun _=>True) trivial)
     have hs1:b < wr.heap.size:=om
     have hq1:=ZX x.l j hlt
     clear g0
     go_wp2_with (go_at_call 151;refine (IH.out x.l[j] _ A mj om (O.out.get j hlt) (by exact ZmQ az _ _ (Zl.1 gx))).mono ?_;rintro e w2 ⟨rfl,hb2⟩)
     have hbb:Below w.heap.size w w2:=hb.trans (hb2.mono om)
     go_roundg (gk - 1)
     case measure=>omega
     case rel=>exact ⟨j+1,_,om,by go_num,rfl,hid (by rw [ZeX _ _ hlt H0.out.2,if_neg (by simp [H0.out.1])]),hbb,by have:=hb2.size;omega,(hb2.cell (by simp;omega)).trans hcell⟩
    have hjl:j=x.l.length:=om
    go_wp2_with fail
    go_ret
    exact ⟨Zf (by rw [HE.out,←HF.out,hjl,List.take_length]),hb⟩
   have hE':(E==0)=false:=by simp [hE]
   have hfin:E=F:=by
    rw [←HF.out]
    have:=HE.out
    split at this
    ·rename_i h1;rw [if_pos h1];exact this
    rename_i h1;rw [if_neg h1,this];exact (ZeW _ _ (by rw [←this];exact hE)).symm
   have HFI:=hid hfin
   clear hE hfin
   by_cases hlt:j < x.l.length
   all_goals
    go_wp2_with fail
    go_ret
    exact ⟨Zf HFI.out,hb⟩
set_option maxRecDepth 512
theorem JC:∀(l:List GV) (j:Nat) (h:j < l.length),Zi (l.take (j+1))=Zi (l.take j)+Zg l[j]
 | x::l,0,_=>by simp [Zi]
 | x::l,j+1,h=>by have:=JC l j (by simpa using h);simp only [List.take_succ_cons,Zi,List.getElem_cons_succ] at this ⊢;omega
theorem JB:∀(l:List GV) (j:Nat),Zi (l.take j)≤Zi l
 | [],j=>sm
 | x::l,0=>by simp [Zi]
 | x::l,j+1=>by have:=JB l j;simp only [List.take_succ_cons,Zi];omega
set_option maxRecDepth 100000
theorem XQ (N:Nat):∀(x:GV) (w:World) (A:Nat→Prop) (m:VA),Zg x≤N→Zg x≤1099511627776→okV x→RVs w A x.l m.a →
  Calls prog 56 #[VV x m] w fun e w'=>e=.returned (.int .i64 (Zg x))∧Below w.heap.size w w':=by
 induction N with
 | zero=>intro x;have:=Zr x;intros;omega
 | succ N ih=>
  rintro x w A ⟨ma,mc⟩ hN h40 ox hl
  have IH:=hid ih
  have HL:=hid hl
  obtain ⟨_,_,hlen,oa⟩:=ZA.1 ox
  have O:=hid oa
  have hse:=XZ x
  clear ih hl ox oa
  go_enter func56,ntmps56
  go_wp2_with fail
  go_loopg [3,4] (x.l.length) (fun gk t3 i wr=>∃(j n:Nat),gk+j=x.l.length∧i=.int .i64 j∧t3=.int .i64 n∧Hid (n=1+Zi (x.l.take j))∧n≤1099511627776∧Below w.heap.size w wr∧w.heap.size < wr.heap.size∧wr.cell? ⟨w.heap.size,2,none⟩=some (.slice ma x.l.length mc))
  case atStart=>exact ⟨0,1,om,rfl,rfl,hid (by simp [Zi]),om,ZlD,sm,gs⟩
  case round=>
   obtain ⟨j,n,hj,rfl,rfl,HE,hn,hb,hz,hcell⟩:=hrel
   by_cases hlt:j < x.l.length
   ·obtain ⟨b,o,mj,rfl,hA,hbs,g0,gx⟩:=HL.out.get j hlt
    obtain ⟨k0,k1,k2⟩:=At3.1 (g0.ext (ZlH hb) (A:=fun _=>True) trivial)
    have hs1:b < wr.heap.size:=om
    have hq1:=ZX x.l j hlt
    have hq2:Zi (x.l.take (j+1))=Zi (x.l.take j)+Zg x.l[j]∧Zi (x.l.take (j+1))≤Zi x.l:=⟨JC _ _ hlt,JB _ _⟩
    have hn2:n+Zg x.l[j]≤1099511627776:=by have:=HE.out;omega
    have HQ:=hid hq2
    clear g0 hq2
    go_wp2_with (go_at_call 56;refine (IH.out x.l[j] _ A mj om om (O.out.get j hlt) (by exact ZmQ az _ _ (Zl.1 gx))).mono ?_;rintro e w2 ⟨rfl,hb2⟩)
    have hbb:Below w.heap.size w w2:=hb.trans (hb2.mono om)
    go_roundg (gk - 1)
    case measure=>omega
    case rel=>exact ⟨j+1,n+Zg x.l[j],om,by go_num,by go_num,hid (by have:=HE.out;have:=HQ.out.1;omega),hn2,hbb,by have:=hb2.size;omega,(hb2.cell (by simp;omega)).trans hcell⟩
   have hjl:j=x.l.length:=om
   go_wp2_with fail
   go_ret
   exact ⟨Zf (by have:=HE.out;rw [hjl,List.take_length] at this;omega),hb⟩
set_option maxRecDepth 512
theorem K7:∀(l:List GV) (j:Nat) (h:j < l.length),YW (l.take (j+1))=max (YW (l.take j)) (Yx l[j])
 | x::l,0,_=>by simp [YW]
 | x::l,j+1,h=>by have:=K7 l j (by simpa using h);simp only [List.take_succ_cons,YW,List.getElem_cons_succ] at this ⊢;omega
theorem K6:∀(l:List GV) (j:Nat),YW (l.take j)≤YW l
 | [],j=>sm
 | x::l,0=>by simp [YW]
 | x::l,j+1=>by have:=K6 l j;simp only [List.take_succ_cons,YW];omega
theorem Za9:∀(l:List GV) (j:Nat) (h:j < l.length),Yx l[j]≤YW l
 | x::l,0,_=>by simp only [List.getElem_cons_zero,YW];omega
 | x::l,j+1,h=>by have:=Za9 l j (by simpa using h);simp only [YW,List.getElem_cons_succ] at this ⊢;omega
set_option maxRecDepth 100000
theorem Qz (N:Nat):∀(x:GV) (w:World) (A:Nat→Prop) (m:VA),Zg x≤N→Zg x≤1099511627776→okV x→RVs w A x.l m.a →
  Calls prog 143 #[VV x m] w fun e w'=>e=.returned (.int .i64 (Yx x))∧Below w.heap.size w w':=by
 induction N with
 | zero=>intro x;have:=Zr x;intros;omega
 | succ N ih=>
  rintro x w A ⟨ma,mc⟩ hN h40 ox hl
  have IH:=hid ih
  have HL:=hid hl
  obtain ⟨_,_,hlen,oa⟩:=ZA.1 ox
  have O:=hid oa
  have hse:=XZ x
  have hd1:=Vb x
  have hd2:=ZhX x
  have HD:=hid hd2
  clear ih hl ox oa hd2
  go_enter func143,ntmps143
  go_wp2_with fail
  go_loopg [3,4] (x.l.length) (fun gk t3 i wr=>∃(j n:Nat),gk+j=x.l.length∧i=.int .i64 j∧t3=.int .i64 n∧Hid (n=YW (x.l.take j))∧n≤1099511627775∧Below w.heap.size w wr∧w.heap.size < wr.heap.size∧wr.cell? ⟨w.heap.size,2,none⟩=some (.slice ma x.l.length mc))
  case atStart=>exact ⟨0,0,om,rfl,rfl,hid (by simp [YW]),om,ZlD,sm,gs⟩
  case round=>
   obtain ⟨j,n,hj,rfl,rfl,HE,hn,hb,hz,hcell⟩:=hrel
   by_cases hlt:j < x.l.length
   ·obtain ⟨b,o,mj,rfl,hA,hbs,g0,gx⟩:=HL.out.get j hlt
    obtain ⟨k0,k1,k2⟩:=At3.1 (g0.ext (ZlH hb) (A:=fun _=>True) trivial)
    have hs1:b < wr.heap.size:=om
    have hq1:=ZX x.l j hlt
    have hq3:=K6 x.l (j+1)
    have hq4:=K7 x.l j hlt
    have hq5:Yx x.l[j]≤1099511627775:=by have:=Za9 x.l j hlt;have:=HD.out;omega
    have HQ:=hid hq4
    clear g0 hq4 hq3
    by_cases hmx:n < Yx x.l[j]
    all_goals
     go_wp2_with (go_at_call 143;refine (IH.out x.l[j] _ A mj om om (O.out.get j hlt) (by exact ZmQ az _ _ (Zl.1 gx))).mono ?_;rintro e w2 ⟨rfl,hb2⟩)
     have hbb:Below w.heap.size w w2:=hb.trans (hb2.mono om)
     go_roundg (gk - 1)
     case measure=>omega
     case rel=>exact ⟨j+1,max n (Yx x.l[j]),om,by go_num,by first|(rw [Nat.max_eq_right om];done)|(rw [Nat.max_eq_left om];done)|go_num,hid (by rw [HQ.out,HE.out]),om,hbb,by have:=hb2.size;omega,(hb2.cell (by simp;omega)).trans hcell⟩
   have hjl:j=x.l.length:=om
   go_wp2_with fail
   go_ret
   exact ⟨Zf (by have:=HE.out;rw [hjl,List.take_length] at this;have:=HD.out;omega),hb⟩
theorem X7 (x:GV) (w:World) (A:Nat→Prop) (m:VA) (ox:okV x) (h40:Zg x≤1099511627776) (hl:RVs w A x.l m.a):
  Calls prog 104 #[VV x m] w fun e w'=>e=.returned (.int .i64 (ZQ x))∧Below w.heap.size w w':=by
 obtain ⟨ma,mc⟩:=m
 have HL:=hid hl
 have OX:=hid ox
 have hF:ZQ x=if K3 x≠0 then K3 x else if 128 < (Yx x:Int) then 9 else if 4096 < (Zg x:Int) then 5 else 0:=by
  unfold ZQ;rw [←ZdJ]
 rw [hF]
 clear hl ox hF
 by_cases h1:K3 x=0
 case neg=>
  rw [if_pos h1]
  have h1':(K3 x==0)=false:=by simp [h1]
  clear h1
  go_enter func104,ntmps104
  go_wp2_with (go_at_call 151;refine (ZbO _ x _ A ⟨ma,mc⟩ (Nat.le_refl _) OX.out (by exact ZmQ az _ _ HL.out)).mono ?_;rintro e w1 ⟨rfl,hb⟩;have hB1:=hb;clear hb;obtain ⟨hc1,hf1⟩:=Za hB1)
  go_ret
  exact ⟨rfl,ZlD⟩
 rw [if_neg (by simp [h1])]
 have h1':(K3 x==0)=true:=by simp [h1]
 generalize hF:(if 128 < (Yx x:Int) then (9:Int) else if 4096 < (Zg x:Int) then 5 else 0)=F
 have HF:=hid hF
 clear hF
 have HA:=hid h1
 clear h1 h1'
 go_enter func104,ntmps104
 go_wp2_with (first
  | (go_at_call 151;refine (ZbO _ x _ A ⟨ma,mc⟩ (Nat.le_refl _) OX.out (by exact ZmQ az _ _ HL.out)).mono ?_;rw [HA.out];rintro e w1 ⟨rfl,hb⟩;have hB1:=hb;clear hb;obtain ⟨hc1,hf1⟩:=Za hB1)
  | (go_at_call 143;refine (Qz _ x _ A ⟨ma,mc⟩ (Nat.le_refl _) h40 OX.out (by exact ZmQ az _ _ HL.out)).mono ?_;rintro e w2 ⟨rfl,hb⟩;have hB2:=Below.trans hB1 (Below.mono hb (Below.size hB1));clear hb;obtain ⟨hc2,hf2⟩:=Za hB2)
  | (go_at_call 56;refine (XQ _ x _ A ⟨ma,mc⟩ (Nat.le_refl _) h40 OX.out (by exact ZmQ az _ _ HL.out)).mono ?_;rintro e w3 ⟨rfl,hb⟩;have hB3:=Below.trans hB2 (Below.mono hb (Below.size hB2));clear hb;obtain ⟨hc3,hf3⟩:=Za hB3))
 all_goals go_ret
 all_goals refine ⟨Zf ?_,ZlU⟩
 all_goals rw [←HF.out]
 all_goals exact Zmy
set_option maxHeartbeats 4000000
theorem Zav (p:GP) (A:Nat→Prop) (m:PA) (w:World) (ox:okP p) (hsz:Zm p≤1099511627776) (hl:RP w A p m):
  Calls prog 64 #[PV p m] w fun e w'=>e=.returned (.int .i64 (XC p))∧Below w.heap.size w w':=by
 obtain ⟨ma,mc,mb,md⟩:=m
 obtain ⟨k,v,n,a⟩:=p
 obtain ⟨⟨x1,x2⟩,ov,⟨x3,x4⟩,x5,oa⟩:=Y3.1 ox
 obtain ⟨v1,v2,v3,_⟩:=ZA.1 ov
 have HV:=hid (And.intro v1 (And.intro v2 v3))
 have OV:=hid ov
 have HLV:=hid (Zl.1 (Wn.1 hl).1)
 have hse:=Wk ⟨k,v,n,a⟩
 have hsv:Zg v≤1099511627776:=by simp only at hse;omega
 dsimp only at HV OV HLV x1 x2 x3 x4 x5
 clear ox oa ov v1 v2 v3 hl hse hsz
 by_cases hk:k < 1∨11 < k
 ·have hF:XC ⟨k,v,n,a⟩=11:=by unfold XC;rw [if_pos hk]
  rw [hF]
  clear hF
  rcases hk with hk|hk
  all_goals go_enter func64,ntmps64
  all_goals go_wp2_with fail
  all_goals go_ret
  all_goals exact ⟨rfl,ZlD⟩
 rcases (by omega:k=1∨k=2∨k=3∨k=4∨k=5∨k=6∨k=7∨k=8∨k=9∨k=10∨k=11) with rfl|rfl|rfl|rfl|rfl|rfl|rfl|rfl|rfl|rfl|rfl
 all_goals clear hk
 all_goals
  generalize hF:XC _=F
  have HF:=hid hF
  clear hF
  go_enter func64,ntmps64
  go_wp2_with (first
   | (go_at_call 104;refine (X7 v _ A ⟨ma,mc⟩ OV.out hsv (by exact ZmQ az _ _ HLV.out)).mono ?_;rintro e w1 ⟨rfl,hb⟩;have hB1:=hb;clear hb;obtain ⟨hc1,hf1⟩:=Za hB1)
   | (go_at_call 105;refine (Zaw v ⟨ma,mc⟩ _ HV.out).mono ?_;rintro e w1 ⟨rfl,hb⟩;have hB1:=hb;clear hb;obtain ⟨hc1,hf1⟩:=Za hB1))
  all_goals go_ret
  all_goals refine ⟨Zf ?_,ZlD⟩
  all_goals rw [←HF.out]
  all_goals unfold XC VF UY Jw Jy Xe
  all_goals first|(simp [*];done)|(simp_all;done)|(simp_all;omega)|(first|rfl|omega|((try simp only [beq_iff_eq,beq_eq_false_iff_ne,bne_iff_ne,bne_eq_false_iff_eq,decide_eq_true_eq,decide_eq_false_iff_not,ne_eq,Bool.and_eq_true,Bool.or_eq_true,Bool.and_eq_false_iff,Bool.or_eq_false_iff,Bool.not_eq_true',Bool.not_eq_false'] at *);(repeat' split)<;>first|rfl|omega|contradiction|(simp_all;done)|(simp_all;omega)))
theorem Jr (N:Nat):∀(p:GP) (w:World) (A:Nat→Prop) (m:PA) (pl d:Int),Zm p≤N→okP p→0≤pl→pl+Zm p≤1099511627776→0≤d→d≤13→RP w A p m →
  Calls prog 40 #[PV p m,.int .i64 pl,.int .i64 d] w fun e w'=>e=.returned (.tuple #[.int .i64 (XF pl d p).1,.int .i64 (XF pl d p).2])∧Below w.heap.size w w':=by
 induction N with
 | zero=>intro p;have:=ZS p;intros;omega
 | succ N ih=>
  rintro p w A ⟨ma,mc,mb,md⟩ pl d hN ox hp0 hp1 hd0 hd1 hl
  have IH:=hid ih
  have HL:=hid (Wn.1 hl).2
  have HP:=hid hl
  have OX:=hid ox
  obtain ⟨⟨x1,x2⟩,ov,⟨x3,x4⟩,x5,oa⟩:=Y3.1 ox
  have O:=hid oa
  have hse:=Wk p
  have hsv:=Zr p.v
  clear ih hl ox oa ov
  rw [Zgf]
  by_cases hd:12 < d
  ·rw [if_pos hd]
   go_enter func40,ntmps40
   go_wp2_with fail
   go_ret2
   exact ⟨rfl,ZlU⟩
  rw [if_neg hd]
  have hsz:Zm p≤1099511627776:=om
  by_cases hn:XC p=0
  case neg=>
   rw [if_pos hn]
   have hn':(XC p != 0)=true:=by simp [hn]
   clear hn
   go_enter func40,ntmps40
   go_wp2_with (go_at_call 64;refine (Zav p A ⟨ma,mc,mb,md⟩ _ OX.out hsz (by exact ZmP az _ _ HP.out)).mono ?_;rintro e w1 ⟨rfl,hb⟩;have hB1:=hb;clear hb;obtain ⟨hc1,hf1⟩:=Za hB1)
   go_ret2
   exact ⟨rfl,ZlU⟩
  rw [if_neg (by simp [hn])]
  have HN:=hid hn
  have hn':(XC p != 0)=false:=by simp [hn]
  clear hn
  generalize hF:Yj (pl+1) (d+1) p.a=F
  have HF:=hid hF
  clear hF
  go_enter func40,ntmps40
  go_wp2_with (go_at_call 64;refine (Zav p A ⟨ma,mc,mb,md⟩ _ OX.out hsz (by exact ZmP az _ _ HP.out)).mono ?_;rintro e w1 ⟨rfl,hb⟩;have hB1:=hb;clear hb;obtain ⟨hc1,hf1⟩:=Za hB1)
  go_loopg [1,8,9] (p.a.length) (fun gk t1 t8 i wr=>∃j:Nat,gk+j=p.a.length∧i=.int .i64 j∧t1=.int .i64 (Yj (pl+1) (d+1) (p.a.take j)).1∧t8=.int .i64 0∧Hid ((Yj (pl+1) (d+1) (p.a.take j)).2=0)∧Below w.heap.size w wr∧w.heap.size < wr.heap.size∧wr.cell? ⟨w.heap.size,5,none⟩=some (.slice mb p.a.length md))
  case atStart=>exact ⟨0,om,rfl,by simp [Yj],by rw [HN.out],by simp [Yj,Hid],ZlU,by have:=hB1.size;simp at this;omega,(hB1.cell so).trans gs⟩
  case round=>
   obtain ⟨j,hj,rfl,rfl,rfl,HZ,hb,hz,hcell⟩:=hrel
   by_cases hlt:j < p.a.length
   ·obtain ⟨b,o,mj,rfl,hA,hbs,g0,gx⟩:=HL.out.get j hlt
    obtain ⟨k0,k1,k2,k3,k4,k5⟩:=At6.1 (g0.ext (ZlH hb) (A:=fun _=>True) trivial)
    have hs1:b < wr.heap.size:=om
    have hq:=Uc (p.a.take j) (pl+1) (d+1)
    have hq1:=Wy p.a j
    have hq2:=WP p.a j hlt
    have hq3:=Wy p.a (j+1)
    have hst:=Za7 (pl+1) (d+1) p.a j hlt HZ.out
    have HST:=hid hst
    clear hst g0
    generalize hQ:(Yj (pl+1) (d+1) (p.a.take j)).1=Q at *
    have HQ:=hid hQ
    clear hQ
    go_wp2_with (go_at_call 40;refine (IH.out p.a[j] _ A mj Q (d+1) om (O.out.get j hlt) om om om om (by exact ZmP az _ _ gx)).mono ?_;rintro e w2 ⟨rfl,hb2⟩)
    all_goals have hbb:Below w.heap.size w w2:=hb.trans (hb2.mono om)
    ·have hne:(XF Q (d+1) p.a[j]).2≠0:=by simpa using ‹((XF Q (d+1) p.a[j]).2 != 0)=true›
     go_ret2
     have h1:XF Q (d+1) p.a[j]=F:=by
      rw [←HF.out,←HST.out];exact (Za6 _ _ _ _ (by rw [HST.out];exact hne)).symm
     exact ⟨YS (congrArg Prod.fst h1) (congrArg Prod.snd h1),hbb⟩
    have hne:(XF Q (d+1) p.a[j]).2=0:=by simpa using ‹((XF Q (d+1) p.a[j]).2 != 0)=false›
    go_roundg (gk - 1)
    case measure=>omega
    case rel=>exact ⟨j+1,om,by go_num,by rw [HST.out],by rw [hne],by rw [HST.out];exact hne,hbb,by have:=hb2.size;omega,(hb2.cell (by simp;omega)).trans hcell⟩
   have hjl:j=p.a.length:=om
   go_wp2_with fail
   go_ret2
   have h1:Yj (pl+1) (d+1) (p.a.take j)=F:=by rw [hjl,List.take_length];exact HF.out
   exact ⟨YS (by rw [h1]) (by rw [←h1,HZ.out]),hb⟩
theorem Js (N:Nat):∀(p:GP) (w:World) (A:Nat→Prop) (m:PA),Zm p≤N→okP p→Zm p≤1099511627776→RP w A p m →
  Calls prog 41 #[PV p m] w fun e w'=>e=.returned (.int .i64 (Xg p))∧Below w.heap.size w w':=by
 induction N with
 | zero=>intro p;have:=ZS p;intros;omega
 | succ N ih=>
  rintro p w A ⟨ma,mc,mb,md⟩ hN ox hs hl
  have IH:=hid ih
  have HL:=hid (Wn.1 hl).2
  have HLV:=hid (Zl.1 (Wn.1 hl).1)
  obtain ⟨⟨x1,x2⟩,ov,⟨x3,x4⟩,x5,oa⟩:=Y3.1 ox
  have O:=hid oa
  have OV:=hid ov
  have hse:=Wk p
  have hsv:Zg p.v≤1099511627776:=om
  have hpos:=Zr p.v
  clear ih hl ox oa ov
  rw [ZcA]
  obtain ⟨G,hGd⟩:∃G,G=(if Xe p.k=true then Zg p.v else 0):=⟨_,rfl⟩
  rw [←hGd]
  have hGl:G≤Zg p.v:=by rw [hGd];split<;>omega
  cases h3:(p.k==3)
  all_goals cases h4:(p.k==4)
  all_goals unfold Xe at hGd
  all_goals simp only [h3,h4,Bool.or_self,Bool.or_true,Bool.true_or,Bool.or_false,Bool.false_or,if_true,if_false,Bool.false_eq_true,reduceIte] at hGd
  all_goals have HGD:=hid hGd
  all_goals clear hGd
  all_goals go_enter func41,ntmps41
  all_goals go_wp2_with (go_at_call 56;refine (XQ _ p.v _ A ⟨ma,mc⟩ (Nat.le_refl _) hsv OV.out (by exact ZmQ az _ _ HLV.out)).mono ?_;rw [←HGD.out];rintro e w1 ⟨rfl,hb1⟩;have hz1:=hb1.size;(try simp at hz1);obtain ⟨hc1,hf1⟩:=Za hb1)
  all_goals
   go_loopg [3,4] (p.a.length) (fun gk t3 i wr=>∃(j n:Nat),gk+j=p.a.length∧i=.int .i64 j∧t3=.int .i64 n∧Hid (n=1+G+YR (p.a.take j))∧n≤1099511627776∧Below w.heap.size w wr∧w.heap.size < wr.heap.size∧wr.cell? ⟨w.heap.size,5,none⟩=some (.slice mb p.a.length md))
   case atStart=>exact ⟨0,1+G,om,rfl,by first|go_num|(have hg0:=HGD.out;subst hg0;rfl),hid (by simp [YR]),om,ZlD,by first|(simp;done)|(simp;omega)|omega,gs⟩
   case round=>
    obtain ⟨j,n,hj,rfl,rfl,HE,hn,hb,hz,hcell⟩:=hrel
    by_cases hlt:j < p.a.length
    ·obtain ⟨b,o,mj,rfl,hA,hbs,g0,gx⟩:=HL.out.get j hlt
     obtain ⟨k0,k1,k2,k3,k4,k5⟩:=At6.1 (g0.ext (ZlH hb) (A:=fun _=>True) trivial)
     have hs1:b < wr.heap.size:=om
     have hq1:=Xq p.a j hlt
     have hq2:=XD p.a j hlt
     have hq3:=Vl p.a (j+1)
     have hn2:n+Xg p.a[j]≤1099511627776:=by have:=HE.out;omega
     have hn3:=Yv p.a[j]
     have HQ:=hid hq2
     clear hq2 hq3 g0
     go_wp2_with (go_at_call 41;refine (IH.out p.a[j] _ A mj om (O.out.get j hlt) om (by exact ZmP az _ _ gx)).mono ?_;rintro e w2 ⟨rfl,hb2⟩)
     have hbb:Below w.heap.size w w2:=hb.trans (hb2.mono om)
     go_roundg (gk - 1)
     case measure=>omega
     case rel=>exact ⟨j+1,n+Xg p.a[j],om,by go_num,by go_num,hid (by have:=HE.out;have:=HQ.out;omega),hn2,hbb,by have:=hb2.size;omega,(hb2.cell (by simp;omega)).trans hcell⟩
    have hjl:j=p.a.length:=om
    go_wp2_with fail
    go_ret
    exact ⟨Zf (by have:=HE.out;rw [hjl,List.take_length] at this;omega),hb⟩
theorem Z2 (p:GP) (w:World) (A:Nat→Prop) (m:PA) (ox:okP p) (hs:Zm p≤1099511627776) (hl:RP w A p m):
  Calls prog 23 #[PV p m] w fun e w'=>e=.returned (.tuple #[.int .i64 (Zw p).1,.int .i64 (Zw p).2])∧Below w.heap.size w w':=by
 obtain ⟨ma,mc,mb,md⟩:=m
 have HL:=hid hl
 have OX:=hid ox
 have hnl:=Yv p
 clear hl ox
 unfold Zw
 by_cases h1:(XF 0 1 p).2=0
 case neg=>
  have h1':((XF 0 1 p).2 != 0)=true:=by simp [h1]
  rw [if_pos h1]
  clear h1
  go_enter func23,ntmps23
  go_wp2_with (go_at_call 40;refine (Jr _ p _ A ⟨ma,mc,mb,md⟩ 0 1 (Nat.le_refl _) OX.out om om om om (by exact ZmP az _ _ HL.out)).mono ?_;rintro e w1 ⟨rfl,hb⟩;have hB1:=hb;clear hb;obtain ⟨hc1,hf1⟩:=Za hB1)
  go_ret2
  exact ⟨rfl,ZlU⟩
 have h1':((XF 0 1 p).2 != 0)=false:=by simp [h1]
 rw [if_neg (by simp [h1])]
 clear h1
 generalize hF:(if 512 < (Xg p:Int) then ((0:Int),(5:Int)) else (0,0))=F
 have HF:=hid hF
 clear hF
 go_enter func23,ntmps23
 go_wp2_with (first
  | (go_at_call 40;refine (Jr _ p _ A ⟨ma,mc,mb,md⟩ 0 1 (Nat.le_refl _) OX.out om om om om (by exact ZmP az _ _ HL.out)).mono ?_;rintro e w1 ⟨rfl,hb⟩;have hB1:=hb;clear hb;obtain ⟨hc1,hf1⟩:=Za hB1)
  | (go_at_call 41;refine (Js _ p _ A ⟨ma,mc,mb,md⟩ (Nat.le_refl _) OX.out hs (by exact ZmP az _ _ HL.out)).mono ?_;rintro e w2 ⟨rfl,hb⟩;have hB2:=Below.trans hB1 (Below.mono hb (Below.size hB1));clear hb;obtain ⟨hc2,hf2⟩:=Za hB2))
 all_goals go_ret2
 all_goals refine ⟨?_,ZlU⟩
 all_goals rw [←HF.out]
 ·rw [if_pos (by assumption)];rfl
 rw [if_neg om];rfl
set_option maxRecDepth 512
theorem ZoU {p:Prop} (h:p:=by
 rw [hF]
 clear hF h0
 go_enter func142,ntmps142
 go_wp2_with fail
 go_ret
 exact ⟨rfl,ZlD⟩):p:=h
theorem Zo3 {p:Prop} (h:p:=by
 have HST:=hid hst
 clear hst hz hjl
 go_wp2_with fail
 go_ret
 exact ⟨Zf HST.out,ZlD⟩):p:=h
set_option maxRecDepth 100000
theorem WH (l:List Int) (w:World) (A:Nat→Prop) (a:Option Addr) (cp:Nat) (hlen:l.length≤1048576) (ol:okIs l) (hl:RIs w A l a):
  Calls prog 142 #[.slice a l.length cp] w fun e w'=>e=.returned (.int .i64 (Yc l))∧Below w.heap.size w w':=by
 have HL:=hid hl
 have O:=hid ol
 clear hl ol
 by_cases h0:l.length=0
 ·have hF:Yc l=4:=by unfold Yc;rw [if_pos h0]
  have h0':((l.length:Int)==0)=true:=by simp [h0]
  exact ZoU
 have h0':((l.length:Int)==0)=false:=beq_eq_false_iff_ne.2 om
 by_cases h6:64 < l.length
 ·have hF:Yc l=5:=by unfold Yc;rw [if_neg h0,if_pos h6]
  exact ZoU
 have hF:Yc l=YM 0 l:=by unfold Yc;rw [if_neg h0,if_neg h6]
 rw [hF]
 clear hF
 generalize hF:YM 0 l=F
 have HF:=hid hF
 clear hF
 clear h0
 go_enter func142,ntmps142
 go_wp2_with fail
 go_loopg [3,4] (l.length) (fun gk t3 i wr=>∃(j:Nat) (S:Int),gk+j=l.length∧i=.int .i64 j∧t3=.int .i64 S∧0≤S∧S≤1048576*j∧Hid (YM S (l.drop j)=F)∧w=wr)
 case atStart=>exact ⟨0,0,om,rfl,rfl,om,om,hid (by rw [List.drop_zero];exact HF.out),rfl⟩
 case round=>
  obtain ⟨j,S,hj,rfl,rfl,hS0,hS1,HE,rfl⟩:=hrel
  by_cases hlt:j < l.length
  ·obtain ⟨b,o,rfl,hA,hbs,g0⟩:=HL.out.get j hlt
   obtain ⟨i1,i2⟩:=O.out.get j hlt
   have hst:=HE.out
   rw [List.drop_eq_getElem_cons hlt,YM] at hst
   by_cases hlo:l[j] < 0
   ·rw [if_pos (.inl hlo)] at hst
    have HST:=hid hst
    clear hst
    go_wp2_with fail
    go_ret
    exact ⟨Zf HST.out,ZlD⟩
   by_cases hhi:1048576 < l[j]
   ·rw [if_pos (.inr hhi)] at hst
    have HST:=hid hst
    clear hst
    go_wp2_with fail
    go_ret
    exact ⟨Zf HST.out,ZlD⟩
   rw [if_neg om] at hst
   have HST:=hid hst
   clear hst
   go_wp2_with fail
   go_roundg (gk - 1)
   case measure=>omega
   case rel=>exact ⟨j+1,S+l[j],om,by go_num,rfl,om,om,HST,rfl⟩
  have hjl:j=l.length:=om
  have hst:=HE.out
  rw [hjl,List.drop_length,YM] at hst
  by_cases hz:S=0
  ·rw [if_pos hz] at hst
   have hz':(S==0)=true:=by simp [hz]
   exact Zo3
  rw [if_neg hz] at hst
  have hz':(S==0)=false:=by simp [hz]
  exact Zo3
set_option maxRecDepth 512
theorem Zmz {p:Prop} (h:p:=by
 go_enter func90,ntmps90
 go_wp2_with fail
 go_ret
 exact ⟨rfl,ZlD⟩):p:=h
theorem Zg9 (t:GT) (m:TA) (w:World) (ox:okT t) (h2:(t.k==2)=false) (h6:(t.k==6)=false) (h8:(t.k==8)=false) (h10:(t.k==10)=false):
  Calls prog 90 #[TV t m] w fun e w'=>e=.returned (.int .i64 (Ya t))∧Below w.heap.size w w':=by
 obtain ⟨⟨x1,x2⟩,ov,⟨ovl,_⟩,⟨l1,l2⟩,⟨l3,l4⟩,⟨owl,_⟩,op,oal,oa⟩:=Ze.1 ox
 obtain ⟨ma,mb,mc,md,me,mf,mg,mh,mi,mj,mk,ml⟩:=m
 have hF:Ya t=if t.lo=0∧t.hi=0 then 0 else 3:=by
  unfold Ya
  rw [if_neg (by simpa using h2),if_neg (by simpa using h6),if_neg (by simpa using h8),if_neg (by simpa using h10)]
 rw [hF]
 clear ox ov oa op hF
 by_cases a:t.lo=0
 ·by_cases b:t.hi=0
  ·rw [if_pos ⟨a,b⟩]
   have a':(t.lo != 0)=false:=by simp [a]
   have b':(t.hi != 0)=false:=by simp [b]
   clear a b
   exact Zmz
  rw [if_neg (fun h=>b h.2)]
  have a':(t.lo != 0)=false:=by simp [a]
  have b':(t.hi != 0)=true:=by simp [b]
  clear a b
  exact Zmz
 rw [if_neg (fun h=>a h.1)]
 have a':(t.lo != 0)=true:=by simp [a]
 clear a
 exact Zmz
set_option maxRecDepth 100000
theorem XS (t:GT) (m:TA) (w:World) (ox:okT t):
  Calls prog 90 #[TV t m] w fun e w'=>e=.returned (.int .i64 (Ya t))∧Below w.heap.size w w':=by
 by_cases hk:t.k=2∨t.k=6∨t.k=8∨t.k=10
 case neg=>exact Zg9 t m w ox (beq_eq_false_iff_ne.2 om) (beq_eq_false_iff_ne.2 om) (beq_eq_false_iff_ne.2 om) (beq_eq_false_iff_ne.2 om)
 obtain ⟨k,v,vs,lo,hi,ws,p,l⟩:=t
 obtain ⟨⟨x1,x2⟩,ov,⟨ovl,_⟩,⟨l1,l2⟩,⟨l3,l4⟩,⟨owl,_⟩,op,oal,oa⟩:=Ze.1 ox
 obtain ⟨ma,mb,mc,md,me,mf,mg,mh,mi,mj,mk,ml⟩:=m
 dsimp only at hk x1 x2 l1 l2 l3 l4 oal
 clear ox ov oa op ovl owl
 rcases hk with rfl|rfl|rfl|rfl
 all_goals
  generalize hF:Ya _=F
  have HF:=hid hF
  clear hF
  go_enter func90,ntmps90
  go_wp2_with fail
  all_goals go_ret
  all_goals refine ⟨Zf ?_,ZlD⟩
  all_goals rw [←HF.out]
  all_goals unfold Ya Yi
  all_goals first|(simp;omega)|(simp [*];done)|(simp_all;done)|(simp_all;omega)|(first|rfl|omega|((try simp only [beq_iff_eq,beq_eq_false_iff_ne,bne_iff_ne,bne_eq_false_iff_eq,decide_eq_true_eq,decide_eq_false_iff_not,ne_eq,Bool.and_eq_true,Bool.or_eq_true,Bool.and_eq_false_iff,Bool.or_eq_false_iff,Bool.not_eq_true',Bool.not_eq_false'] at *);(repeat' split)<;>first|rfl|omega|contradiction|(simp_all;done)|(simp_all;omega)))
set_option maxRecDepth 512
def Ux (t:GT):Int:=if Z6 t≠0 then Z6 t else ZB t
def Wg (t:GT):Int:=if t.k=1 then ZQ t.v else if Xw t.v=true then 0 else 3
theorem Qc (t:GT):Z6 t=if Wg t≠0 then Wg t else Vo t:=by
 unfold Z6 Wg
 split
 ·rfl
 split
 ·simp
 simp
set_option maxRecDepth 100000
theorem Zes (t:GT) (A:Nat→Prop) (m:TA) (w:World) (ox:okT t) (hs:Zb t≤1099511627776) (hl:RT w A t m) (h:Wg t≠0):
  Calls prog 89 #[TV t m] w fun e w'=>e=.returned (.int .i64 (Wg t))∧Below w.heap.size w w':=by
 obtain ⟨x1,ov,⟨ovl,ovs⟩,l1,l2,⟨owl,ow⟩,op,oal,oa⟩:=Ze.1 ox
 obtain ⟨v1,v2,v3,_⟩:=ZA.1 ov
 obtain ⟨ma,mb,mc,md,me,mf,mg,mh,mi,mj,mk,ml⟩:=m
 have HV:=hid (And.intro v1 (And.intro v2 v3))
 have OV:=hid ov
 have HLV:=hid (Zl.1 (Zo.1 hl).1)
 have hse:=Zq t
 have hsv:Zg t.v≤1099511627776:=om
 clear ox ov ovs ow op oa v1 v2 v3 hl hse
 by_cases hk:t.k=1
 ·have hF:Wg t=ZQ t.v:=by unfold Wg;rw [if_pos hk]
  rw [hF] at h ⊢
  have h':(ZQ t.v != 0)=true:=by simp [h]
  have hk':(t.k==1)=true:=by simp [hk]
  clear hF h hk
  go_enter func89,ntmps89
  go_wp2_with (go_at_call 104;refine (X7 t.v _ A ⟨ma,mb⟩ OV.out hsv (by exact ZmQ az _ _ HLV.out)).mono ?_;rintro e w1 ⟨rfl,hb⟩;have hB1:=hb;clear hb;obtain ⟨hc1,hf1⟩:=Za hB1)
  go_ret
  exact ⟨rfl,ZlD⟩
 have hn:Xw t.v=false:=by
  cases hn:Xw t.v
  ·rfl
  unfold Wg at h;rw [if_neg hk,if_pos hn] at h;exact absurd rfl h
 have hF:Wg t=3:=by unfold Wg;rw [if_neg hk,if_neg (by simp [hn])]
 rw [hF]
 have hk':(t.k==1)=false:=by simp [hk]
 have HN:=hid hn
 clear hF h hk hn
 go_enter func89,ntmps89
 go_wp2_with (go_at_call 140;refine (QE t.v ⟨ma,mb⟩ _ HV.out).mono ?_;rw [HN.out];rintro e w1 ⟨rfl,hb⟩;have hB1:=hb;clear hb)
 go_ret
 exact ⟨rfl,ZlD⟩
set_option maxRecDepth 512
def ZhF (N:Nat):Prop:=∀(t:GT) (w:World) (A:Nat→Prop) (m:TA),Zb t≤N→okT t→Zb t≤1099511627776→RT w A t m →
  Calls prog 59 #[TV t m] w fun e w'=>e=.returned (.int .i64 (Z8 t))∧Below w.heap.size w w'
theorem Zmw {p:Prop} (h:p:=by
 obtain ⟨j,n,hj,rfl,rfl,HE,hn,hb,hz,hcell⟩:=hrel
 by_cases hlt:j < t.a.length
 ·obtain ⟨b,o,mj,rfl,hA,hbs,g0,gx⟩:=HL.out.get j hlt
  obtain ⟨k0,k1,k2,k3,k4,k5,k6,k7,k8,k9,ka,kb,kc,kd,ke⟩:=Yp.1 (g0.ext (ZlH hb) (A:=fun _=>True) trivial)
  have hs1:b < wr.heap.size:=om
  have hq1:=ZD t.a j hlt
  have hq2:=ZZ t.a j hlt
  have hq3:=Ym t.a (j+1)
  have hn2:n+Z8 t.a[j]≤1099511627776:=by have:=HE.out;omega
  have hn3:=Xh t.a[j]
  have HQ:=hid hq2
  clear hq2 hq3 g0
  go_wp2_with (go_at_call 59;refine (IH.out t.a[j] _ A mj om (O.out.get j hlt) om (by exact ZlV az _ _ gx)).mono ?_;rintro e w2 ⟨rfl,hb2⟩)
  have hbb:Below w.heap.size w w2:=hb.trans (hb2.mono om)
  go_roundg (gk - 1)
  case measure=>omega
  case rel=>exact ⟨j+1,n+Z8 t.a[j],om,by go_num,by go_num,hid (by have:=HE.out;have:=HQ.out;omega),hn2,hbb,by have:=hb2.size;omega,(hb2.cell (by simp;omega)).trans hcell⟩
 have hjl:j=t.a.length:=om
 go_wp2_with fail
 go_ret
 exact ⟨Zf (by have:=HE.out;rw [hjl,List.take_length] at this;omega),hb⟩):p:=h
set_option maxRecDepth 100000
theorem ZfJ (N:Nat) (ih:ZhF N) (t:GT) (w:World) (A:Nat→Prop) (m:TA) (hN:Zb t≤N+1) (ox:okT t) (hs:Zb t≤1099511627776) (hl:RT w A t m) (h1:t.k=1):
  Calls prog 59 #[TV t m] w fun e w'=>e=.returned (.int .i64 (Z8 t))∧Below w.heap.size w w':=by
 obtain ⟨ma,mb,mc,md,me,mf,mg,mh,mi,mj,mk,ml⟩:=m
 have IH:=hid ih
 obtain ⟨h1,h2,_,h4,h5⟩:=Zo.1 hl
 have HL:=hid h5
 have HV:=hid (Zl.1 h1)
 have HVS:=hid h2
 have HP:=hid h4
 obtain ⟨⟨x1,x2⟩,ov,⟨ovl,ovs⟩,⟨l1,l2⟩,⟨l3,l4⟩,⟨owl,ow⟩,op,oal,oa⟩:=Ze.1 ox
 have O:=hid oa
 have OV:=hid ov
 have OVS:=hid ovs
 have OP:=hid op
 have hse:=Zq t
 have hsv:=Zr t.v
 have hsp:=ZS t.p
 have hnp:=Yv t.p
 have hsv2:Zg t.v≤1099511627776:=om
 have hsp2:Zm t.p≤1099511627776:=om
 clear ih hl ox oa ov ovs ow op h1 h2 h4 h5
 rw [Wv]
 obtain ⟨G,hG⟩:∃G,G=Vs t:=⟨_,rfl⟩
 rw [←hG]
 have hGl:1+G+Z5 t.a≤1099511627776:=by
  rw [hG,Vs];(repeat' split)<;>omega
 rw [Vs,if_pos h1] at hG
 have h1':(t.k==1)=true:=by simp [h1]
 have h4':(t.k==4)=false:=by simp [h1]
 have h9':(t.k==9)=false:=by simp [h1]
 clear h1
 have HGD:=hid hG
 clear hG
 go_enter func59,ntmps59
 go_wp2_with (go_at_call 56;refine (XQ _ t.v _ A ⟨ma,mb⟩ (Nat.le_refl _) hsv2 OV.out (by exact ZmQ az _ _ HV.out)).mono ?_;rintro e w1 ⟨rfl,hb1⟩;have hz1:=hb1.size;(try simp at hz1);obtain ⟨hc1,hf1⟩:=Za hb1)
 go_loopg [3,4] (0:Nat) (fun gk t3 i wr=>i=.int .i64 0∧t3=.int .i64 ((1+Zg t.v:Nat):Int)∧Below w.heap.size w wr∧w.heap.size < wr.heap.size∧Hid (At wr w.heap.size 0 [.int .u8 t.k,.int .u8 t.v.k,.int .i64 t.v.n,.slice ma t.v.l.length mb,.slice mc t.vs.length md,.int .i64 t.lo,.int .i64 t.hi,.slice me t.w.length mf,.int .u8 t.p.k,.int .u8 t.p.v.k,.int .i64 t.p.v.n,.slice mg t.p.v.l.length mh,.int .i64 t.p.n,.slice mi t.p.a.length mj,.slice mk t.a.length ml]))
 case atStart=>exact ⟨rfl,by go_num,ZlD,by first|(simp;done)|(simp;omega)|omega,hid (ZO.2 ⟨gs,gs,gs,gs,gs,gs,gs,gs,gs,gs,gs,gs,gs,gs,gs⟩)⟩
 case round=>
  obtain ⟨rfl,rfl,hb0,hz0,hat⟩:=hrel
  obtain ⟨e0,e1,e2,e3,e4,e5,e6,e7,e8,e9,ea,eb,ec,ed,ee⟩:=ZO.1 hat.out
  clear hat
  go_wp2_with fail
  all_goals
  go_loopg [3,5] (t.a.length) (fun gk t3 i wr=>∃(j n:Nat),gk+j=t.a.length∧i=.int .i64 j∧t3=.int .i64 n∧Hid (n=1+G+Z4 (t.a.take j))∧n≤1099511627776∧Below w.heap.size w wr∧w.heap.size < wr.heap.size∧wr.cell? ⟨w.heap.size,14,none⟩=some (.slice mk t.a.length ml))
  case atStart=>exact ⟨0,1+G,om,rfl,by first|rfl|go_num|(have hg0:=HGD.out;subst hg0;go_num),hid (by simp [Z4]),om,ZlD,om,gs⟩
  case round=>
   exact Zmw

theorem ZfM (N:Nat) (ih:ZhF N) (t:GT) (w:World) (A:Nat→Prop) (m:TA) (hN:Zb t≤N+1) (ox:okT t) (hs:Zb t≤1099511627776) (hl:RT w A t m) (h1:¬t.k=1) (h4:¬t.k=4) (h9:¬t.k=9):
  Calls prog 59 #[TV t m] w fun e w'=>e=.returned (.int .i64 (Z8 t))∧Below w.heap.size w w':=by
 obtain ⟨ma,mb,mc,md,me,mf,mg,mh,mi,mj,mk,ml⟩:=m
 have IH:=hid ih
 obtain ⟨h1,h2,_,h4,h5⟩:=Zo.1 hl
 have HL:=hid h5
 have HV:=hid (Zl.1 h1)
 have HVS:=hid h2
 have HP:=hid h4
 obtain ⟨⟨x1,x2⟩,ov,⟨ovl,ovs⟩,⟨l1,l2⟩,⟨l3,l4⟩,⟨owl,ow⟩,op,oal,oa⟩:=Ze.1 ox
 have O:=hid oa
 have OV:=hid ov
 have OVS:=hid ovs
 have OP:=hid op
 have hse:=Zq t
 have hsv:=Zr t.v
 have hsp:=ZS t.p
 have hnp:=Yv t.p
 have hsv2:Zg t.v≤1099511627776:=om
 have hsp2:Zm t.p≤1099511627776:=om
 clear ih hl ox oa ov ovs ow op h1 h2 h4 h5
 rw [Wv]
 obtain ⟨G,hG⟩:∃G,G=Vs t:=⟨_,rfl⟩
 rw [←hG]
 have hGl:1+G+Z5 t.a≤1099511627776:=by
  rw [hG,Vs];(repeat' split)<;>omega
 rw [Vs,if_neg h1,if_neg h4,if_neg h9] at hG
 have h1':(t.k==1)=false:=by simp [h1]
 have h4':(t.k==4)=false:=by simp [h4]
 have h9':(t.k==9)=false:=by simp [h9]
 clear h1 h4 h9
 have HGD:=hid hG
 clear hG
 go_enter func59,ntmps59
 go_wp2_with fail
 go_loopg [3,4] (0:Nat) (fun gk t3 i wr=>i=.int .i64 0∧t3=.int .i64 ((1:Nat):Int)∧Below w.heap.size w wr∧w.heap.size < wr.heap.size∧Hid (At wr w.heap.size 0 [.int .u8 t.k,.int .u8 t.v.k,.int .i64 t.v.n,.slice ma t.v.l.length mb,.slice mc t.vs.length md,.int .i64 t.lo,.int .i64 t.hi,.slice me t.w.length mf,.int .u8 t.p.k,.int .u8 t.p.v.k,.int .i64 t.p.v.n,.slice mg t.p.v.l.length mh,.int .i64 t.p.n,.slice mi t.p.a.length mj,.slice mk t.a.length ml]))
 case atStart=>exact ⟨rfl,by go_num,ZlD,by first|(simp;done)|(simp;omega)|omega,hid (ZO.2 ⟨gs,gs,gs,gs,gs,gs,gs,gs,gs,gs,gs,gs,gs,gs,gs⟩)⟩
 case round=>
  obtain ⟨rfl,rfl,hb0,hz0,hat⟩:=hrel
  obtain ⟨e0,e1,e2,e3,e4,e5,e6,e7,e8,e9,ea,eb,ec,ed,ee⟩:=ZO.1 hat.out
  clear hat
  go_wp2_with fail
  all_goals
  go_loopg [3,5] (t.a.length) (fun gk t3 i wr=>∃(j n:Nat),gk+j=t.a.length∧i=.int .i64 j∧t3=.int .i64 n∧Hid (n=1+G+Z4 (t.a.take j))∧n≤1099511627776∧Below w.heap.size w wr∧w.heap.size < wr.heap.size∧wr.cell? ⟨w.heap.size,14,none⟩=some (.slice mk t.a.length ml))
  case atStart=>exact ⟨0,1+G,om,rfl,by first|rfl|go_num|(have hg0:=HGD.out;subst hg0;go_num),hid (by simp [Z4]),om,ZlD,om,gs⟩
  case round=>
   exact Zmw

theorem ZfL (N:Nat) (ih:ZhF N) (t:GT) (w:World) (A:Nat→Prop) (m:TA) (hN:Zb t≤N+1) (ox:okT t) (hs:Zb t≤1099511627776) (hl:RT w A t m) (h1:¬t.k=1) (h4:¬t.k=4) (h9:t.k=9):
  Calls prog 59 #[TV t m] w fun e w'=>e=.returned (.int .i64 (Z8 t))∧Below w.heap.size w w':=by
 obtain ⟨ma,mb,mc,md,me,mf,mg,mh,mi,mj,mk,ml⟩:=m
 have IH:=hid ih
 obtain ⟨h1,h2,_,h4,h5⟩:=Zo.1 hl
 have HL:=hid h5
 have HV:=hid (Zl.1 h1)
 have HVS:=hid h2
 have HP:=hid h4
 obtain ⟨⟨x1,x2⟩,ov,⟨ovl,ovs⟩,⟨l1,l2⟩,⟨l3,l4⟩,⟨owl,ow⟩,op,oal,oa⟩:=Ze.1 ox
 have O:=hid oa
 have OV:=hid ov
 have OVS:=hid ovs
 have OP:=hid op
 have hse:=Zq t
 have hsv:=Zr t.v
 have hsp:=ZS t.p
 have hnp:=Yv t.p
 have hsv2:Zg t.v≤1099511627776:=om
 have hsp2:Zm t.p≤1099511627776:=om
 clear ih hl ox oa ov ovs ow op h1 h2 h4 h5
 rw [Wv]
 obtain ⟨G,hG⟩:∃G,G=Vs t:=⟨_,rfl⟩
 rw [←hG]
 have hGl:1+G+Z5 t.a≤1099511627776:=by
  rw [hG,Vs];(repeat' split)<;>omega
 rw [Vs,if_neg h1,if_neg h4,if_pos h9] at hG
 have h1':(t.k==1)=false:=by simp [h1]
 have h4':(t.k==4)=false:=by simp [h4]
 have h9':(t.k==9)=true:=by simp [h9]
 clear h1 h4 h9
 go_enter func59,ntmps59
 go_wp2_with fail
 go_loopg [3,4] (0:Nat) (fun gk t3 i wr=>i=.int .i64 0∧t3=.int .i64 ((1:Nat):Int)∧Below w.heap.size w wr∧w.heap.size < wr.heap.size∧Hid (At wr w.heap.size 0 [.int .u8 t.k,.int .u8 t.v.k,.int .i64 t.v.n,.slice ma t.v.l.length mb,.slice mc t.vs.length md,.int .i64 t.lo,.int .i64 t.hi,.slice me t.w.length mf,.int .u8 t.p.k,.int .u8 t.p.v.k,.int .i64 t.p.v.n,.slice mg t.p.v.l.length mh,.int .i64 t.p.n,.slice mi t.p.a.length mj,.slice mk t.a.length ml]))
 case atStart=>exact ⟨rfl,by go_num,ZlD,by first|(simp;done)|(simp;omega)|omega,hid (ZO.2 ⟨gs,gs,gs,gs,gs,gs,gs,gs,gs,gs,gs,gs,gs,gs,gs⟩)⟩
 case round=>
  obtain ⟨rfl,rfl,hb0,hz0,hat⟩:=hrel
  obtain ⟨e0,e1,e2,e3,e4,e5,e6,e7,e8,e9,ea,eb,ec,ed,ee⟩:=ZO.1 hat.out
  clear hat
  subst hG
  go_wp2_with (go_at_call 41;refine (Js _ t.p _ A ⟨mg,mh,mi,mj⟩ (Nat.le_refl _) OP.out hsp2 (by exact ZmP az _ _ HP.out)).mono ?_;rintro e w1 ⟨rfl,hb1⟩;have hz1:=hb1.size;(try simp at hz1);obtain ⟨hc1,hf1⟩:=Za hb1)
  all_goals
  go_loopg [3,5] (t.a.length) (fun gk t3 i wr=>∃(j n:Nat),gk+j=t.a.length∧i=.int .i64 j∧t3=.int .i64 n∧Hid (n=1+Xg t.p+Z4 (t.a.take j))∧n≤1099511627776∧Below w.heap.size w wr∧w.heap.size < wr.heap.size∧wr.cell? ⟨w.heap.size,14,none⟩=some (.slice mk t.a.length ml))
  case atStart=>exact ⟨0,1+Xg t.p,om,rfl,by go_num,hid (by simp [Z4]),om,ZlD,om,gs⟩
  case round=>
   exact Zmw

theorem ZfK (N:Nat) (ih:ZhF N) (t:GT) (w:World) (A:Nat→Prop) (m:TA) (hN:Zb t≤N+1) (ox:okT t) (hs:Zb t≤1099511627776) (hl:RT w A t m) (h1:¬t.k=1) (h4:t.k=4):
  Calls prog 59 #[TV t m] w fun e w'=>e=.returned (.int .i64 (Z8 t))∧Below w.heap.size w w':=by
 obtain ⟨ma,mb,mc,md,me,mf,mg,mh,mi,mj,mk,ml⟩:=m
 have IH:=hid ih
 obtain ⟨h1,h2,_,h4,h5⟩:=Zo.1 hl
 have HL:=hid h5
 have HV:=hid (Zl.1 h1)
 have HVS:=hid h2
 have HP:=hid h4
 obtain ⟨⟨x1,x2⟩,ov,⟨ovl,ovs⟩,⟨l1,l2⟩,⟨l3,l4⟩,⟨owl,ow⟩,op,oal,oa⟩:=Ze.1 ox
 have O:=hid oa
 have OV:=hid ov
 have OVS:=hid ovs
 have OP:=hid op
 have hse:=Zq t
 have hsv:=Zr t.v
 have hsp:=ZS t.p
 have hnp:=Yv t.p
 have hsv2:Zg t.v≤1099511627776:=om
 have hsp2:Zm t.p≤1099511627776:=om
 clear ih hl ox oa ov ovs ow op h1 h2 h4 h5
 rw [Wv]
 obtain ⟨G,hG⟩:∃G,G=Vs t:=⟨_,rfl⟩
 rw [←hG]
 have hGl:1+G+Z5 t.a≤1099511627776:=by
  rw [hG,Vs];(repeat' split)<;>omega
 rw [Vs,if_neg h1,if_pos h4] at hG
 have h1':(t.k==1)=false:=by simp [h1]
 have h4':(t.k==4)=true:=by simp [h4]
 have h9':(t.k==9)=false:=by simp [h4]
 clear h1 h4
 have HGD:=hid hG
 clear hG
 go_enter func59,ntmps59
 go_wp2_with fail
 go_loopg [3,4] (t.vs.length) (fun gk t3 i wr=>∃(j n:Nat),gk+j=t.vs.length∧i=.int .i64 j∧t3=.int .i64 n∧Hid (n=1+Zi (t.vs.take j))∧n≤1099511627776∧Below w.heap.size w wr∧w.heap.size < wr.heap.size∧Hid (At wr w.heap.size 0 [.int .u8 t.k,.int .u8 t.v.k,.int .i64 t.v.n,.slice ma t.v.l.length mb,.slice mc t.vs.length md,.int .i64 t.lo,.int .i64 t.hi,.slice me t.w.length mf,.int .u8 t.p.k,.int .u8 t.p.v.k,.int .i64 t.p.v.n,.slice mg t.p.v.l.length mh,.int .i64 t.p.n,.slice mi t.p.a.length mj,.slice mk t.a.length ml]))
 case atStart=>exact ⟨0,1,om,rfl,by go_num,hid (by simp [Zi]),om,ZlD,by first|(simp;done)|(simp;omega)|omega,hid (ZO.2 ⟨gs,gs,gs,gs,gs,gs,gs,gs,gs,gs,gs,gs,gs,gs,gs⟩)⟩
 case round=>
  obtain ⟨j,n,hj,rfl,rfl,HE,hn,hb,hz,HAT⟩:=hrel
  obtain ⟨e0,e1,e2,e3,e4,e5,e6,e7,e8,e9,ea,eb,ec,ed,ee⟩:=ZO.1 HAT.out
  by_cases hlt:j < t.vs.length
  ·obtain ⟨b,o,mj',rfl,hA,hbs,g0,gx⟩:=HVS.out.get j hlt
   obtain ⟨k0,k1,k2⟩:=At3.1 (g0.ext (ZlH hb) (A:=fun _=>True) trivial)
   have hs1:b < wr.heap.size:=om
   have hq1:=ZX t.vs j hlt
   have hq2:=X9 t.vs j hlt
   have hq3:=Un t.vs (j+1)
   have hn2:n+Zg t.vs[j]≤1099511627776:=by have:=HE.out;omega
   have HQ:=hid hq2
   clear g0 hq2 hq3
   go_wp2_with (go_at_call 56;refine (XQ _ t.vs[j] _ A mj' (Nat.le_refl _) om (OVS.out.get j hlt) (by exact Zl.1 (ZmG az _ _ gx))).mono ?_;rintro e w2 ⟨rfl,hb2⟩)
   have hbb:Below w.heap.size w w2:=hb.trans (hb2.mono om)
   go_roundg (gk - 1)
   case measure=>omega
   case rel=>exact ⟨j+1,n+Zg t.vs[j],om,by go_num,by go_num,hid (by have:=HE.out;have:=HQ.out;omega),hn2,hbb,by have:=hb2.size;omega,hid (ZmS (ZlH hb2) (A:=fun _=>True) trivial _ _ HAT.out)⟩
  have hjl:j=t.vs.length:=om
  subst hjl
  have hG2:n=1+G:=by have h:=HE.out;rw [List.take_length] at h;rw [HGD.out];exact h
  subst hG2
  clear HE
  go_wp2_with fail
  all_goals
   go_loopg [3,5] (t.a.length) (fun gk t3 i wr=>∃(j n:Nat),gk+j=t.a.length∧i=.int .i64 j∧t3=.int .i64 n∧Hid (n=1+G+Z4 (t.a.take j))∧n≤1099511627776∧Below w.heap.size w wr∧w.heap.size < wr.heap.size∧wr.cell? ⟨w.heap.size,14,none⟩=some (.slice mk t.a.length ml))
   case atStart=>exact ⟨0,1+G,om,rfl,rfl,hid (by simp [Z4]),om,ZlD,om,gs⟩
   case round=>
    obtain ⟨j,n,hj,rfl,rfl,HE,hn,hb,hz,hcell⟩:=hrel
    by_cases hlt:j < t.a.length
    ·obtain ⟨b,o,mj,rfl,hA,hbs,g0,gx⟩:=HL.out.get j hlt
     obtain ⟨k0,k1,k2,k3,k4,k5,k6,k7,k8,k9,ka,kb,kc,kd,ke⟩:=Yp.1 (g0.ext (ZlH hb) (A:=fun _=>True) trivial)
     have hs1:b < wr.heap.size:=om
     have hq1:=ZD t.a j hlt
     have hq2:=ZZ t.a j hlt
     have hq3:=Ym t.a (j+1)
     have hn2:n+Z8 t.a[j]≤1099511627776:=by have:=HE.out;omega
     have hn3:=Xh t.a[j]
     have HQ:=hid hq2
     clear hq2 hq3 g0
     go_wp2_with (go_at_call 59;refine (IH.out t.a[j] _ A mj om (O.out.get j hlt) om (by exact ZlV az _ _ gx)).mono ?_;rintro e w2 ⟨rfl,hb2⟩)
     have hbb:Below w.heap.size w w2:=hb.trans (hb2.mono om)
     go_roundg (gk - 1)
     case measure=>omega
     case rel=>exact ⟨j+1,n+Z8 t.a[j],om,by go_num,by go_num,hid (by have:=HE.out;have:=HQ.out;omega),hn2,hbb,by have:=hb2.size;omega,(hb2.cell (by simp;omega)).trans hcell⟩
    have hjl:j=t.a.length:=om
    go_wp2_with fail
    go_ret
    exact ⟨Zf (by have:=HE.out;rw [hjl,List.take_length] at this;omega),hb⟩

set_option maxRecDepth 512
theorem Vx (N:Nat):ZhF N:=by
 induction N with
 | zero=>intro t;have:=X8 t;intros;omega
 | succ N ih=>
  intro t w A m hN ox hs hl
  by_cases h1:t.k=1
  ·exact ZfJ N ih t w A m hN ox hs hl h1
  by_cases h4:t.k=4
  ·exact ZfK N ih t w A m hN ox hs hl h1 h4
  by_cases h9:t.k=9
  ·exact ZfL N ih t w A m hN ox hs hl h1 h4 h9
  exact ZfM N ih t w A m hN ox hs hl h1 h4 h9
theorem wE1 {t:GT} (h:(t.k==9)=false) (hn:Wi t.p=false):ZB t=3:=by
 unfold ZB;rw [if_neg (by simpa using h),if_neg (by simp [hn])]
theorem wE2 {t:GT} (h:(t.k==9)=false) (hn:Wi t.p=true):ZB t=Vp t:=by
 unfold ZB;rw [if_neg (by simpa using h),if_pos hn]
theorem wE3 {t:GT} (h:(t.k==9)=true) (hn:(Zw t.p).2≠0):ZB t=(Zw t.p).2:=by
 unfold ZB;rw [if_pos (by simpa using h),if_pos hn]
theorem wE4 {t:GT} (h:(t.k==9)=true) (hn:(Zw t.p).2=0):ZB t=Vp t:=by
 unfold ZB;rw [if_pos (by simpa using h),if_neg (by simp [hn])]
theorem rW1 {t:GT} (h:(t.k==3)=true∨(t.k==4)=true):Vp t=Yc t.w:=by
 unfold Vp;rw [if_neg]
 simp at h
 omega
theorem rW2 {t:GT} (h3:(t.k==3)=false) (h4:(t.k==4)=false) (h:t.w.length=0):Vp t=0:=by
 simp at h3 h4
 unfold Vp;rw [if_pos ⟨h3,h4⟩,if_pos om]
theorem rW3 {t:GT} (h3:(t.k==3)=false) (h4:(t.k==4)=false) (h:¬t.w.length=0):Vp t=3:=by
 simp at h3 h4
 unfold Vp;rw [if_pos ⟨h3,h4⟩,if_neg om]
set_option maxRecDepth 100000
theorem Zax (t:GT) (A:Nat→Prop) (m:TA) (w:World) (ox:okT t) (hs:Zb t≤1099511627776) (hl:RT w A t m) (h:Wg t=0) (h4:t.k=4∨t.vs.length=0):
  Calls prog 89 #[TV t m] w fun e w'=>e=.returned (.int .i64 (if YA t.vs≠0 then YA t.vs else ZB t))∧Below w.heap.size w w':=by
 obtain ⟨x1,ov,⟨ovl,ovs⟩,l1,l2,⟨owl,ow⟩,op,oal,oa⟩:=Ze.1 ox
 obtain ⟨v1,v2,v3,_⟩:=ZA.1 ov
 obtain ⟨ma,mb,mc,md,me,mf,mg,mh,mi,mj,mk,ml⟩:=m
 obtain ⟨r1,r2,r3,r4,r5⟩:=Zo.1 hl
 have HV:=hid (And.intro v1 (And.intro v2 v3))
 have OV:=hid ov
 have OVS:=hid ovs
 have OW:=hid ow
 have OP:=hid op
 have HLV:=hid (Zl.1 r1)
 have HVS:=hid r2
 have HWS:=hid r3
 have HPS:=hid r4
 have hse:=Zq t
 have hsv:Zg t.v≤1099511627776:=om
 have hsp:Zm t.p≤1099511627776:=om
 have hsvs:Zi t.vs≤1099511627776:=om
 generalize hF:(if YA t.vs≠0 then YA t.vs else ZB t)=F
 have HF:=hid hF
 clear hF
 have h4':(t.k != 4)=true→(0:Int) < (t.vs.length:Int)→False:=fun a b=>by
  rcases h4 with h4|h4
  ·simp [h4] at a
  omega
 have H4:=hid h4
 clear ox ov ovs ow op oa v1 v2 v3 hl hse r1 r2 r3 r4 r5 h4
 have key:∀(b1 b4:Bool),(t.k==1)=b1→(t.k != 4)=b4→(b4=true→decide (0 < t.vs.length)=false) →
  Calls prog 89 #[TV t ⟨ma,mb,mc,md,me,mf,mg,mh,mi,mj,mk,ml⟩] w fun e w'=>e=.returned (.int .i64 F)∧Below w.heap.size w w':=by
  intro b1 b4 hb1 hb4 hvl
  have hcv:b1=true→ZQ t.v=0:=fun e=>by
   subst e
   have hk:t.k=1:=by simpa using hb1
   unfold Wg at h;rw [if_pos hk] at h;exact h
  have hnv:b1=false→Xw t.v=true:=fun e=>by
   subst e
   have hk:¬t.k=1:=by simpa using hb1
   unfold Wg at h;rw [if_neg hk] at h
   cases hn:Xw t.v
   ·rw [hn] at h;simp at h
   rfl
  have hb4':b4=false→True:=fun _=>trivial
  clear h
  cases b1
  all_goals cases b4
  all_goals (try have hvd:=hvl rfl)
  all_goals (try have HN:=hid (hnv rfl))
  all_goals (try have HC:=hid (hcv rfl))
  all_goals clear hcv hnv hvl hb4' h4'
  all_goals
   go_enter func89,ntmps89
   go_wp2_with (first
    | (go_at_call 140;refine (QE t.v ⟨ma,mb⟩ _ HV.out).mono ?_;rw [HN.out];rintro e w1 ⟨rfl,hbx⟩;have hB1:=hbx;clear hbx;obtain ⟨hc1,hf1⟩:=Za hB1)
    | (go_at_call 104;refine (X7 t.v _ A ⟨ma,mb⟩ OV.out hsv (by exact ZmQ az _ _ HLV.out)).mono ?_;rw [HC.out];rintro e w1 ⟨rfl,hbx⟩;have hB1:=hbx;clear hbx;obtain ⟨hc1,hf1⟩:=Za hB1))
   have hz1:=hB1.size
   simp at hz1
   have hbw1:Below w.heap.size w w1:=ZlD
   have HB1:Hid (At w1 w.heap.size 0 [.int .u8 t.k,.int .u8 t.v.k,.int .i64 t.v.n,.slice ma t.v.l.length mb,.slice mc t.vs.length md,.int .i64 t.lo,.int .i64 t.hi,.slice me t.w.length mf,.int .u8 t.p.k,.int .u8 t.p.v.k,.int .i64 t.p.v.n,.slice mg t.p.v.l.length mh,.int .i64 t.p.n,.slice mi t.p.a.length mj,.slice mk t.a.length ml]):=hid (ZO.2 ⟨(hB1.cell so).trans gs,(hB1.cell so).trans gs,(hB1.cell so).trans gs,(hB1.cell so).trans gs,(hB1.cell so).trans gs,(hB1.cell so).trans gs,(hB1.cell so).trans gs,(hB1.cell so).trans gs,(hB1.cell so).trans gs,(hB1.cell so).trans gs,(hB1.cell so).trans gs,(hB1.cell so).trans gs,(hB1.cell so).trans gs,(hB1.cell so).trans gs,(hB1.cell so).trans gs⟩)
   go_loopg [4] (t.vs.length) (fun gk i wr=>∃j:Nat,gk+j=t.vs.length∧i=.int .i64 j∧Hid (∀q (h:q < t.vs.length),q < j→ZQ t.vs[q]=0)∧Below w1.heap.size w1 wr)
   case atStart=>exact ⟨0,om,rfl,hid (fun q h hq=>absurd hq om),Below.refl _ _⟩
   case round=>
    obtain ⟨j,hj,rfl,HZ,hbr⟩:=hrel
    have hzr:=hbr.size
    have hbw:Below w.heap.size w wr:=hbw1.trans (hbr.mono om)
    have u0:w.heap.size < wr.heap.size:=om
    obtain ⟨c0,c1,c2,c3,c4,c5,c6,c7,c8,c9,ca,cb,cc,cd,ce⟩:=ZO.1 (ZmS (ZlH hbr) (A:=fun _=>True) trivial _ _ HB1.out)
    by_cases hlt:j < t.vs.length
    ·obtain ⟨b,o,mj',rfl,hA,hbs,g0,gx⟩:=HVS.out.get j hlt
     obtain ⟨k0,k1,k2⟩:=At3.1 (g0.ext (ZlH hbw) (A:=fun _=>True) trivial)
     have hs1:b < wr.heap.size:=om
     have hq1:=ZX t.vs j hlt
     clear g0
     by_cases hc:ZQ t.vs[j]=0
     ·have hc':(ZQ t.vs[j] != 0)=false:=by simp [hc]
      have HCJ:=hid hc
      clear hc
      go_wp2_with (go_at_call 104;refine (X7 t.vs[j] _ A mj' (OVS.out.get j hlt) om (by exact ZmQ ar _ _ (Zl.1 gx))).mono ?_;rintro e w2 ⟨rfl,hb2⟩)
      go_roundg (gk - 1)
      case measure=>omega
      case rel=>exact ⟨j+1,om,by go_num,hid (fun q h hq=>by
       by_cases hqj:q=j
       ·subst hqj;exact HCJ.out
       exact HZ.out q h om),hbr.trans (hb2.mono om)⟩
     have hc':(ZQ t.vs[j] != 0)=true:=by simp [hc]
     have hfv:=Zag t.vs j hlt (fun q h hq=>HZ.out q h hq) hc
     have HFV:=hid (show F=ZQ t.vs[j] by rw [←HF.out,hfv,if_pos hc])
     clear hc hfv
     go_wp2_with (go_at_call 104;refine (X7 t.vs[j] _ A mj' (OVS.out.get j hlt) om (by exact ZmQ ar _ _ (Zl.1 gx))).mono ?_;rintro e w2 ⟨rfl,hb2⟩)
     go_ret
     exact ⟨Zf HFV.out.symm,hbw.trans (hb2.mono om)⟩
    have hFW:ZB t=F:=by
     rw [←HF.out,K9 t.vs fun q h=>HZ.out q h om,if_neg sm]
    have HFW:=hid hFW
    clear hFW
    cases k9:(t.k==9)
    ·cases hnp:Wi t.p
     ·have HNP:=hid hnp
      have HFF:=hid ((wE1 k9 hnp).symm.trans HFW.out)
      clear hnp
      go_wp2_with (go_at_call 141;refine (XR t.p ⟨mg,mh,mi,mj⟩ _ OP.out).mono ?_;rw [HNP.out];rintro e w2 ⟨rfl,hb2⟩;have hz2:=hb2.size;obtain ⟨hc2,hf2⟩:=Za hb2;have u2:w.heap.size < w2.heap.size:=om)
      go_ret
      exact ⟨Zf HFF.out,ZlD⟩
     have HNP:=hid hnp
     have HRW:=hid ((wE2 k9 hnp).symm.trans HFW.out)
     clear hnp
     cases k3:(t.k==3)
     ·cases k4:(t.k==4)
      ·by_cases hw0:t.w.length=0
       ·have HFF:=hid ((rW2 k3 k4 hw0).symm.trans HRW.out)
        have hwd:decide (0 < t.w.length)=false:=by simp [hw0]
        clear hw0
        go_wp2_with (go_at_call 141;refine (XR t.p ⟨mg,mh,mi,mj⟩ _ OP.out).mono ?_;rw [HNP.out];rintro e w2 ⟨rfl,hb2⟩;have hz2:=hb2.size;obtain ⟨hc2,hf2⟩:=Za hb2;have u2:w.heap.size < w2.heap.size:=om)
        go_ret
        exact ⟨Zf HFF.out,ZlD⟩
       have HFF:=hid ((rW3 k3 k4 hw0).symm.trans HRW.out)
       have hwd:decide (0 < t.w.length)=true:=decide_eq_true om
       clear hw0
       go_wp2_with (go_at_call 141;refine (XR t.p ⟨mg,mh,mi,mj⟩ _ OP.out).mono ?_;rw [HNP.out];rintro e w2 ⟨rfl,hb2⟩;have hz2:=hb2.size;obtain ⟨hc2,hf2⟩:=Za hb2;have u2:w.heap.size < w2.heap.size:=om)
       go_ret
       exact ⟨Zf HFF.out,ZlD⟩
      have HFF:=hid ((rW1 (.inr k4)).symm.trans HRW.out)
      go_wp2_with (first|(go_at_call 141;refine (XR t.p ⟨mg,mh,mi,mj⟩ _ OP.out).mono ?_;rw [HNP.out];rintro e w2 ⟨rfl,hb2⟩;have hz2:=hb2.size;obtain ⟨hc2,hf2⟩:=Za hb2;have u2:w.heap.size < w2.heap.size:=om)|(go_at_call 142;refine (WH t.w _ A me mf owl OW.out (by exact ZmU ar _ _ HWS.out)).mono ?_;rintro e w3 ⟨rfl,hb3⟩))
      go_ret
      exact ⟨Zf HFF.out,ZlD⟩
     have HFF:=hid ((rW1 (.inl k3)).symm.trans HRW.out)
     go_wp2_with (first|(go_at_call 141;refine (XR t.p ⟨mg,mh,mi,mj⟩ _ OP.out).mono ?_;rw [HNP.out];rintro e w2 ⟨rfl,hb2⟩;have hz2:=hb2.size;obtain ⟨hc2,hf2⟩:=Za hb2;have u2:w.heap.size < w2.heap.size:=om)|(go_at_call 142;refine (WH t.w _ A me mf owl OW.out (by exact ZmU ar _ _ HWS.out)).mono ?_;rintro e w3 ⟨rfl,hb3⟩))
     go_ret
     exact ⟨Zf HFF.out,ZlD⟩
    by_cases hcp:(Zw t.p).2=0
    ·have hcp':((Zw t.p).2 != 0)=false:=by simp [hcp]
     have HRW:=hid ((wE4 k9 hcp).symm.trans HFW.out)
     clear hcp
     cases k3:(t.k==3)
     ·cases k4:(t.k==4)
      ·by_cases hw0:t.w.length=0
       ·have HFF:=hid ((rW2 k3 k4 hw0).symm.trans HRW.out)
        have hwd:decide (0 < t.w.length)=false:=by simp [hw0]
        clear hw0
        go_wp2_with (go_at_call 23;refine (Z2 t.p _ A ⟨mg,mh,mi,mj⟩ OP.out hsp (by exact ZmP ar _ _ HPS.out)).mono ?_;rintro e w2 ⟨rfl,hb2⟩;have hz2:=hb2.size;obtain ⟨hc2,hf2⟩:=Za hb2;have u2:w.heap.size < w2.heap.size:=om)
        go_ret
        exact ⟨Zf HFF.out,ZlD⟩
       have HFF:=hid ((rW3 k3 k4 hw0).symm.trans HRW.out)
       have hwd:decide (0 < t.w.length)=true:=decide_eq_true om
       clear hw0
       go_wp2_with (go_at_call 23;refine (Z2 t.p _ A ⟨mg,mh,mi,mj⟩ OP.out hsp (by exact ZmP ar _ _ HPS.out)).mono ?_;rintro e w2 ⟨rfl,hb2⟩;have hz2:=hb2.size;obtain ⟨hc2,hf2⟩:=Za hb2;have u2:w.heap.size < w2.heap.size:=om)
       go_ret
       exact ⟨Zf HFF.out,ZlD⟩
      have HFF:=hid ((rW1 (.inr k4)).symm.trans HRW.out)
      go_wp2_with (first|(go_at_call 23;refine (Z2 t.p _ A ⟨mg,mh,mi,mj⟩ OP.out hsp (by exact ZmP ar _ _ HPS.out)).mono ?_;rintro e w2 ⟨rfl,hb2⟩;have hz2:=hb2.size;obtain ⟨hc2,hf2⟩:=Za hb2;have u2:w.heap.size < w2.heap.size:=om)|(go_at_call 142;refine (WH t.w _ A me mf owl OW.out (by exact ZmU ar _ _ HWS.out)).mono ?_;rintro e w3 ⟨rfl,hb3⟩))
      go_ret
      exact ⟨Zf HFF.out,ZlD⟩
     have HFF:=hid ((rW1 (.inl k3)).symm.trans HRW.out)
     go_wp2_with (first|(go_at_call 23;refine (Z2 t.p _ A ⟨mg,mh,mi,mj⟩ OP.out hsp (by exact ZmP ar _ _ HPS.out)).mono ?_;rintro e w2 ⟨rfl,hb2⟩;have hz2:=hb2.size;obtain ⟨hc2,hf2⟩:=Za hb2;have u2:w.heap.size < w2.heap.size:=om)|(go_at_call 142;refine (WH t.w _ A me mf owl OW.out (by exact ZmU ar _ _ HWS.out)).mono ?_;rintro e w3 ⟨rfl,hb3⟩))
     go_ret
     exact ⟨Zf HFF.out,ZlD⟩
    have hcp':((Zw t.p).2 != 0)=true:=by simp [hcp]
    have HFF:=hid ((wE3 k9 hcp).symm.trans HFW.out)
    clear hcp
    go_wp2_with (go_at_call 23;refine (Z2 t.p _ A ⟨mg,mh,mi,mj⟩ OP.out hsp (by exact ZmP ar _ _ HPS.out)).mono ?_;rintro e w2 ⟨rfl,hb2⟩;have hz2:=hb2.size;obtain ⟨hc2,hf2⟩:=Za hb2;have u2:w.heap.size < w2.heap.size:=om)
    go_ret
    exact ⟨Zf HFF.out,ZlD⟩
 exact key _ _ rfl rfl fun a=>decide_eq_false fun b=>h4' a om
theorem Zha (t:GT) (A:Nat→Prop) (m:TA) (w:World) (ox:okT t) (hs:Zb t≤1099511627776) (hl:RT w A t m) (h:Wg t=0) (h4:¬t.k=4) (h5:¬t.vs.length=0):
  Calls prog 89 #[TV t m] w fun e w'=>e=.returned (.int .i64 3)∧Below w.heap.size w w':=by
 obtain ⟨x1,ov,⟨ovl,ovs⟩,l1,l2,⟨owl,ow⟩,op,oal,oa⟩:=Ze.1 ox
 obtain ⟨v1,v2,v3,_⟩:=ZA.1 ov
 obtain ⟨ma,mb,mc,md,me,mf,mg,mh,mi,mj,mk,ml⟩:=m
 have HV:=hid (And.intro v1 (And.intro v2 v3))
 have OV:=hid ov
 have HLV:=hid (Zl.1 (Zo.1 hl).1)
 have hse:=Zq t
 have hsv:Zg t.v≤1099511627776:=om
 have b4:(t.k != 4)=true:=by simp [h4]
 have hvd:decide (0 < t.vs.length)=true:=decide_eq_true om
 clear ox ov ovs ow op oa v1 v2 v3 hl hse h4 h5
 by_cases hk:t.k=1
 ·have hc:ZQ t.v=0:=by unfold Wg at h;rw [if_pos hk] at h;exact h
  have HC:=hid hc
  have hk':(t.k==1)=true:=by simp [hk]
  clear h hk hc
  go_enter func89,ntmps89
  go_wp2_with (go_at_call 104;refine (X7 t.v _ A ⟨ma,mb⟩ OV.out hsv (by exact ZmQ az _ _ HLV.out)).mono ?_;rw [HC.out];rintro e w1 ⟨rfl,hbx⟩;have hB1:=hbx;clear hbx;obtain ⟨hc1,hf1⟩:=Za hB1)
  go_ret
  exact ⟨rfl,ZlD⟩
 have hn:Xw t.v=true:=by
  unfold Wg at h;rw [if_neg hk] at h
  cases hn:Xw t.v
  ·rw [hn] at h;simp at h
  rfl
 have HN:=hid hn
 have hk':(t.k==1)=false:=by simp [hk]
 clear h hk hn
 go_enter func89,ntmps89
 go_wp2_with (go_at_call 140;refine (QE t.v ⟨ma,mb⟩ _ HV.out).mono ?_;rw [HN.out];rintro e w1 ⟨rfl,hbx⟩;have hB1:=hbx;clear hbx;obtain ⟨hc1,hf1⟩:=Za hB1)
 go_ret
 exact ⟨rfl,ZlD⟩
set_option maxRecDepth 512
theorem XT (t:GT) (A:Nat→Prop) (m:TA) (w:World) (ox:okT t) (hs:Zb t≤1099511627776) (hl:RT w A t m):
  Calls prog 89 #[TV t m] w fun e w'=>e=.returned (.int .i64 (Ux t))∧Below w.heap.size w w':=by
 by_cases h:Wg t=0
 case neg=>
  have hF:Ux t=Wg t:=by unfold Ux;rw [Qc,if_pos h,if_pos h]
  rw [hF]
  exact Zes t A m w ox hs hl h
 have hV:Z6 t=Vo t:=by rw [Qc,if_neg (by simp [h])]
 by_cases h4:t.k=4
 ·have hR:Vo t=YA t.vs:=by unfold Vo;rw [if_neg (by simp [h4])]
  have hF:Ux t=if YA t.vs≠0 then YA t.vs else ZB t:=by unfold Ux;rw [hV,hR]
  rw [hF]
  exact Zax t A m w ox hs hl h (.inl h4)
 by_cases h5:t.vs.length=0
 ·have hR:Vo t=0:=by unfold Vo;rw [if_pos h4,if_pos om]
  have hn:t.vs=[]:=List.eq_nil_of_length_eq_zero h5
  have hF:Ux t=if YA t.vs≠0 then YA t.vs else ZB t:=by unfold Ux;rw [hV,hR,hn];simp [YA]
  rw [hF]
  exact Zax t A m w ox hs hl h (.inr h5)
 have hR:Vo t=3:=by unfold Vo;rw [if_pos h4,if_neg om]
 have hF:Ux t=3:=by unfold Ux;rw [hV,hR];rfl
 rw [hF]
 exact Zha t A m w ox hs hl h h4 h5
theorem ZgX (t:GT) (hk:¬(t.k < 1∨11 < t.k)):ZG t=if Ux t≠0 then Ux t else if Ya t≠0 then Ya t else Zn t:=by
 unfold ZG Ux
 rw [if_neg hk]
 by_cases h:Z6 t=0<;>simp [h]
theorem ZlR {p:Prop} (h:p:=by
 go_enter func55,ntmps55
 go_wp2_with (first|(go_at_call 89;refine (XT _ A ⟨ma,mb,mc,md,me,mf,mg,mh,mi,mj,mk,ml⟩ _ OX.out hs (by exact ZlV ar _ _ HL.out)).mono ?_;rw [HH.out];rintro e w1 ⟨rfl,hbx⟩;have hB1:=hbx;clear hbx;obtain ⟨hc1,hf1⟩:=Za hB1)|(go_at_call 90;refine (XS _ ⟨ma,mb,mc,md,me,mf,mg,mh,mi,mj,mk,ml⟩ _ OX.out).mono ?_;rw [HE.out];rintro e w2 ⟨rfl,hbx⟩;have hB2:=Below.trans hB1 (Below.mono hbx (Below.size hB1));clear hbx;obtain ⟨hc2,hf2⟩:=Za hB2)|(go_at_call 91;refine (Ww _ _ _ _ ⟨om,om⟩ ⟨om,om⟩ ⟨om,om⟩).mono ?_;rintro e w3 ⟨rfl,hbx⟩;have hB3:=Below.trans hB2 (Below.mono hbx (Below.size hB2));clear hbx;obtain ⟨hc3,hf3⟩:=Za hB3))
 go_ret
 exact ⟨Zf (by simp [Zn]),ZlD⟩):p:=h
theorem Zmx {p:Prop} (h:p:=by
 obtain ⟨ma,mb,mc,md,me,mf,mg,mh,mi,mj,mk,ml⟩:=m
 obtain ⟨⟨x1,x2⟩,ov,⟨ovl,ovs⟩,l1,l2,⟨owl,ow⟩,op,oal,oa⟩:=Ze.1 ox
 have HL:=hid hl
 have OX:=hid ox
 have HH:=hid hh
 have HE:=hid he
 clear hl ox ov ovs l1 l2 ow op oa hh he
 obtain ⟨k,v,vs,lo,hi,ws,p,l⟩:=t
 dsimp only at h4 ovl owl oal x1 x2
 rcases h4 with rfl|rfl|rfl
 all_goals clear x1 x2
 all_goals exact ZlR):p:=h
set_option maxRecDepth 100000
theorem ZfF (t:GT) (A:Nat→Prop) (m:TA) (w:World) (ox:okT t) (hs:Zb t≤1099511627776) (hl:RT w A t m) (hh:Ux t=0) (he:Ya t=0) (h4:t.k=1∨t.k=2∨t.k=3):
  Calls prog 55 #[TV t m] w fun e w'=>e=.returned (.int .i64 (Zn t))∧Below w.heap.size w w':=by
 exact Zmx
theorem ZfG (t:GT) (A:Nat→Prop) (m:TA) (w:World) (ox:okT t) (hs:Zb t≤1099511627776) (hl:RT w A t m) (hh:Ux t=0) (he:Ya t=0) (h4:t.k=5∨t.k=6∨t.k=7):
  Calls prog 55 #[TV t m] w fun e w'=>e=.returned (.int .i64 (Zn t))∧Below w.heap.size w w':=by
 exact Zmx
theorem ZfH (t:GT) (A:Nat→Prop) (m:TA) (w:World) (ox:okT t) (hs:Zb t≤1099511627776) (hl:RT w A t m) (hh:Ux t=0) (he:Ya t=0) (h4:t.k=8∨t.k=9):
  Calls prog 55 #[TV t m] w fun e w'=>e=.returned (.int .i64 (Zn t))∧Below w.heap.size w w':=by
 obtain ⟨ma,mb,mc,md,me,mf,mg,mh,mi,mj,mk,ml⟩:=m
 obtain ⟨⟨x1,x2⟩,ov,⟨ovl,ovs⟩,l1,l2,⟨owl,ow⟩,op,oal,oa⟩:=Ze.1 ox
 have HL:=hid hl
 have OX:=hid ox
 have HH:=hid hh
 have HE:=hid he
 clear hl ox ov ovs l1 l2 ow op oa hh he
 obtain ⟨k,v,vs,lo,hi,ws,p,l⟩:=t
 dsimp only at h4 ovl owl oal x1 x2
 rcases h4 with rfl|rfl
 all_goals clear x1 x2
 all_goals exact ZlR
end Go.Proofs.YtclphfojkggcpaaGreatDoor
