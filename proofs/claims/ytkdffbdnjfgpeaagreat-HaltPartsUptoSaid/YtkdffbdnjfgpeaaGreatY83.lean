/- Part 84. -/
import Derived.Deep.RegionHeld3
import Derived.Test.YtkdffbdnjfgpeaaGreatY15
set_option linter.all false
namespace Go.Proofs.YtkdffbdnjfgpeaaGreat
open Go.Lib (hid)
open Go Go.RowKit Go.Proofs.Tryz
theorem ZdM (a b:Int):(a < b∧Vq a b= -1)∨(a=b∧Vq a b=0)∨(b < a∧Vq a b=1):=by
 unfold Vq
 rcases Int.lt_trichotomy a b with h|h|h
 ·exact .inl ⟨h,if_pos h⟩
 ·exact .inr (.inl ⟨h,by rw [if_neg om,if_pos h]⟩)
 exact .inr (.inr ⟨h,by rw [if_neg om,if_neg om]⟩)
theorem Zxq {p:Prop} (h:p:=by
 clear h1
 rcases hk12 with h4|⟨h4,h5⟩
 all_goals go_enter func279,ntmps279
 all_goals go_wp2_with fail
 all_goals go_ret
 all_goals exact ⟨rfl,ZtZ⟩):p:=h
theorem Zxr {p:Prop} (h:p:=by
 go_enter func279,ntmps279
 go_wp2_with fail
 go_ret
 exact ⟨rfl,ZtZ⟩):p:=h
set_option maxRecDepth 100000
set_option maxHeartbeats 1000000
theorem Zfv (N:Nat):∀(x y:GV) (w:World) (A A':Nat→Prop) (m m':VA),Zg x≤N→okV x→okV y→RVs w A x.l m.a→RVs w A' y.l m'.a →
  Calls prog 279 #[VV x m,VV y m'] w fun e w'=>e=.returned (.int .i64 (Vj x y))∧Below w.heap.size w w':=by
 induction N with
 | zero=>intro x;have:=Zr x;intros;omega
 | succ N ih=>
  rintro x y w A A' ⟨ma,mc⟩ ⟨ma',mc'⟩ hN ox oy hl hl'
  dsimp only at hl hl'
  have IH:=hid ih
  have HL:=hid hl
  have HL':=hid hl'
  rw [XZ] at hN
  clear hl hl' ih
  obtain ⟨⟨x1,x2⟩,⟨x3,x4⟩,x5,ox'⟩:=ZA.1 ox
  obtain ⟨⟨y1,y2⟩,⟨y3,y4⟩,y5,oy'⟩:=ZA.1 oy
  have O:=hid (And.intro ox' oy')
  clear ox oy ox' oy'
  rw [Zgi]
  by_cases hk:x.k=y.k
  case neg=>
   rw [if_neg hk]
   have hk':(x.k != y.k)=true:=by simpa using hk
   rcases ZdM x.k y.k with ⟨h1,h2⟩|⟨h1,h2⟩|⟨h1,h2⟩
   ·rw [h2]
    have h3:decide (x.k < y.k)=true:=by simpa using h1
    clear hk h1 h2
    exact Zxr
   ·exact absurd h1 hk
   rw [h2]
   have h3:decide (x.k < y.k)=false:=by simp;omega
   clear hk h1 h2
   exact Zxr
  rw [if_pos hk]
  have hk':(x.k != y.k)=false:=by simpa using hk
  clear hk
  by_cases h12:x.k=1∨x.k=2
  ·rw [if_pos h12]
   have hk12:(x.k==1)=true∨((x.k==1)=false∧(x.k==2)=true):=by
    rcases h12 with h|h
    ·exact .inl (by simp [h])
    exact .inr ⟨by simp [h],by simp [h]⟩
   clear h12
   rcases ZdM x.n y.n with ⟨h1,h2⟩|⟨h1,h2⟩|⟨h1,h2⟩
   all_goals rw [h2]
   all_goals clear h2
   ·have h3:decide (x.n < y.n)=true:=by simpa using h1
    exact Zxq
   ·have h3:decide (x.n < y.n)=false:=by simp;omega
    have h6:decide (y.n < x.n)=false:=by simp;omega
    exact Zxq
   have h3:decide (x.n < y.n)=false:=by simp;omega
   have h6:decide (y.n < x.n)=true:=by simpa using h1
   exact Zxq
  rw [if_neg h12]
  have h1':(x.k==1)=false:=by simp;omega
  have h2':(x.k==2)=false:=by simp;omega
  by_cases h34:x.k=3∨x.k=4
  case neg=>
   rw [if_neg h34]
   have h3':(x.k != 3)=true:=by simp;omega
   have h4':(x.k != 4)=true:=by simp;omega
   clear h34 h12
   exact Zxr
  rw [if_pos h34]
  generalize hF:Ud x.l y.l=F
  have HF:=hid hF
  clear hF
  have h34':(x.k != 3)=false∨((x.k != 3)=true∧(x.k != 4)=false):=by
   rcases h34 with h|h
   ·exact .inl (by simp [h])
   exact .inr ⟨by simp [h],by simp [h]⟩
  clear h34 h12
  rcases h34' with h3'|⟨h3',h4'⟩
  all_goals
   go_enter func279,ntmps279
   go_wp2_with fail
   go_loopg [5] (x.l.length) (fun gk i wr=>∃j:Nat,gk+j=x.l.length∧i=.int .i64 j∧j≤y.l.length∧Hid (∀q (h:q < x.l.length) (h':q < y.l.length),q < j→Vj x.l[q] y.l[q]=0)∧Below w.heap.size w wr∧w.heap.size+1 < wr.heap.size ∧
    wr.cell? ⟨w.heap.size,2,none⟩=some (.slice ma x.l.length mc)∧wr.cell? ⟨w.heap.size+1,2,none⟩=some (.slice ma' y.l.length mc'))
   case atStart=>exact ⟨0,om,rfl,om,fun q h h' hq=>absurd hq om,ZtZ,sm,gs,gs⟩
   case round=>
    obtain ⟨j,hj,rfl,hjy,HS,hb,hz,hcx,hcy⟩:=hrel
    by_cases hlt1:j < x.l.length
    ·by_cases hlt2:j < y.l.length
     ·obtain ⟨b,o,mj,rfl,hA,hbs,g0,gx⟩:=HL.out.get j hlt1
      obtain ⟨b',o',mj',rfl,hA',hbs',g0',gy⟩:=HL'.out.get j hlt2
      obtain ⟨k0,k1,k2⟩:=At3.1 (g0.ext (ZtY hb) (A:=fun _=>True) trivial)
      obtain ⟨k0',k1',k2'⟩:=At3.1 (g0'.ext (ZtY hb) (A:=fun _=>True) trivial)
      have hs1:b < wr.heap.size:=om
      have hs2:b' < wr.heap.size:=om
      clear hbs hbs' g0 g0'
      generalize hC:Vj x.l[j] y.l[j]=C
      have HC:=hid hC
      clear hC
      go_wp2_with fail
      refine Z0 10 kr kr ?_
      simp only [List.take_succ_cons,List.take_zero,List.drop_succ_cons,List.drop_zero]
      repeat still_step
      refine wpStill_nil ?_
      go_wp2_with (go_at_call 279;refine (IH.out x.l[j] y.l[j] _ A A' mj mj' (by have:=ZX x.l j hlt1;omega) (O.out.1.get j hlt1) (O.out.2.get j hlt2)
        (by exact Zl.1 (Zt5 (ZtY hb.drew) _ _ gx)) (by exact Zl.1 (Zt5 (ZtY hb.drew) _ _ gy))).mono ?_;rw [HC.out];rintro e2 w2 ⟨rfl,hb2⟩)
      all_goals have hbb:Below w.heap.size w w2:=(hb.drew).trans (hb2.mono (by simp;omega))
      ·have hne:C≠0:=by simpa using ‹(C != 0)=true›
       go_ret
       exact ⟨Zf (by rw [←HF.out,Uu x.l y.l j hlt1 hlt2 HS.out (by rw [HC.out];exact hne),HC.out]),hbb⟩
      have hne:C=0:=by simpa using ‹(C != 0)=false›
      have hz2:=hb2.size
      simp at hz2
      go_roundg (gk - 1)
      case rel=>exact ⟨j+1,om,by go_num,om,fun q h h' hq=>(by
       by_cases hqj:q=j
       ·subst hqj;rw [HC.out];exact hne
       exact HS.out q h h' om),hbb,om,(hb2.cell (by simp;omega)).trans gs,(hb2.cell (by simp;omega)).trans gs⟩
      case measure=>omega
     have hjl:j=y.l.length:=om
     have HE:=hid (VC x.l y.l j om HS.out)
     have hl1:¬x.l.length < y.l.length:=om
     have hl2:y.l.length < x.l.length:=om
     go_wp2_with fail
     go_ret
     exact ⟨Zf (by rw [←HF.out,HE.out,Vq,if_neg om,if_neg om]),ZtZ⟩
    have hjl:j=x.l.length:=om
    have HE:=hid (VC x.l y.l j om HS.out)
    by_cases hl1:x.l.length < y.l.length
    ·go_wp2_with fail
     go_ret
     exact ⟨Zf (by rw [←HF.out,HE.out,Vq,if_pos om]),ZtZ⟩
    have hl2:¬y.l.length < x.l.length:=om
    go_wp2_with fail
    go_ret
    exact ⟨Zf (by rw [←HF.out,HE.out,Vq,if_neg om,if_pos om]),ZtZ⟩
set_option maxRecDepth 512
theorem Zbp (v:GV):∀l:List GP,XM false l v=l.all fun p=>Zh p v
 | []=>rfl
 | p::l=>by
  rw [XM,List.all_cons,Zbp v l]
  cases Zh p v<;>simp
theorem Zbq (v:GV):∀l:List GP,XM true l v=l.any fun p=>Zh p v
 | []=>rfl
 | p::l=>by
  rw [XM,List.any_cons,Zbq v l]
  cases Zh p v<;>simp
theorem Zi1 {α:Type} {f:α→Bool} {l:List α} (j:Nat) (h:j < l.length) (hf:f l[j]=false):l.all f=false:=by
 rw [List.all_eq_false]
 exact ⟨_,List.getElem_mem h,by simp [hf]⟩
theorem Zi3 {α:Type} {f:α→Bool} {l:List α} (j:Nat) (h:j < l.length) (hf:f l[j]=true):l.any f=true:=by
 rw [List.any_eq_true]
 exact ⟨_,List.getElem_mem h,hf⟩
theorem Zi0 {α:Type} {f:α→Bool} {l:List α} (h:∀q (hq:q < l.length),f l[q]=true):l.all f=true:=by
 rw [List.all_eq_true]
 intro x hx
 obtain ⟨q,hq,rfl⟩:=List.getElem_of_mem hx
 exact h q hq
theorem Zi2 {α:Type} {f:α→Bool} {l:List α} (h:∀q (hq:q < l.length),f l[q]=false):l.any f=false:=by
 rw [List.any_eq_false]
 intro x hx
 obtain ⟨q,hq,rfl⟩:=List.getElem_of_mem hx
 simp [h q hq]
theorem ZhK {α:Type} {f:α→Bool} {l:List α} (j:Nat) (h:j < l.length):(l.take (j+1)).all f=((l.take j).all f&&f l[j]):=by
 rw [List.take_succ_eq_append_getElem h,List.all_append]
 simp
theorem ZhL {α:Type} {f:α→Bool} {l:List α} (j:Nat) (h:j < l.length):(l.take (j+1)).any f=((l.take j).any f||f l[j]):=by
 rw [List.take_succ_eq_append_getElem h,List.any_append]
 simp
def Kq (N:Nat):Prop:=∀(p:GP) (v:GV) (w:World) (A A2:Nat→Prop) (mp:PA) (m:VA),Zm p≤N→VT p→okP p→RP w A p mp→okV v→RV w A2 v m.a →
  Calls prog 250 #[PV p mp,VV v m] w fun e w'=>e=.returned (.bool (Zh p v))∧Below w.heap.size w w'
theorem ZxB {p:Prop} (h:p:=by
 go_enter func250,ntmps250
 go_wp2_with fail
 go_ret
 exact ⟨by simp [Zh],ZtZ⟩):p:=h
set_option maxRecDepth 100000
theorem Zb6 (k:Int) (u:GV) (n:Int) (l:List GP) (v:GV) (w:World) (A A2:Nat→Prop) (mp:PA) (m:VA) (hk:k=1∨k=2∨k=3∨k=4) (ou:okV u) (hu:RV w A u mp.va) (ov:okV v) (hv:RV w A2 v m.a):
  Calls prog 250 #[PV ⟨k,u,n,l⟩ mp,VV v m] w fun e w'=>e=.returned (.bool (Zh ⟨k,u,n,l⟩ v))∧Below w.heap.size w w':=by
 obtain ⟨ma,mc⟩:=m
 obtain ⟨na,nb,nc,nd⟩:=mp
 dsimp only at hu hv
 have HU:=hid hu
 have HV:=hid hv
 have OU:=hid ou
 have OV:=hid ov
 clear hu hv ou ov
 rcases hk with rfl|rfl|rfl|rfl
 ·exact ZxB
 ·exact ZxB
 ·generalize hF:XX v u=F
  have HF:=hid hF
  clear hF
  go_enter func250,ntmps250
  go_wp2_with (go_at_call 52;refine (QA (Zg v) v u _ A2 A ⟨ma,mc⟩ ⟨na,nb⟩ (Nat.le_refl _) OV.out OU.out (by exact Zl.1 (Zt5 ar _ _ HV.out)) (by exact Zl.1 (Zt5 ar _ _ HU.out))).mono ?_;rw [HF.out];rintro e w1 ⟨rfl,hb1⟩)
  go_ret
  exact ⟨by simp [Zh,HF.out],ZtZ⟩
 generalize hF:Vj v u=F
 have HF:=hid hF
 clear hF
 go_enter func250,ntmps250
 go_wp2_with (go_at_call 279;refine (Zfv (Zg v) v u _ A2 A ⟨ma,mc⟩ ⟨na,nb⟩ (Nat.le_refl _) OV.out OU.out (by exact Zl.1 (Zt5 ar _ _ HV.out)) (by exact Zl.1 (Zt5 ar _ _ HU.out))).mono ?_;rw [HF.out];rintro e w1 ⟨rfl,hb1⟩)
 go_ret
 exact ⟨by simp [Zh,HF.out],ZtZ⟩
theorem Zdr (N:Nat) (ih:Kq N) (u:GV) (n:Int) (x:GP) (v:GV) (w:World) (A A2:Nat→Prop) (mp:PA) (m:VA) (hN:Zm x≤N) (hg:VT x) (ox:okP x) (hx:RPs w A [x] mp.a) (ov:okV v) (hv:RV w A2 v m.a):
  Calls prog 250 #[PV ⟨5,u,n,[x]⟩ mp,VV v m] w fun e w'=>e=.returned (.bool (!Zh x v))∧Below w.heap.size w w':=by
 obtain ⟨ma,mc⟩:=m
 obtain ⟨na,nb,nc,nd⟩:=mp
 dsimp only at hx hv
 have HV:=hid hv
 have OV:=hid ov
 have OX:=hid ox
 have HG:=hid hg
 have IH:=hid ih
 simp only [RPs] at hx
 obtain ⟨b,o,mj,rfl,hA,g0,gx, -⟩:=hx
 have GX:=hid gx
 obtain ⟨k0,k1,k2,k3,k4,k5⟩:=At6.1 g0
 have hbs:b < w.heap.size:=World.block_lt_of_cell? _ _ k0
 generalize hF:Zh x v=F
 have HF:=hid hF
 clear hv ov ox hg ih gx g0 hF
 go_enter func250,ntmps250
 go_wp2_with fail
 refine Z0 5 kr kr ?_
 simp only [List.take_succ_cons,List.take_zero,List.drop_succ_cons,List.drop_zero]
 repeat still_step
 refine wpStill_nil ?_
 go_wp2_with (go_at_call 250;refine (IH.out x v _ A A2 mj ⟨ma,mc⟩ hN HG.out OX.out (by exact Zub ar _ _ GX.out) OV.out (by exact Zt5 ar _ _ HV.out)).mono ?_;rw [HF.out];rintro e w1 ⟨rfl,hb1⟩)
 go_ret
 exact ⟨sm,ZtZ⟩
set_option maxHeartbeats 4000000
theorem Zdo (N:Nat) (ih:Kq N) (u:GV) (n:Int) (l:List GP) (v:GV) (w:World) (A A2:Nat→Prop) (mp:PA) (m:VA) (hN:ZY l≤N) (hg:goodPs l) (ox:okPs l) (hln:l.length≤64) (hx:RPs w A l mp.a) (ov:okV v) (hv:RV w A2 v m.a):
  Calls prog 250 #[PV ⟨6,u,n,l⟩ mp,VV v m] w fun e w'=>e=.returned (.bool (l.all fun p=>Zh p v))∧Below w.heap.size w w':=by
 obtain ⟨ma,mc⟩:=m
 obtain ⟨na,nb,nc,nd⟩:=mp
 dsimp only at hx hv
 have HV:=hid hv
 have OV:=hid ov
 have OX:=hid ox
 have HG:=hid hg
 have IH:=hid ih
 have HL:=hid hx
 generalize hF:(l.all fun p=>Zh p v)=F
 have HF:=hid hF
 clear hv ov ox hg ih hx hF
 go_enter func250,ntmps250
 go_wp2_with fail
 go_loopg [5] (l.length) (fun gk i wr=>∃j:Nat,gk+j=l.length∧i=.int .i64 j∧Hid (∀q (h:q < l.length),q < j→Zh l[q] v=true)∧Below w.heap.size w wr∧w.heap.size+1 < wr.heap.size∧wr.cell? ⟨w.heap.size,5,none⟩=some (.slice nc l.length nd) ∧
  wr.cell? ⟨w.heap.size+1,0,none⟩=some (.int .u8 v.k)∧wr.cell? ⟨w.heap.size+1,1,none⟩=some (.int .i64 v.n)∧wr.cell? ⟨w.heap.size+1,2,none⟩=some (.slice ma v.l.length mc))
 case atStart=>exact ⟨0,om,rfl,fun q h hq=>absurd hq om,ZtZ,sm,gs,gs,gs,gs⟩
 case round=>
  obtain ⟨j,hj,rfl,HS,hb,hz,ca,c0,c1,c2⟩:=hrel
  by_cases hlt:j < l.length
  ·obtain ⟨b,o,mj,rfl,hA,hbs,g0,gx⟩:=HL.out.get j hlt
   have GX:=hid gx
   obtain ⟨k0,k1,k2,k3,k4,k5⟩:=At6.1 (g0.ext (ZtY hb) (A:=fun _=>True) trivial)
   have hs1:b < wr.heap.size:=om
   clear gx g0
   generalize hC:Zh l[j] v=C
   have HC:=hid hC
   clear hC
   go_wp2_with fail
   refine Z0 6 kr kr ?_
   simp only [List.take_succ_cons,List.take_zero,List.drop_succ_cons,List.drop_zero]
   repeat still_step
   refine wpStill_nil ?_
   go_wp2_with (go_at_call 250;refine (IH.out l[j] v _ A A2 mj ⟨ma,mc⟩ (by have:=Xq l j hlt;omega) (HG.out.get j hlt) (OX.out.get j hlt) (by exact Zub ar _ _ GX.out) OV.out (by exact Zt5 ar _ _ HV.out)).mono ?_;rw [HC.out];rintro e w1 ⟨rfl,hb1⟩;have hz1:=hb1.size;(try simp at hz1);have hbb:Below w.heap.size w w1:=ZtZ)
   ·have hne:C=false:=by simpa using ‹(!C)=true›
    go_ret
    exact ⟨XA (by rw [←HF.out,Zi1 j hlt (by rw [HC.out];exact hne)]),hbb⟩
   have hne:C=true:=by simpa using ‹(!C)=false›
   go_roundg (gk - 1)
   case measure=>omega
   case rel=>exact ⟨j+1,om,by go_num,fun q h hq=>(by
    by_cases hqj:q=j
    ·subst hqj;rw [HC.out];exact hne
    exact HS.out q h om),hbb,om,(hb1.cell (by simp;omega)).trans gs,(hb1.cell (by simp;omega)).trans gs,(hb1.cell (by simp;omega)).trans gs,(hb1.cell (by simp;omega)).trans gs⟩
  go_wp2_with fail
  go_ret
  exact ⟨XA (by rw [←HF.out,Zi0 fun q hq=>HS.out q hq om]),ZtZ⟩
theorem Zep (N:Nat) (ih:Kq N) (u:GV) (n:Int) (l:List GP) (v:GV) (w:World) (A A2:Nat→Prop) (mp:PA) (m:VA) (hN:ZY l≤N) (hg:goodPs l) (ox:okPs l) (hln:l.length≤64) (hx:RPs w A l mp.a) (ov:okV v) (hv:RV w A2 v m.a):
  Calls prog 250 #[PV ⟨7,u,n,l⟩ mp,VV v m] w fun e w'=>e=.returned (.bool (l.any fun p=>Zh p v))∧Below w.heap.size w w':=by
 obtain ⟨ma,mc⟩:=m
 obtain ⟨na,nb,nc,nd⟩:=mp
 dsimp only at hx hv
 have HV:=hid hv
 have OV:=hid ov
 have OX:=hid ox
 have HG:=hid hg
 have IH:=hid ih
 have HL:=hid hx
 generalize hF:(l.any fun p=>Zh p v)=F
 have HF:=hid hF
 clear hv ov ox hg ih hx hF
 go_enter func250,ntmps250
 go_wp2_with fail
 go_loopg [6] (l.length) (fun gk i wr=>∃j:Nat,gk+j=l.length∧i=.int .i64 j∧Hid (∀q (h:q < l.length),q < j→Zh l[q] v=false)∧Below w.heap.size w wr∧w.heap.size+1 < wr.heap.size∧wr.cell? ⟨w.heap.size,5,none⟩=some (.slice nc l.length nd) ∧
  wr.cell? ⟨w.heap.size+1,0,none⟩=some (.int .u8 v.k)∧wr.cell? ⟨w.heap.size+1,1,none⟩=some (.int .i64 v.n)∧wr.cell? ⟨w.heap.size+1,2,none⟩=some (.slice ma v.l.length mc))
 case atStart=>exact ⟨0,om,rfl,fun q h hq=>absurd hq om,ZtZ,sm,gs,gs,gs,gs⟩
 case round=>
  obtain ⟨j,hj,rfl,HS,hb,hz,ca,c0,c1,c2⟩:=hrel
  by_cases hlt:j < l.length
  ·obtain ⟨b,o,mj,rfl,hA,hbs,g0,gx⟩:=HL.out.get j hlt
   have GX:=hid gx
   obtain ⟨k0,k1,k2,k3,k4,k5⟩:=At6.1 (g0.ext (ZtY hb) (A:=fun _=>True) trivial)
   have hs1:b < wr.heap.size:=om
   clear gx g0
   generalize hC:Zh l[j] v=C
   have HC:=hid hC
   clear hC
   go_wp2_with fail
   refine Z0 6 kr kr ?_
   simp only [List.take_succ_cons,List.take_zero,List.drop_succ_cons,List.drop_zero]
   repeat still_step
   refine wpStill_nil ?_
   go_wp2_with (go_at_call 250;refine (IH.out l[j] v _ A A2 mj ⟨ma,mc⟩ (by have:=Xq l j hlt;omega) (HG.out.get j hlt) (OX.out.get j hlt) (by exact Zub ar _ _ GX.out) OV.out (by exact Zt5 ar _ _ HV.out)).mono ?_;rw [HC.out];rintro e w1 ⟨rfl,hb1⟩;have hz1:=hb1.size;(try simp at hz1);have hbb:Below w.heap.size w w1:=ZtZ;cases C)
   ·go_roundg (gk - 1)
    case measure=>omega
    case rel=>exact ⟨j+1,om,by go_num,fun q h hq=>(by
     by_cases hqj:q=j
     ·subst hqj;exact HC.out
     exact HS.out q h om),hbb,om,(hb1.cell (by simp;omega)).trans gs,(hb1.cell (by simp;omega)).trans gs,(hb1.cell (by simp;omega)).trans gs,(hb1.cell (by simp;omega)).trans gs⟩
   go_ret
   exact ⟨XA (by rw [←HF.out,Zi3 j hlt HC.out]),hbb⟩
  go_wp2_with fail
  go_ret
  exact ⟨XA (by rw [←HF.out,Zi2 fun q hq=>HS.out q hq om]),ZtZ⟩
set_option maxRecDepth 512
theorem Zeo (k:Int) (u:GV) (n:Int) (l:List GP) (v:GV) (w:World) (mp:PA) (m:VA) (hk:k=8∨k=9∨k=10∨k=11) (ov:okV v) (hrow:Ua v=false):
  Calls prog 250 #[PV ⟨k,u,n,l⟩ mp,VV v m] w fun e w'=>e=.returned (.bool false)∧Below w.heap.size w w':=by
 obtain ⟨ma,mc⟩:=m
 obtain ⟨na,nb,nc,nd⟩:=mp
 have HR:=hid (show J0 v.k=false from hrow)
 have OK:=hid (ZA.1 ov).1
 clear ov hrow
 rcases hk with rfl|rfl|rfl|rfl
 all_goals go_enter func250,ntmps250
 all_goals go_wp2_with (go_at_call 280;refine (V1 v ⟨ma,mc⟩ _ OK.out).mono ?_;rw [HR.out];rintro e w1 ⟨rfl,hb1⟩)
 all_goals go_ret
 all_goals exact ⟨rfl,ZtZ⟩
end Go.Proofs.YtkdffbdnjfgpeaaGreat
