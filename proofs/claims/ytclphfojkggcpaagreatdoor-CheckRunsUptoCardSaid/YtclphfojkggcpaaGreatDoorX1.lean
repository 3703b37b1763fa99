/- Part 2. -/
import Derived.Test.YtclphfojkggcpaaGreatDoorProg
import Derived.Test.YtclphfojkggcpaaGreatDoorX0
set_option linter.all false
namespace Go.Proofs.YtclphfojkggcpaaGreatDoor
open Go.Lib (hid)
open Go Go.RowKit Go.Proofs.Tryz
theorem Zf {k:IntKind} {a b:Int} (h:a=b):Ending.returned (.int k a)=.returned (.int k b):=by rw [h]
theorem XW {a b:Bool} (h:a=b):Ending.returned (.bool a)=.returned (.bool b):=by rw [h]
theorem YS {j k:IntKind} {a b c d:Int} (h:a=c) (h':b=d):Ending.returned (.tuple #[.int j a,.int k b])=.returned (.tuple #[.int j c,.int k d]):=by rw [h,h']
def Wh (x:GV):Int:=
 if x.k=1 then (if x.n < -1099511627776∨1099511627776 < x.n then 1 else if 0 < (x.l.length:Int) then 3 else 0)
 else if x.k=2 then (if x.n≠0∧x.n≠1 then 1 else if 0 < (x.l.length:Int) then 3 else 0)
 else if x.k=3∨x.k=4 then (if x.n≠0 then 3 else if 64 < (x.l.length:Int) then 5 else 0)
 else 11
def Zam (k:Int):Bool:=k==1||k==2
theorem VW (k:Int) (w:World) (hk:Yg k):Calls prog 196 #[.int .u8 k] w fun e w'=>e=.returned (.bool (Zam k))∧w=w':=by
 obtain ⟨h0,h1⟩:=hk
 generalize hF:Zam k=F
 have HF:=hid hF
 clear hF
 go_enter func196,ntmps196
 go_wp2_with fail
 all_goals go_ret
 all_goals exact ⟨XW (by rw [←HF.out];simp [Zam, *]),rfl⟩
theorem q10 {p:Prop} (h:p:=by (first|rfl|omega|((try simp only [beq_iff_eq,beq_eq_false_iff_ne,bne_iff_ne,bne_eq_false_iff_eq,decide_eq_true_eq,decide_eq_false_iff_not,ne_eq,Bool.and_eq_true,Bool.or_eq_true,Bool.and_eq_false_iff,Bool.or_eq_false_iff,Bool.not_eq_true',Bool.not_eq_false'] at *);(repeat' split)<;>first|rfl|omega|contradiction|(simp_all;done)|(simp_all;omega)))):p:=h
set_option maxRecDepth 100000
theorem ZhA (x:GV) (m:VA) (w:World) (ox:Yg x.k∧Zv x.n∧x.l.length≤1048576):
  Calls prog 171 #[VV x m] w fun e w'=>e=.returned (.int .i64 (Wh x))∧Below w.heap.size w w':=by
 obtain ⟨⟨x1,x2⟩,⟨x3,x4⟩,x5⟩:=ox
 obtain ⟨ma,mc⟩:=m
 have hu8:=hid (show Yg x.k from ⟨x1,x2⟩)
 generalize hF:Wh x=F
 have HF:=hid hF
 clear hF
 go_enter func171,ntmps171
 go_wp2_with (go_at_call 196;refine (VW _ _ hu8.out).mono ?_;rintro e w' ⟨rfl,rfl⟩)
 all_goals go_ret
 all_goals refine ⟨Zf ?_,ZlU⟩
 all_goals rw [←HF.out]
 all_goals unfold Wh
 all_goals (try unfold Zam at *)
 all_goals exact q10
set_option maxRecDepth 512
def Xw (x:GV):Bool:=x.k==0&&x.n==0&&(x.l.length:Int)==0
theorem q11 {p:Prop} (h:p:=by
 go_wp2_with fail
 all_goals go_ret
 all_goals refine ⟨XW ?_,ZlU⟩
 all_goals rw [←HF.out]
 all_goals unfold Xw
 all_goals (first|(simp;done)|(simp [*];done)|(simp_all;done)|(simp_all;omega)|(simp;omega))):p:=h
set_option maxRecDepth 100000
theorem Zd4 (x:GV) (m:VA) (w:World) (ox:Yg x.k∧Zv x.n∧x.l.length≤1048576):
  Calls prog 131 #[VV x m] w fun e w'=>e=.returned (.bool (Xw x))∧Below w.heap.size w w':=by
 obtain ⟨⟨x1,x2⟩,⟨x3,x4⟩,x5⟩:=ox
 obtain ⟨ma,mc⟩:=m
 generalize hF:Xw x=F
 have HF:=hid hF
 clear hF
 go_enter func131,ntmps131
 exact q11
theorem J6 (x:GV) (m:VA) (w:World) (ox:Yg x.k∧Zv x.n∧x.l.length≤1048576):
  Calls prog 185 #[VV x m] w fun e w'=>e=.returned (.bool (Xw x))∧Below w.heap.size w w':=by
 obtain ⟨⟨x1,x2⟩,⟨x3,x4⟩,x5⟩:=ox
 obtain ⟨ma,mc⟩:=m
 generalize hF:Xw x=F
 have HF:=hid hF
 clear hF
 go_enter func185,ntmps185
 exact q11
theorem QE (x:GV) (m:VA) (w:World) (ox:Yg x.k∧Zv x.n∧x.l.length≤1048576):
  Calls prog 140 #[VV x m] w fun e w'=>e=.returned (.bool (Xw x))∧Below w.heap.size w w':=by
 obtain ⟨⟨x1,x2⟩,⟨x3,x4⟩,x5⟩:=ox
 obtain ⟨ma,mc⟩:=m
 generalize hF:Xw x=F
 have HF:=hid hF
 clear hF
 go_enter func140,ntmps140
 exact q11
theorem Zaw (x:GV) (m:VA) (w:World) (ox:Yg x.k∧Zv x.n∧x.l.length≤1048576):
  Calls prog 105 #[VV x m] w fun e w'=>e=.returned (.bool (Xw x))∧Below w.heap.size w w':=by
 obtain ⟨⟨x1,x2⟩,⟨x3,x4⟩,x5⟩:=ox
 obtain ⟨ma,mc⟩:=m
 generalize hF:Xw x=F
 have HF:=hid hF
 clear hF
 go_enter func105,ntmps105
 exact q11
set_option maxRecDepth 512
def Xe (k:Int):Bool:=k==3||k==4
theorem q12 {p:Prop} (h:p:=by (first|(simp;done)|(simp [*];done)|(simp_all;done)|(simp_all;omega)|(simp;omega))):p:=h
theorem Jg (k:Int) (w:World) (hk:Yg k):Calls prog 79 #[.int .u8 k] w fun e w'=>e=.returned (.bool (Xe k))∧Below w.heap.size w w':=by
 obtain ⟨h0,h1⟩:=hk
 generalize hF:Xe k=F
 have HF:=hid hF
 clear hF
 go_enter func79,ntmps79
 go_wp2_with fail
 all_goals go_ret
 all_goals refine ⟨XW ?_,ZlU⟩
 all_goals rw [←HF.out]
 all_goals unfold Xe
 all_goals exact q12
def J0 (k:Int):Bool:=k==3||k==4
theorem q14 {p:Prop} (h:p:=by
 go_wp2_with fail
 all_goals go_ret
 all_goals refine ⟨XW ?_,ZlU⟩
 all_goals rw [←HF.out]
 all_goals unfold J0
 all_goals exact q12):p:=h
set_option maxRecDepth 100000
theorem U5 (x:GV) (m:VA) (w:World) (hk:Yg x.k):Calls prog 256 #[VV x m] w fun e w'=>e=.returned (.bool (J0 x.k))∧Below w.heap.size w w':=by
 obtain ⟨h0,h1⟩:=hk
 obtain ⟨ma,mc⟩:=m
 generalize hF:J0 x.k=F
 have HF:=hid hF
 clear hF
 go_enter func256,ntmps256
 exact q14
theorem V1 (x:GV) (m:VA) (w:World) (hk:Yg x.k):Calls prog 107 #[VV x m] w fun e w'=>e=.returned (.bool (J0 x.k))∧Below w.heap.size w w':=by
 obtain ⟨h0,h1⟩:=hk
 obtain ⟨ma,mc⟩:=m
 generalize hF:J0 x.k=F
 have HF:=hid hF
 clear hF
 go_enter func107,ntmps107
 exact q14
set_option maxRecDepth 512
def Qb (b:Bool):Int:=if b then 0 else 3
theorem q13 {p:Prop} (h:p:=by
 go_enter func184,ntmps184
 go_wp2_with fail
 all_goals go_ret
 all_goals refine ⟨Zf ?_,ZlU⟩
 all_goals rw [←HF.out]
 all_goals unfold Qb
 all_goals exact q10):p:=h
theorem Z9 (b:Bool) (w:World):Calls prog 184 #[.bool b] w fun e w'=>e=.returned (.int .i64 (Qb b))∧Below w.heap.size w w':=by
 generalize hF:Qb b=F
 have HF:=hid hF
 clear hF
 cases b
 ·exact q13
 exact q13
def Yi (n a b:Int):Bool:=decide (a≤n)&&decide (n≤b)
theorem ZbX (n a b:Int) (w:World) (hn:Zv n) (ha:Zv a) (hb:Zv b):Calls prog 187 #[.int .i64 n,.int .i64 a,.int .i64 b] w fun e w'=>e=.returned (.bool (Yi n a b))∧Below w.heap.size w w':=by
 obtain ⟨h0,h1⟩:=hn
 obtain ⟨h2,h3⟩:=ha
 obtain ⟨h4,h5⟩:=hb
 generalize hF:Yi n a b=F
 have HF:=hid hF
 clear hF
 go_enter func187,ntmps187
 go_wp2_with fail
 all_goals go_ret
 all_goals refine ⟨XW ?_,ZlU⟩
 all_goals rw [←HF.out]
 all_goals unfold Yi
 all_goals exact q12
def Xl (n a b:Int):Int:=if n < a then 4 else if b < n then 5 else 0
theorem q15 {p:Prop} (h:p:=by
 go_wp2_with fail
 all_goals go_ret
 all_goals refine ⟨Zf ?_,ZlU⟩
 all_goals rw [←HF.out]
 all_goals unfold Xl
 all_goals exact q10):p:=h
theorem ZdZ (n a b:Int) (w:World) (hn:Zv n) (ha:Zv a) (hb:Zv b):Calls prog 188 #[.int .i64 n,.int .i64 a,.int .i64 b] w fun e w'=>e=.returned (.int .i64 (Xl n a b))∧Below w.heap.size w w':=by
 obtain ⟨h0,h1⟩:=hn
 obtain ⟨h2,h3⟩:=ha
 obtain ⟨h4,h5⟩:=hb
 generalize hF:Xl n a b=F
 have HF:=hid hF
 clear hF
 go_enter func188,ntmps188
 exact q15
theorem Ww (n a b:Int) (w:World) (hn:Zv n) (ha:Zv a) (hb:Zv b):Calls prog 91 #[.int .i64 n,.int .i64 a,.int .i64 b] w fun e w'=>e=.returned (.int .i64 (Xl n a b))∧Below w.heap.size w w':=by
 obtain ⟨h0,h1⟩:=hn
 obtain ⟨h2,h3⟩:=ha
 obtain ⟨h4,h5⟩:=hb
 generalize hF:Xl n a b=F
 have HF:=hid hF
 clear hF
 go_enter func91,ntmps91
 exact q15
mutual
def XX:GV→GV→Bool
 | ⟨k,n,l⟩,⟨k',n',l'⟩=>k==k'&&n==n'&&XY l l'
def XY:List GV→List GV→Bool
 | [],[]=>true
 | x::l,y::l'=>XX x y&&XY l l'
 | _,_=>false
end
theorem Zey (x y:GV):XX x y=(x.k==y.k&&x.n==y.n&&XY x.l y.l):=by cases x;cases y;simp only [XX]
theorem KH:∀(l l':List GV),l.length≠l'.length→XY l l'=false
 | [],[],h=>absurd rfl h
 | [],_::_,_=>by simp [XY]
 | _::_,[],_=>by simp [XY]
 | x::l,y::l',h=>by simp [XY,KH l l' (by simpa using h)]
theorem KG:∀(l l':List GV),l.length=l'.length→(∀i (h:i < l.length) (h':i < l'.length),XX l[i] l'[i]=true)→XY l l'=true
 | [],[],_,_=>by simp [XY]
 | x::l,y::l',h,g=>by
  have g0:=g 0 sm sm
  simp at g0
  simp only [XY,g0,Bool.true_and]
  exact KG l l' (by simpa using h) fun i hi hi'=>by have:=g (i+1) (by simpa using hi) (by simpa using hi');simpa only [List.getElem_cons_succ] using this
theorem KI:∀(l l':List GV) i (h:i < l.length) (h':i < l'.length),XX l[i] l'[i]=false→XY l l'=false
 | x::l,y::l',0,_,_,g=>by simp at g;simp [XY,g]
 | x::l,y::l',i+1,h,h',g=>by
  have:=KI l l' i (by simpa using h) (by simpa using h') (by simpa using g)
  simp [XY,this]
set_option maxRecDepth 100000
theorem Zez (N:Nat):∀(x y:GV) (w:World) (A A':Nat→Prop) (m m':VA),Zg x≤N→okV x→okV y→RVs w A x.l m.a→RVs w A' y.l m'.a →
  Calls prog 20 #[VV x m,VV y m'] w fun e w'=>e=.returned (.bool (XX x y))∧Below w.heap.size w w':=by
 induction N with
 | zero=>intro x;have:=Zr x;intros;omega
 | succ N ih=>
  rintro x y w A A' ⟨ma,mc⟩ ⟨ma',mc'⟩ hN ox oy hl hl'
  dsimp only at hl hl'
  have IH:=hid ih
  have HL:=hid hl
  have HL':=hid hl'
  rw [XZ] at hN
  clear hl hl' ih
  obtain ⟨⟨x1,x2⟩,⟨x3,x4⟩,x5,ox'⟩:=ZA.1 ox
  obtain ⟨⟨y1,y2⟩,⟨y3,y4⟩,y5,oy'⟩:=ZA.1 oy
  have O:=hid (And.intro ox' oy')
  clear ox oy ox' oy'
  rw [Zey]
  generalize hF:(x.k==y.k&&x.n==y.n&&XY x.l y.l)=F
  by_cases hk:x.k=y.k
  case neg=>
   have hk':(x.k != y.k)=true:=by simpa using hk
   go_enter func20,ntmps20
   go_wp2_with fail
   go_ret
   exact ⟨by rw [←hF];simp [hk],((Below.refl _ _).alloc sm _).alloc sm _⟩
  have hk':(x.k != y.k)=false:=by simpa using hk
  have HK:=hid hk
  by_cases hn:x.n=y.n
  case neg=>
   have hn':(x.n != y.n)=true:=by simpa using hn
   clear hk
   go_enter func20,ntmps20
   go_wp2_with fail
   go_ret
   exact ⟨by rw [←hF];simp [hn],((Below.refl _ _).alloc sm _).alloc sm _⟩
  have hn':(x.n != y.n)=false:=by simpa using hn
  have HN:=hid hn
  by_cases hll:x.l.length=y.l.length
  case neg=>
   have hll':((x.l.length:Int) != (y.l.length:Int))=true:=by simp;omega
   clear hk hn
   go_enter func20,ntmps20
   go_wp2_with fail
   go_ret
   exact ⟨by rw [←hF];simp [KH _ _ hll],((Below.refl _ _).alloc sm _).alloc sm _⟩
  have hll':((x.l.length:Int) != (y.l.length:Int))=false:=by simp;omega
  have HLL:=hid hll
  clear hk hn hll
  have HF:=hid hF
  clear hF
  go_enter func20,ntmps20
  go_wp2_with fail
  go_loopg [31] (x.l.length) (fun gk i wr=>∃j:Nat,gk+j=x.l.length∧i=.int .i64 j∧Hid (∀q (h:q < x.l.length) (h':q < y.l.length),q < j→XX x.l[q] y.l[q]=true)∧Below w.heap.size w wr∧w.heap.size+1 < wr.heap.size∧wr.cell? ⟨w.heap.size+1,2,none⟩=some (.slice ma' y.l.length mc'))
  case atStart=>exact ⟨0,om,rfl,fun q h h' hq=>absurd hq om,((Below.refl _ _).alloc sm _).alloc sm _,sm,gs⟩
  case round=>
   obtain ⟨j,hj,rfl,HS,hb,hz,hcell⟩:=hrel
   by_cases hlt:j < x.l.length
   ·have hlt':j < y.l.length:=by have:=HLL.out;omega
    obtain ⟨b,o,mj,rfl,hA,hbs,g0,gx⟩:=HL.out.get j hlt
    obtain ⟨b',o',mj',rfl,hA',hbs',g0',gy⟩:=HL'.out.get j hlt'
    obtain ⟨k0,k1,k2⟩:=At3.1 (g0.ext (ZlH hb) (A:=fun _=>True) trivial)
    obtain ⟨k0',k1',k2'⟩:=At3.1 (g0'.ext (ZlH hb) (A:=fun _=>True) trivial)
    have hs1:b < wr.heap.size:=om
    have hs2:b' < wr.heap.size:=om
    clear hbs hbs' g0 g0'
    go_wp2_with fail
    refine Z0 6 kr kr ?_
    simp only [List.take_succ_cons,List.take_zero,List.drop_succ_cons,List.drop_zero]
    repeat still_step
    refine wpStill_nil ?_
    go_wp2_with (go_at_call 20;refine (IH.out x.l[j] y.l[j] _ A A' mj mj' (by have:=ZX x.l j hlt;omega) (O.out.1.get j hlt) (O.out.2.get j hlt')
      (by exact Zl.1 (ZmG (ZlH (hb.alloc om _).drew) _ _ gx)) (by exact Zl.1 (ZmG (ZlH (hb.alloc om _).drew) _ _ gy))).mono ?_;rintro e2 w2 ⟨rfl,hb2⟩)
    all_goals have hbb:Below w.heap.size w w2:=((hb.alloc om _).drew).trans (hb2.mono (by simp;omega))
    ·have hne:XX x.l[j] y.l[j]=false:=by simpa using ‹(!XX x.l[j] y.l[j])=true›
     go_ret
     exact ⟨by rw [←HF.out];simp [KI _ _ j hlt hlt' hne],hbb⟩
    have hne:XX x.l[j] y.l[j]=true:=by simpa using ‹(!XX x.l[j] y.l[j])=false›
    have hz2:=hb2.size
    have hcell2:w2.cell? ⟨w.heap.size+1,2,none⟩=some (.slice (some ⟨b',o',none⟩) y.l.length mc'):=by
     rw [hb2.cell (by simp;omega)];go_simp
    go_roundg (gk - 1)
    case rel=>exact ⟨j+1,om,by go_num,fun q h h' hq=>(by
     by_cases hqj:q=j
     ·subst hqj;exact hne
     exact HS.out q h h' om),hbb,by simp at hz2;omega,hcell2⟩
    case measure=>omega
   have hjl:j=x.l.length:=om
   go_wp2_with fail
   go_ret
   refine ⟨?_,hb⟩
   rw [←HF.out];simp [HK.out,HN.out,KG _ _ HLL.out fun i h h'=>HS.out i h h' om]
end Go.Proofs.YtclphfojkggcpaaGreatDoor
