/- Part 4. -/
import Derived.Test.YtkdffbdnjfgpeaaGreatProg
import Derived.Test.YtkdffbdnjfgpeaaGreatZ0
set_option linter.all false
namespace Go.Proofs.YtkdffbdnjfgpeaaGreat
open Go.Lib (hid)
open Go Go.RowKit Go.Proofs.Tryz
theorem Zf {k:IntKind} {a b:Int} (h:a=b):Ending.returned (.int k a)=.returned (.int k b):=by rw [h]
theorem XW {a b:Bool} (h:a=b):Ending.returned (.bool a)=.returned (.bool b):=by rw [h]
theorem YS {j k:IntKind} {a b c d:Int} (h:a=c) (h':b=d):Ending.returned (.tuple #[.int j a,.int k b])=.returned (.tuple #[.int j c,.int k d]):=by rw [h,h']
def Wh (x:GV):Int:=
 if x.k=1 then (if x.n < -1099511627776∨1099511627776 < x.n then 1 else if 0 < (x.l.length:Int) then 3 else 0)
 else if x.k=2 then (if x.n≠0∧x.n≠1 then 1 else if 0 < (x.l.length:Int) then 3 else 0)
 else if x.k=3∨x.k=4 then (if x.n≠0 then 3 else if 64 < (x.l.length:Int) then 5 else 0)
 else 11
def Zam (k:Int):Bool:=k==1||k==2
theorem VW (k:Int) (w:World) (hk:Yg k):Calls prog 290 #[.int .u8 k] w fun e w'=>e=.returned (.bool (Zam k))∧w=w':=by
 obtain ⟨h0,h1⟩:=hk
 generalize hF:Zam k=F
 have HF:=hid hF
 clear hF
 go_enter func290,ntmps290
 go_wp2_with fail
 all_goals go_ret
 all_goals exact ⟨XW (by rw [←HF.out];simp [Zam, *]),rfl⟩
theorem q30 {p:Prop} (h:p:=by (first|rfl|omega|((try simp only [beq_iff_eq,beq_eq_false_iff_ne,bne_iff_ne,bne_eq_false_iff_eq,decide_eq_true_eq,decide_eq_false_iff_not,ne_eq,Bool.and_eq_true,Bool.or_eq_true,Bool.and_eq_false_iff,Bool.or_eq_false_iff,Bool.not_eq_true',Bool.not_eq_false'] at *);(repeat' split)<;>first|rfl|omega|contradiction|(simp_all;done)|(simp_all;omega)))):p:=h
set_option maxRecDepth 100000
theorem ZhA (x:GV) (m:VA) (w:World) (ox:Yg x.k∧Zv x.n∧x.l.length≤1048576):
  Calls prog 281 #[VV x m] w fun e w'=>e=.returned (.int .i64 (Wh x))∧Below w.heap.size w w':=by
 obtain ⟨⟨x1,x2⟩,⟨x3,x4⟩,x5⟩:=ox
 obtain ⟨ma,mc⟩:=m
 have hu8:=hid (show Yg x.k from ⟨x1,x2⟩)
 generalize hF:Wh x=F
 have HF:=hid hF
 clear hF
 go_enter func281,ntmps281
 go_wp2_with (go_at_call 290;refine (VW _ _ hu8.out).mono ?_;rintro e w' ⟨rfl,rfl⟩)
 all_goals go_ret
 all_goals refine ⟨Zf ?_,ZtX⟩
 all_goals rw [←HF.out]
 all_goals unfold Wh
 all_goals (try unfold Zam at *)
 all_goals exact q30
set_option maxRecDepth 512
def Xw (x:GV):Bool:=x.k==0&&x.n==0&&(x.l.length:Int)==0
theorem q31 {p:Prop} (h:p:=by
 go_wp2_with fail
 all_goals go_ret
 all_goals refine ⟨XW ?_,ZtX⟩
 all_goals rw [←HF.out]
 all_goals unfold Xw
 all_goals (first|(simp;done)|(simp [*];done)|(simp_all;done)|(simp_all;omega)|(simp;omega))):p:=h
set_option maxRecDepth 100000
theorem Zd4 (x:GV) (m:VA) (w:World) (ox:Yg x.k∧Zv x.n∧x.l.length≤1048576):
  Calls prog 283 #[VV x m] w fun e w'=>e=.returned (.bool (Xw x))∧Below w.heap.size w w':=by
 obtain ⟨⟨x1,x2⟩,⟨x3,x4⟩,x5⟩:=ox
 obtain ⟨ma,mc⟩:=m
 generalize hF:Xw x=F
 have HF:=hid hF
 clear hF
 go_enter func283,ntmps283
 exact q31
theorem J6 (x:GV) (m:VA) (w:World) (ox:Yg x.k∧Zv x.n∧x.l.length≤1048576):
  Calls prog 256 #[VV x m] w fun e w'=>e=.returned (.bool (Xw x))∧Below w.heap.size w w':=by
 obtain ⟨⟨x1,x2⟩,⟨x3,x4⟩,x5⟩:=ox
 obtain ⟨ma,mc⟩:=m
 generalize hF:Xw x=F
 have HF:=hid hF
 clear hF
 go_enter func256,ntmps256
 exact q31
theorem QE (x:GV) (m:VA) (w:World) (ox:Yg x.k∧Zv x.n∧x.l.length≤1048576):
  Calls prog 238 #[VV x m] w fun e w'=>e=.returned (.bool (Xw x))∧Below w.heap.size w w':=by
 obtain ⟨⟨x1,x2⟩,⟨x3,x4⟩,x5⟩:=ox
 obtain ⟨ma,mc⟩:=m
 generalize hF:Xw x=F
 have HF:=hid hF
 clear hF
 go_enter func238,ntmps238
 exact q31
theorem Zaw (x:GV) (m:VA) (w:World) (ox:Yg x.k∧Zv x.n∧x.l.length≤1048576):
  Calls prog 275 #[VV x m] w fun e w'=>e=.returned (.bool (Xw x))∧Below w.heap.size w w':=by
 obtain ⟨⟨x1,x2⟩,⟨x3,x4⟩,x5⟩:=ox
 obtain ⟨ma,mc⟩:=m
 generalize hF:Xw x=F
 have HF:=hid hF
 clear hF
 go_enter func275,ntmps275
 exact q31
set_option maxRecDepth 512
def Xe (k:Int):Bool:=k==3||k==4
theorem q34 {p:Prop} (h:p:=by (first|(simp;done)|(simp [*];done)|(simp_all;done)|(simp_all;omega)|(simp;omega))):p:=h
theorem Jg (k:Int) (w:World) (hk:Yg k):Calls prog 219 #[.int .u8 k] w fun e w'=>e=.returned (.bool (Xe k))∧Below w.heap.size w w':=by
 obtain ⟨h0,h1⟩:=hk
 generalize hF:Xe k=F
 have HF:=hid hF
 clear hF
 go_enter func219,ntmps219
 go_wp2_with fail
 all_goals go_ret
 all_goals refine ⟨XW ?_,ZtX⟩
 all_goals rw [←HF.out]
 all_goals unfold Xe
 all_goals exact q34
def J0 (k:Int):Bool:=k==3||k==4
set_option maxRecDepth 100000
theorem U5 (x:GV) (m:VA) (w:World) (hk:Yg x.k):Calls prog 337 #[VV x m] w fun e w'=>e=.returned (.bool (J0 x.k))∧Below w.heap.size w w':=by
 obtain ⟨h0,h1⟩:=hk
 obtain ⟨ma,mc⟩:=m
 generalize hF:J0 x.k=F
 have HF:=hid hF
 clear hF
 go_enter func337,ntmps337
 go_wp2_with fail
 all_goals go_ret
 all_goals refine ⟨XW ?_,ZtX⟩
 all_goals rw [←HF.out]
 all_goals unfold J0
 all_goals exact q34
set_option maxRecDepth 512
def Qb (b:Bool):Int:=if b then 0 else 3
theorem q32 {p:Prop} (h:p:=by
 go_enter func255,ntmps255
 go_wp2_with fail
 all_goals go_ret
 all_goals refine ⟨Zf ?_,ZtX⟩
 all_goals rw [←HF.out]
 all_goals unfold Qb
 all_goals exact q30):p:=h
theorem Z9 (b:Bool) (w:World):Calls prog 255 #[.bool b] w fun e w'=>e=.returned (.int .i64 (Qb b))∧Below w.heap.size w w':=by
 generalize hF:Qb b=F
 have HF:=hid hF
 clear hF
 cases b
 ·exact q32
 exact q32
def Yi (n a b:Int):Bool:=decide (a≤n)&&decide (n≤b)
theorem ZbX (n a b:Int) (w:World) (hn:Zv n) (ha:Zv a) (hb:Zv b):Calls prog 260 #[.int .i64 n,.int .i64 a,.int .i64 b] w fun e w'=>e=.returned (.bool (Yi n a b))∧Below w.heap.size w w':=by
 obtain ⟨h0,h1⟩:=hn
 obtain ⟨h2,h3⟩:=ha
 obtain ⟨h4,h5⟩:=hb
 generalize hF:Yi n a b=F
 have HF:=hid hF
 clear hF
 go_enter func260,ntmps260
 go_wp2_with fail
 all_goals go_ret
 all_goals refine ⟨XW ?_,ZtX⟩
 all_goals rw [←HF.out]
 all_goals unfold Yi
 all_goals exact q34
def Xl (n a b:Int):Int:=if n < a then 4 else if b < n then 5 else 0
theorem q36 {p:Prop} (h:p:=by
 go_wp2_with fail
 all_goals go_ret
 all_goals refine ⟨Zf ?_,ZtX⟩
 all_goals rw [←HF.out]
 all_goals unfold Xl
 all_goals exact q30):p:=h
theorem ZdZ (n a b:Int) (w:World) (hn:Zv n) (ha:Zv a) (hb:Zv b):Calls prog 261 #[.int .i64 n,.int .i64 a,.int .i64 b] w fun e w'=>e=.returned (.int .i64 (Xl n a b))∧Below w.heap.size w w':=by
 obtain ⟨h0,h1⟩:=hn
 obtain ⟨h2,h3⟩:=ha
 obtain ⟨h4,h5⟩:=hb
 generalize hF:Xl n a b=F
 have HF:=hid hF
 clear hF
 go_enter func261,ntmps261
 exact q36
theorem Ww (n a b:Int) (w:World) (hn:Zv n) (ha:Zv a) (hb:Zv b):Calls prog 183 #[.int .i64 n,.int .i64 a,.int .i64 b] w fun e w'=>e=.returned (.int .i64 (Xl n a b))∧Below w.heap.size w w':=by
 obtain ⟨h0,h1⟩:=hn
 obtain ⟨h2,h3⟩:=ha
 obtain ⟨h4,h5⟩:=hb
 generalize hF:Xl n a b=F
 have HF:=hid hF
 clear hF
 go_enter func183,ntmps183
 exact q36
mutual
def XX:GV→GV→Bool
 | ⟨k,n,l⟩,⟨k',n',l'⟩=>k==k'&&n==n'&&XY l l'
def XY:List GV→List GV→Bool
 | [],[]=>true
 | x::l,y::l'=>XX x y&&XY l l'
 | _,_=>false
end
theorem Zey (x y:GV):XX x y=(x.k==y.k&&x.n==y.n&&XY x.l y.l):=by cases x;cases y;simp only [XX]
theorem KH:∀(l l':List GV),l.length≠l'.length→XY l l'=false
 | [],[],h=>absurd rfl h
 | [],_::_,_=>by simp [XY]
 | _::_,[],_=>by simp [XY]
 | x::l,y::l',h=>by simp [XY,KH l l' (by simpa using h)]
theorem KG:∀(l l':List GV),l.length=l'.length→(∀i (h:i < l.length) (h':i < l'.length),XX l[i] l'[i]=true)→XY l l'=true
 | [],[],_,_=>by simp [XY]
 | x::l,y::l',h,g=>by
  have g0:=g 0 sm sm
  simp at g0
  simp only [XY,g0,Bool.true_and]
  exact KG l l' (by simpa using h) fun i hi hi'=>by have:=g (i+1) (by simpa using hi) (by simpa using hi');simpa only [List.getElem_cons_succ] using this
theorem KI:∀(l l':List GV) i (h:i < l.length) (h':i < l'.length),XX l[i] l'[i]=false→XY l l'=false
 | x::l,y::l',0,_,_,g=>by simp at g;simp [XY,g]
 | x::l,y::l',i+1,h,h',g=>by
  have:=KI l l' i (by simpa using h) (by simpa using h') (by simpa using g)
  simp [XY,this]
theorem q33 {p:Prop} (h:p:=by
 have hne:XX x.l[j] y.l[j]=false:=by simpa using ‹(!XX x.l[j] y.l[j])=true›
 go_ret
 exact ⟨by rw [←HF.out];simp [KI _ _ j hlt hlt' hne],hbb⟩):p:=h
theorem q35 {p:Prop} (h:p:=by
 have hjl:j=x.l.length:=om
 go_wp2_with fail
 go_ret
 refine ⟨?_,hb⟩
 rw [←HF.out];simp [HK.out,HN.out,KG _ _ HLL.out fun i h h'=>HS.out i h h' om]):p:=h
theorem q37 {p:Prop} (h:p:=by
 go_wp2_with fail
 go_ret
 exact ⟨by rw [←hF];simp [KH _ _ hll],((Below.refl _ _).alloc sm _).alloc sm _⟩):p:=h
theorem q38 {p:Prop} (h:p:=by
 go_wp2_with fail
 go_ret
 exact ⟨by rw [←hF];simp [hk],((Below.refl _ _).alloc sm _).alloc sm _⟩):p:=h
theorem q39 {p:Prop} (h:p:=by
 go_wp2_with fail
 go_ret
 exact ⟨by rw [←hF];simp [hn],((Below.refl _ _).alloc sm _).alloc sm _⟩):p:=h
set_option maxRecDepth 100000
theorem Zez (N:Nat):∀(x y:GV) (w:World) (A A':Nat→Prop) (m m':VA),Zg x≤N→okV x→okV y→RVs w A x.l m.a→RVs w A' y.l m'.a →
  Calls prog 33 #[VV x m,VV y m'] w fun e w'=>e=.returned (.bool (XX x y))∧Below w.heap.size w w':=by
 induction N with
 | zero=>intro x;have:=Zr x;intros;omega
 | succ N ih=>
  rintro x y w A A' ⟨ma,mc⟩ ⟨ma',mc'⟩ hN ox oy hl hl'
  dsimp only at hl hl'
  have IH:=hid ih
  have HL:=hid hl
  have HL':=hid hl'
  rw [XZ] at hN
  clear hl hl' ih
  obtain ⟨⟨x1,x2⟩,⟨x3,x4⟩,x5,ox'⟩:=ZA.1 ox
  obtain ⟨⟨y1,y2⟩,⟨y3,y4⟩,y5,oy'⟩:=ZA.1 oy
  have O:=hid (And.intro ox' oy')
  clear ox oy ox' oy'
  rw [Zey]
  generalize hF:(x.k==y.k&&x.n==y.n&&XY x.l y.l)=F
  by_cases hk:x.k=y.k
  case neg=>
   have hk':(x.k != y.k)=true:=by simpa using hk
   go_enter func33,ntmps33
   exact q38
  have hk':(x.k != y.k)=false:=by simpa using hk
  have HK:=hid hk
  by_cases hn:x.n=y.n
  case neg=>
   have hn':(x.n != y.n)=true:=by simpa using hn
   clear hk
   go_enter func33,ntmps33
   exact q39
  have hn':(x.n != y.n)=false:=by simpa using hn
  have HN:=hid hn
  by_cases hll:x.l.length=y.l.length
  case neg=>
   have hll':((x.l.length:Int) != (y.l.length:Int))=true:=by simp;omega
   clear hk hn
   go_enter func33,ntmps33
   exact q37
  have hll':((x.l.length:Int) != (y.l.length:Int))=false:=by simp;omega
  have HLL:=hid hll
  clear hk hn hll
  have HF:=hid hF
  clear hF
  go_enter func33,ntmps33
  go_wp2_with fail
  go_loopg [31] (x.l.length) (fun gk i wr=>∃j:Nat,gk+j=x.l.length∧i=.int .i64 j∧Hid (∀q (h:q < x.l.length) (h':q < y.l.length),q < j→XX x.l[q] y.l[q]=true)∧Below w.heap.size w wr∧w.heap.size+1 < wr.heap.size∧wr.cell? ⟨w.heap.size+1,2,none⟩=some (.slice ma' y.l.length mc'))
  case atStart=>exact ⟨0,om,rfl,fun q h h' hq=>absurd hq om,((Below.refl _ _).alloc sm _).alloc sm _,sm,gs⟩
  case round=>
   obtain ⟨j,hj,rfl,HS,hb,hz,hcell⟩:=hrel
   by_cases hlt:j < x.l.length
   ·have hlt':j < y.l.length:=by have:=HLL.out;omega
    obtain ⟨b,o,mj,rfl,hA,hbs,g0,gx⟩:=HL.out.get j hlt
    obtain ⟨b',o',mj',rfl,hA',hbs',g0',gy⟩:=HL'.out.get j hlt'
    obtain ⟨k0,k1,k2⟩:=At3.1 (g0.ext (ZtY hb) (A:=fun _=>True) trivial)
    obtain ⟨k0',k1',k2'⟩:=At3.1 (g0'.ext (ZtY hb) (A:=fun _=>True) trivial)
    have hs1:b < wr.heap.size:=om
    have hs2:b' < wr.heap.size:=om
    clear hbs hbs' g0 g0'
    go_wp2_with fail
    refine Z0 6 kr kr ?_
    simp only [List.take_succ_cons,List.take_zero,List.drop_succ_cons,List.drop_zero]
    repeat still_step
    refine wpStill_nil ?_
    go_wp2_with (go_at_call 33;refine (IH.out x.l[j] y.l[j] _ A A' mj mj' (by have:=ZX x.l j hlt;omega) (O.out.1.get j hlt) (O.out.2.get j hlt')
      (by exact Zl.1 (Zt5 (ZtY (hb.alloc om _).drew) _ _ gx)) (by exact Zl.1 (Zt5 (ZtY (hb.alloc om _).drew) _ _ gy))).mono ?_;rintro e2 w2 ⟨rfl,hb2⟩)
    all_goals have hbb:Below w.heap.size w w2:=((hb.alloc om _).drew).trans (hb2.mono (by simp;omega))
    ·exact q33
    have hne:XX x.l[j] y.l[j]=true:=by simpa using ‹(!XX x.l[j] y.l[j])=false›
    have hz2:=hb2.size
    have hcell2:w2.cell? ⟨w.heap.size+1,2,none⟩=some (.slice (some ⟨b',o',none⟩) y.l.length mc'):=by
     rw [hb2.cell (by simp;omega)];go_simp
    go_roundg (gk - 1)
    case rel=>exact ⟨j+1,om,by go_num,fun q h h' hq=>(by
     by_cases hqj:q=j
     ·subst hqj;exact hne
     exact HS.out q h h' om),hbb,by simp at hz2;omega,hcell2⟩
    case measure=>omega
   exact q35
theorem QA (N:Nat):∀(x y:GV) (w:World) (A A':Nat→Prop) (m m':VA),Zg x≤N→okV x→okV y→RVs w A x.l m.a→RVs w A' y.l m'.a →
  Calls prog 52 #[VV x m,VV y m'] w fun e w'=>e=.returned (.bool (XX x y))∧Below w.heap.size w w':=by
 induction N with
 | zero=>intro x;have:=Zr x;intros;omega
 | succ N ih=>
  rintro x y w A A' ⟨ma,mc⟩ ⟨ma',mc'⟩ hN ox oy hl hl'
  dsimp only at hl hl'
  have IH:=hid ih
  have HL:=hid hl
  have HL':=hid hl'
  rw [XZ] at hN
  clear hl hl' ih
  obtain ⟨⟨x1,x2⟩,⟨x3,x4⟩,x5,ox'⟩:=ZA.1 ox
  obtain ⟨⟨y1,y2⟩,⟨y3,y4⟩,y5,oy'⟩:=ZA.1 oy
  have O:=hid (And.intro ox' oy')
  clear ox oy ox' oy'
  rw [Zey]
  generalize hF:(x.k==y.k&&x.n==y.n&&XY x.l y.l)=F
  by_cases hk:x.k=y.k
  case neg=>
   have hk':(x.k != y.k)=true:=by simpa using hk
   go_enter func52,ntmps52
   exact q38
  have hk':(x.k != y.k)=false:=by simpa using hk
  have HK:=hid hk
  by_cases hn:x.n=y.n
  case neg=>
   have hn':(x.n != y.n)=true:=by simpa using hn
   clear hk
   go_enter func52,ntmps52
   exact q39
  have hn':(x.n != y.n)=false:=by simpa using hn
  have HN:=hid hn
  by_cases hll:x.l.length=y.l.length
  case neg=>
   have hll':((x.l.length:Int) != (y.l.length:Int))=true:=by simp;omega
   clear hk hn
   go_enter func52,ntmps52
   exact q37
  have hll':((x.l.length:Int) != (y.l.length:Int))=false:=by simp;omega
  have HLL:=hid hll
  clear hk hn hll
  have HF:=hid hF
  clear hF
  go_enter func52,ntmps52
  go_wp2_with fail
  go_loopg [5] (x.l.length) (fun gk i wr=>∃j:Nat,gk+j=x.l.length∧i=.int .i64 j∧Hid (∀q (h:q < x.l.length) (h':q < y.l.length),q < j→XX x.l[q] y.l[q]=true)∧Below w.heap.size w wr∧w.heap.size+1 < wr.heap.size∧wr.cell? ⟨w.heap.size,2,none⟩=some (.slice ma x.l.length mc)∧wr.cell? ⟨w.heap.size+1,2,none⟩=some (.slice ma' y.l.length mc'))
  case atStart=>exact ⟨0,om,rfl,fun q h h' hq=>absurd hq om,((Below.refl _ _).alloc sm _).alloc sm _,sm,gs,gs⟩
  case round=>
   obtain ⟨j,hj,rfl,HS,hb,hz,hcx,hcell⟩:=hrel
   by_cases hlt:j < x.l.length
   ·have hlt':j < y.l.length:=by have:=HLL.out;omega
    obtain ⟨b,o,mj,rfl,hA,hbs,g0,gx⟩:=HL.out.get j hlt
    obtain ⟨b',o',mj',rfl,hA',hbs',g0',gy⟩:=HL'.out.get j hlt'
    obtain ⟨k0,k1,k2⟩:=At3.1 (g0.ext (ZtY hb) (A:=fun _=>True) trivial)
    obtain ⟨k0',k1',k2'⟩:=At3.1 (g0'.ext (ZtY hb) (A:=fun _=>True) trivial)
    have hs1:b < wr.heap.size:=om
    have hs2:b' < wr.heap.size:=om
    clear hbs hbs' g0 g0'
    go_wp2_with fail
    refine Z0 10 kr kr ?_
    simp only [List.take_succ_cons,List.take_zero,List.drop_succ_cons,List.drop_zero]
    repeat still_step
    refine wpStill_nil ?_
    go_wp2_with (go_at_call 52;refine (IH.out x.l[j] y.l[j] _ A A' mj mj' (by have:=ZX x.l j hlt;omega) (O.out.1.get j hlt) (O.out.2.get j hlt')
      (by exact Zl.1 (Zt5 (ZtY hb.drew) _ _ gx)) (by exact Zl.1 (Zt5 (ZtY hb.drew) _ _ gy))).mono ?_;rintro e2 w2 ⟨rfl,hb2⟩)
    all_goals have hbb:Below w.heap.size w w2:=hb.drew.trans (hb2.mono (by simp;omega))
    ·exact q33
    have hne:XX x.l[j] y.l[j]=true:=by simpa using ‹(!XX x.l[j] y.l[j])=false›
    have hz2:=hb2.size
    have hcell2:w2.cell? ⟨w.heap.size+1,2,none⟩=some (.slice (some ⟨b',o',none⟩) y.l.length mc'):=by
     rw [hb2.cell (by simp;omega)];go_simp
    have hcellx:w2.cell? ⟨w.heap.size,2,none⟩=some (.slice (some ⟨b,o,none⟩) x.l.length mc):=by
     rw [hb2.cell (by simp;omega)];go_simp
    go_roundg (gk - 1)
    case rel=>exact ⟨j+1,om,by go_num,fun q h h' hq=>(by
     by_cases hqj:q=j
     ·subst hqj;exact hne
     exact HS.out q h h' om),hbb,by simp at hz2;omega,hcellx,hcell2⟩
    case measure=>omega
   exact q35
set_option maxRecDepth 512
mutual
theorem U8:∀x:GV,XX x x=true
 | ⟨k,n,l⟩=>by simp only [XX,ZaC l,beq_self_eq_true,Bool.and_self]
theorem ZaC:∀l:List GV,XY l l=true
 | []=>rfl
 | x::l=>by simp only [XY,U8 x,ZaC l,Bool.and_self]
end
theorem Zhm (x:GV) (w:World) (A A':Nat→Prop) (m m':VA) (ox:okV x) (h1:RV w A x m.a) (h2:RV w A' x m'.a):
  Calls prog 33 #[VV x m,VV x m'] w fun e w'=>e=.returned (.bool true)∧Below w.heap.size w w':=by
 have h:=Zez (Zg x) x x w A A' m m' (Nat.le_refl _) ox ox (Zl.1 h1) (Zl.1 h2)
 rw [U8] at h
 exact h
def Zgd (w:World):Ending→World→Prop:=fun e w'=>(∃n:Int,e=.returned (.int .i64 n))∧Below w.heap.size w w'
def KY (w:World):Ending→World→Prop:=fun e w'=>(∃b:Bool,e=.returned (.bool b))∧Below w.heap.size w w'
set_option maxRecDepth 100000
set_option maxHeartbeats 1000000
theorem ZeH (N:Nat):∀(x:GV) (w:World) (A:Nat→Prop) (m:VA) (most:Int),Zg x≤N→okV x→RVs w A x.l m.a →
  Calls prog 53 #[VV x m,.int .i64 most] w (Zgd w):=by
 induction N with
 | zero=>intro x;have:=Zr x;intros;omega
 | succ N ih=>
  rintro x w A ⟨ma,mc⟩ most hN ox hl
  have IH:=hid ih
  have HL:=hid hl
  obtain ⟨_,_,hlen,oa⟩:=ZA.1 ox
  have O:=hid oa
  have hse:=XZ x
  clear ih hl ox oa
  go_enter func53,ntmps53
  go_wp2_with fail
  go_loopg [5,6] (x.l.length) (fun gk n i wr=>∃(j:Nat) (q:Int),gk+j=x.l.length∧i=.int .i64 j∧n=.int .i64 q∧Below w.heap.size w wr∧w.heap.size < wr.heap.size∧wr.cell? ⟨w.heap.size,2,none⟩=some (.slice ma x.l.length mc))
  case atStart=>exact ⟨0,1,om,rfl,rfl,ZtX,sm,gs⟩
  case round=>
   obtain ⟨j,q,hj,rfl,rfl,hb,hz,hcell⟩:=hrel
   by_cases hlt:j < x.l.length
   ·by_cases hq:q < most
    ·obtain ⟨b,o,mj,rfl,hA,hbs,g0,gx⟩:=HL.out.get j hlt
     obtain ⟨k0,k1,k2⟩:=At3.1 (g0.ext (ZtY hb) (A:=fun _=>True) trivial)
     have hs1:b < wr.heap.size:=om
     have hq1:=ZX x.l j hlt
     clear g0
     go_wp2_with (go_at_call 53;refine (IH.out x.l[j] _ A mj _ om (O.out.get j hlt) (by exact Zt8 az _ _ (Zl.1 gx))).mono ?_;rintro e w2 ⟨⟨n2,rfl⟩,hb2⟩)
     have hbb:Below w.heap.size w w2:=hb.trans (hb2.mono om)
     go_roundg (gk - 1)
     case measure=>omega
     case rel=>exact ⟨j+1,_,om,by go_num,rfl,hbb,by have:=hb2.size;omega,(hb2.cell (by simp;omega)).trans hcell⟩
    go_wp2_with fail
    go_ret
    exact ⟨⟨q,rfl⟩,hb⟩
   go_wp2_with fail
   go_ret
   exact ⟨⟨q,rfl⟩,hb⟩
theorem Ku (l:List GV) (w:World) (A:Nat→Prop) (a:Option Addr) (cp:Nat) (hlen:l.length≤1048576) (ol:okVs l) (hl:RVs w A l a):
  Calls prog 16 #[.slice a l.length cp] w (KY w):=by
 have HL:=hid hl
 have O:=hid ol
 clear hl ol
 go_enter func16,ntmps16
 go_wp2_with fail
 go_loopg [3,4] (l.length) (fun gk n i wr=>∃(j:Nat) (q:Int),gk+j=l.length∧i=.int .i64 j∧n=.int .i64 q∧Below w.heap.size w wr)
 case atStart=>exact ⟨0,0,om,rfl,rfl,ZtX⟩
 case round=>
  obtain ⟨j,q,hj,rfl,rfl,hb⟩:=hrel
  by_cases hlt:j < l.length
  ·by_cases hq:q < 6000
   ·obtain ⟨b,o,mj,rfl,hA,hbs,g0,gx⟩:=HL.out.get j hlt
    obtain ⟨k0,k1,k2⟩:=At3.1 (g0.ext (ZtY hb) (A:=fun _=>True) trivial)
    have hs1:b < wr.heap.size:=by have:=hb.size;omega
    clear g0
    go_wp2_with (go_at_call 53;refine (ZeH _ l[j] _ A mj _ (Nat.le_refl _) (O.out.get j hlt) (by exact Zt8 az _ _ (Zl.1 gx))).mono ?_;rintro e w2 ⟨⟨n2,rfl⟩,hb2⟩)
    have hbb:Below w.heap.size w w2:=hb.trans (hb2.mono (by have:=hb.size;omega))
    go_roundg (gk - 1)
    case measure=>omega
    case rel=>exact ⟨j+1,_,om,by go_num,rfl,hbb⟩
   go_wp2_with fail
   go_ret
   exact ⟨⟨_,rfl⟩,hb⟩
  go_wp2_with fail
  go_ret
  exact ⟨⟨_,rfl⟩,hb⟩
set_option maxRecDepth 512
theorem Zgc {w:World} {A:Nat→Prop} {x:GV} {m:VA} {b:Nat} (hA:A b) (hc:At w b 0 [.int .u8 x.k,.int .i64 x.n,.slice m.a x.l.length m.c]) (hr:RV w A x m.a) (hf:Fz w A b 0:=by exact ZaK _ _ _):RVs w A [x] (some ⟨b,0,none⟩):=by
 simp only [RVs]
 exact ⟨b,0,m,rfl,hA,hc,hr,trivial,hf⟩
set_option maxRecDepth 100000
theorem ZeI (N:Nat):∀(p:GP) (w:World) (A:Nat→Prop) (m:PA) (most:Int),Zm p≤N→okP p→RP w A p m →
  Calls prog 180 #[PV p m,.int .i64 most] w (Zgd w):=by
 induction N with
 | zero=>intro p;have:=ZS p;intros;omega
 | succ N ih=>
  rintro p w A ⟨ma,mc,mb,md⟩ most hN ox hl
  have IH:=hid ih
  have HL:=hid (Wn.1 hl).2
  have HV:=hid (Wn.1 hl).1
  obtain ⟨_,ov,_,hlen,oa⟩:=Y3.1 ox
  have O:=hid oa
  have OV:=hid ov
  have hse:=Wk p
  clear ih hl ox oa ov
  cases hv0:decide (0 < p.v.l.length)
  all_goals
   go_enter func180,ntmps180
   go_wp2_with (go_at_call 16;refine (Ku [p.v] _ (fun _=>True) (some ⟨w.heap.size+1,0,none⟩) 1 sm (by exact ⟨OV.out,trivial⟩) (by exact Zgc trivial (m:=⟨ma,mc⟩) (At3.2 ⟨gs,gs,gs⟩) (Zt9 (fun _ _ _=>trivial) _ _ (Zt5 az _ _ HV.out)))).mono ?_;rintro e w1 ⟨⟨b1,rfl⟩,hb1⟩;have hz1:=hb1.size;simp at hz1;have q3:w1.cell? ⟨w.heap.size,3,none⟩=some (.slice ma p.v.l.length mc):=(hb1.cell so).trans gs;have q5:w1.cell? ⟨w.heap.size,5,none⟩=some (.slice mb p.a.length md):=(hb1.cell so).trans gs;have hbw:Below w.heap.size w w1:=ZtX;cases b1)
   rotate_right
   ·go_ret
    exact ⟨⟨_,rfl⟩,ZtX⟩
   all_goals
    go_loopg [5,6] (p.a.length) (fun gk n i wr=>∃(j:Nat) (q:Int),gk+j=p.a.length∧i=.int .i64 j∧n=.int .i64 q∧Below w.heap.size w wr∧w.heap.size < wr.heap.size∧wr.cell? ⟨w.heap.size,5,none⟩=some (.slice mb p.a.length md))
    case atStart=>exact ⟨0,_,om,rfl,rfl,hbw,om,q5⟩
    case round=>
     obtain ⟨j,q,hj,rfl,rfl,hb,hz,hcell⟩:=hrel
     by_cases hlt:j < p.a.length
     ·by_cases hq:q < most
      ·obtain ⟨b,o,mj,rfl,hA,hbs,g0,gx⟩:=HL.out.get j hlt
       obtain ⟨k0,k1,k2,k3,k4,k5⟩:=At6.1 (g0.ext (ZtY hb) (A:=fun _=>True) trivial)
       have hs1:b < wr.heap.size:=om
       have hq1:=Xq p.a j hlt
       clear g0
       go_wp2_with (go_at_call 180;refine (IH.out p.a[j] _ A mj _ om (O.out.get j hlt) (by exact Zub az _ _ gx)).mono ?_;rintro e w2 ⟨⟨n2,rfl⟩,hb2⟩)
       have hbb:Below w.heap.size w w2:=hb.trans (hb2.mono om)
       go_roundg (gk - 1)
       case measure=>omega
       case rel=>exact ⟨j+1,_,om,by go_num,rfl,hbb,by have:=hb2.size;omega,(hb2.cell (by simp;omega)).trans hcell⟩
      go_wp2_with fail
      go_ret
      exact ⟨⟨q,rfl⟩,hb⟩
     go_wp2_with fail
     go_ret
     exact ⟨⟨q,rfl⟩,hb⟩
set_option maxRecDepth 512
theorem ZiT {w:World} {A:Nat→Prop} {x:GP} {m:PA} {b:Nat} (hA:A b) (hc:At w b 0 [.int .u8 x.k,.int .u8 x.v.k,.int .i64 x.v.n,.slice m.va x.v.l.length m.vc,.int .i64 x.n,.slice m.a x.a.length m.c]) (hr:RP w A x m):RPs w A [x] (some ⟨b,0,none⟩):=by
 simp only [RPs]
 exact ⟨b,0,m,rfl,hA,hc,hr,trivial⟩
set_option maxRecDepth 100000
theorem Zfb (l:List GP) (w:World) (A:Nat→Prop) (a:Option Addr) (cp:Nat) (hlen:l.length≤1048576) (ol:okPs l) (hl:RPs w A l a):
  Calls prog 111 #[.slice a l.length cp] w (KY w):=by
 have HL:=hid hl
 have O:=hid ol
 clear hl ol
 go_enter func111,ntmps111
 go_wp2_with fail
 go_loopg [3,4] (l.length) (fun gk n i wr=>∃(j:Nat) (q:Int),gk+j=l.length∧i=.int .i64 j∧n=.int .i64 q∧Below w.heap.size w wr)
 case atStart=>exact ⟨0,0,om,rfl,rfl,ZtX⟩
 case round=>
  obtain ⟨j,q,hj,rfl,rfl,hb⟩:=hrel
  by_cases hlt:j < l.length
  ·by_cases hq:q < 3000
   ·obtain ⟨b,o,mj,rfl,hA,hbs,g0,gx⟩:=HL.out.get j hlt
    obtain ⟨k0,k1,k2,k3,k4,k5⟩:=At6.1 (g0.ext (ZtY hb) (A:=fun _=>True) trivial)
    have hs1:b < wr.heap.size:=by have:=hb.size;omega
    clear g0
    go_wp2_with (go_at_call 180;refine (ZeI _ l[j] _ A mj _ (Nat.le_refl _) (O.out.get j hlt) (by exact Zub az _ _ gx)).mono ?_;rintro e w2 ⟨⟨n2,rfl⟩,hb2⟩)
    have hbb:Below w.heap.size w w2:=hb.trans (hb2.mono (by have:=hb.size;omega))
    go_roundg (gk - 1)
    case measure=>omega
    case rel=>exact ⟨j+1,_,om,by go_num,rfl,hbb⟩
   go_wp2_with fail
   go_ret
   exact ⟨⟨_,rfl⟩,hb⟩
  go_wp2_with fail
  go_ret
  exact ⟨⟨_,rfl⟩,hb⟩
set_option maxRecDepth 512
theorem ZiV {w:World} {A:Nat→Prop} {x:GT} {m:TA} {b:Nat} (hA:A b) (hc:At w b 0 [.int .u8 x.k,.int .u8 x.v.k,.int .i64 x.v.n,.slice m.va x.v.l.length m.vc,.slice m.vsa x.vs.length m.vsc,.int .i64 x.lo,.int .i64 x.hi,.slice m.wa x.w.length m.wc,.int .u8 x.p.k,.int .u8 x.p.v.k,.int .i64 x.p.v.n,.slice m.pva x.p.v.l.length m.pvc,.int .i64 x.p.n,.slice m.pa x.p.a.length m.pc,.slice m.a x.a.length m.c]) (hr:RT w A x m):RTs w A [x] (some ⟨b,0,none⟩):=by
 simp only [RTs]
 exact ⟨b,0,m,rfl,hA,hc,hr,trivial⟩
theorem Zfa (x:GV) (w:World) (A:Nat→Prop) (b:Nat) (m:VA) (ox:okV x) (hc:At w b 0 [.int .u8 x.k,.int .i64 x.n,.slice m.a x.l.length m.c]) (hr:RV w A x m.a):
  Calls prog 16 #[.slice (some ⟨b,0,none⟩) 1 1] w (KY w):=
 Ku [x] w (fun _=>True) (some ⟨b,0,none⟩) 1 sm ⟨ox,trivial⟩ (Zgc trivial hc (Zt9 (fun _ _ _=>trivial) _ _ hr))
theorem Zbw (x:GP) (w:World) (A:Nat→Prop) (b:Nat) (m:PA) (ox:okP x) (hc:At w b 0 [.int .u8 x.k,.int .u8 x.v.k,.int .i64 x.v.n,.slice m.va x.v.l.length m.vc,.int .i64 x.n,.slice m.a x.a.length m.c]) (hr:RP w A x m):
  Calls prog 111 #[.slice (some ⟨b,0,none⟩) 1 1] w (KY w):=
 Zfb [x] w (fun _=>True) (some ⟨b,0,none⟩) 1 sm ⟨ox,trivial⟩ (ZiT trivial hc (RP.mono (fun _ _ _=>trivial) _ _ hr))
set_option maxRecDepth 100000
set_option maxHeartbeats 2000000
theorem ZeJ (N:Nat):∀(t:GT) (w:World) (A:Nat→Prop) (m:TA) (most:Int),Zb t≤N→okT t→RT w A t m →
  Calls prog 74 #[TV t m,.int .i64 most] w (Zgd w):=by
 induction N with
 | zero=>intro t;have:=X8 t;intros;omega
 | succ N ih=>
  rintro t w A ⟨ma,mb,mc,md,me,mf,mg,mh,mi,mj,mk,ml⟩ most hN ox hl
  have IH:=hid ih
  obtain ⟨h1,h2,h3,h4,h5⟩:=Zo.1 hl
  have HV:=hid h1
  have HVS:=hid h2
  have HP:=hid h4
  have HL:=hid h5
  obtain ⟨_,ov,⟨ovl,ovs⟩,_,_,⟨owl,_⟩,op,hlen,oa⟩:=Ze.1 ox
  have O:=hid oa
  have OV:=hid ov
  have OVS:=hid ovs
  have OP:=hid op
  have hse:=Zq t
  clear ih hl ox oa ov ovs op h1 h2 h3 h4 h5
  cases hv0:decide (0 < t.v.l.length)
  all_goals cases hp0:(t.p.k != 0)
  all_goals by_cases hw2:(200:Int) < (t.w.length:Int)
  all_goals by_cases hv2:(200:Int) < (t.vs.length:Int)
  all_goals go_enter func74,ntmps74
  all_goals go_wp2_with (first
   | (go_at_call 16;(with_reducible refine (Zfa t.v _ A _ ⟨ma,mb⟩ OV.out (by exact (At3.2 ⟨gs,gs,gs⟩)) (by exact Zt5 az _ _ HV.out)).mono ?_);rintro e w1 ⟨⟨b1,rfl⟩,hb1⟩;obtain ⟨hc1,hf1⟩:=Za hb1;have hz1:=hb1.size;(try simp at hz1);have y1:w.heap.size < w1.heap.size:=om;cases b1)
   | (go_at_call 16;(with_reducible refine (Ku t.vs _ A mc md ovl OVS.out (by exact Zt8 az _ _ HVS.out)).mono ?_);rintro e w2 ⟨⟨b2,rfl⟩,hb2⟩;obtain ⟨hc2,hf2⟩:=Za hb2;have hz2:=hb2.size;(try simp at hz2);have y2:w.heap.size < w2.heap.size:=om;cases b2)
   | (go_at_call 111;(with_reducible refine (Zbw t.p _ A _ ⟨mg,mh,mi,mj⟩ OP.out (by exact (At6.2 ⟨gs,gs,gs,gs,gs,gs⟩)) (by exact Zub az _ _ HP.out)).mono ?_);rintro e w3 ⟨⟨b3,rfl⟩,hb3⟩;obtain ⟨hc3,hf3⟩:=Za hb3;have hz3:=hb3.size;(try simp at hz3);have y3:w.heap.size < w3.heap.size:=om;cases b3))
  all_goals try (go_ret;exact ⟨⟨_,rfl⟩,ZtX⟩)
  all_goals
   have hbw:Below w.heap.size w w3:=ZtX
   have q14:w3.cell? ⟨w.heap.size,14,none⟩=some (.slice mk t.a.length ml):=gs
   go_loopg [5,6] (t.a.length) (fun gk n i wr=>∃(j:Nat) (q:Int),gk+j=t.a.length∧i=.int .i64 j∧n=.int .i64 q∧Below w.heap.size w wr∧w.heap.size < wr.heap.size∧wr.cell? ⟨w.heap.size,14,none⟩=some (.slice mk t.a.length ml))
   case atStart=>exact ⟨0,_,om,rfl,rfl,hbw,om,q14⟩
   case round=>
    obtain ⟨j,q,hj,rfl,rfl,hb,hz,hcell⟩:=hrel
    by_cases hlt:j < t.a.length
    ·by_cases hq:q < most
     ·obtain ⟨b,o,mj',rfl,hA,hbs,g0,gx⟩:=HL.out.get j hlt
      obtain ⟨k0,k1,k2,k3,k4,k5,k6,k7,k8,k9,ka,kb,kc,kd,ke⟩:=Yp.1 (g0.ext (ZtY hb) (A:=fun _=>True) trivial)
      have hs1:b < wr.heap.size:=by have:=hb.size;omega
      have hq1:=ZD t.a j hlt
      clear g0
      go_wp2_with (go_at_call 74;refine (IH.out t.a[j] _ A mj' _ om (O.out.get j hlt) (by exact Zt2 az _ _ gx)).mono ?_;rintro e w4 ⟨⟨n2,rfl⟩,hb4⟩)
      have hbb:Below w.heap.size w w4:=hb.trans (hb4.mono om)
      go_roundg (gk - 1)
      case measure=>omega
      case rel=>exact ⟨j+1,_,om,by go_num,rfl,hbb,by have:=hb4.size;omega,(hb4.cell (by simp;omega)).trans hcell⟩
     go_wp2_with fail
     go_ret
     exact ⟨⟨q,rfl⟩,hb⟩
    go_wp2_with fail
    go_ret
    exact ⟨⟨q,rfl⟩,hb⟩
theorem Zfc (l:List GT) (w:World) (A:Nat→Prop) (a:Option Addr) (cp:Nat) (hlen:l.length≤1048576) (ol:okTs l) (hl:RTs w A l a):
  Calls prog 44 #[.slice a l.length cp] w (KY w):=by
 have HL:=hid hl
 have O:=hid ol
 clear hl ol
 go_enter func44,ntmps44
 go_wp2_with fail
 go_loopg [3,4] (l.length) (fun gk n i wr=>∃(j:Nat) (q:Int),gk+j=l.length∧i=.int .i64 j∧n=.int .i64 q∧Below w.heap.size w wr)
 case atStart=>exact ⟨0,0,om,rfl,rfl,ZtX⟩
 case round=>
  obtain ⟨j,q,hj,rfl,rfl,hb⟩:=hrel
  by_cases hlt:j < l.length
  ·by_cases hq:q < 1500
   ·obtain ⟨b,o,mj',rfl,hA,hbs,g0,gx⟩:=HL.out.get j hlt
    obtain ⟨k0,k1,k2,k3,k4,k5,k6,k7,k8,k9,ka,kb,kc,kd,ke⟩:=Yp.1 (g0.ext (ZtY hb) (A:=fun _=>True) trivial)
    have hs1:b < wr.heap.size:=by have:=hb.size;omega
    clear g0
    go_wp2_with (go_at_call 74;refine (ZeJ _ l[j] _ A mj' _ (Nat.le_refl _) (O.out.get j hlt) (by exact Zt2 az _ _ gx)).mono ?_;rintro e w2 ⟨⟨n2,rfl⟩,hb2⟩)
    have hbb:Below w.heap.size w w2:=hb.trans (hb2.mono (by have:=hb.size;omega))
    go_roundg (gk - 1)
    case measure=>omega
    case rel=>exact ⟨j+1,_,om,by go_num,rfl,hbb⟩
   go_wp2_with fail
   go_ret
   exact ⟨⟨_,rfl⟩,hb⟩
  go_wp2_with fail
  go_ret
  exact ⟨⟨_,rfl⟩,hb⟩
end Go.Proofs.YtkdffbdnjfgpeaaGreat
