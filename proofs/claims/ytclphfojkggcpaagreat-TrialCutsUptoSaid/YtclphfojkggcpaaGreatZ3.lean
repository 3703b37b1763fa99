/- What the proofs of the Trial statements need: part 4. -/
import Derived.Test.YtclphfojkggcpaaGreatProg
import Derived.Test.YtclphfojkggcpaaGreatZ0
set_option linter.unusedVariables false
set_option linter.unusedSimpArgs false
namespace Go.Proofs.YtclphfojkggcpaaGreat
open Go.Lib (hid)
open Go Go.RowKit
theorem ret_int {k:IntKind} {a b:Int} (h:a=b):Ending.returned (.int k a)=.returned (.int k b):=by rw [h]
theorem ret_bool {a b:Bool} (h:a=b):Ending.returned (.bool a)=.returned (.bool b):=by rw [h]
theorem ret_ii {j k:IntKind} {a b c d:Int} (h:a=c) (h':b=d):Ending.returned (.tuple #[.int j a,.int k b])=.returned (.tuple #[.int j c,.int k d]):=by rw [h,h']
def nodeV (x:GV):Int:=
 if x.k=1 then (if x.n < -1099511627776∨1099511627776 < x.n then 1 else if 0 < (x.l.length:Int) then 3 else 0)
 else if x.k=2 then (if x.n≠0∧x.n≠1 then 1 else if 0 < (x.l.length:Int) then 3 else 0)
 else if x.k=3∨x.k=4 then (if x.n≠0 then 3 else if 64 < (x.l.length:Int) then 5 else 0)
 else 11
def leafB (k:Int):Bool:=k==1||k==2
theorem leaf_any (k:Int) (w:World) (hk:isU8 k):Calls Tryz.prog 164 #[.int .u8 k] w fun e w'=>e=.returned (.bool (leafB k))∧w=w':=by
 obtain ⟨h0,h1⟩:=hk
 generalize hF:leafB k=F
 have HF:=hid hF
 clear hF
 go_enter Tryz.func164,Tryz.ntmps164
 go_wp2_with fail
 all_goals go_ret
 all_goals exact ⟨ret_bool (by rw [←HF.out];simp [leafB, *]),rfl⟩
set_option maxRecDepth 100000 in
theorem wrong_any (x:GV) (m:VA) (w:World) (ox:isU8 x.k∧isI64 x.n∧x.l.length≤1048576):
  Calls Tryz.prog 148 #[VV x m] w fun e w'=>e=.returned (.int .i64 (nodeV x))∧Below w.heap.size w w':=by
 obtain ⟨⟨x1,x2⟩,⟨x3,x4⟩,x5⟩:=ox
 obtain ⟨ma,mc⟩:=m
 have hu8:=hid (show isU8 x.k from ⟨x1,x2⟩)
 generalize hF:nodeV x=F
 have HF:=hid hF
 clear hF
 go_enter Tryz.func148,Tryz.ntmps148
 go_wp2_with (go_at_call 164;refine (leaf_any _ _ hu8.out).mono ?_;rintro e w' ⟨rfl,rfl⟩)
 all_goals go_ret
 all_goals refine ⟨ret_int ?_,Below.z⟩
 all_goals rw [←HF.out]
 all_goals unfold nodeV
 all_goals (try unfold leafB at *)
 all_goals (first|rfl|omega|((try simp only [beq_iff_eq,beq_eq_false_iff_ne,bne_iff_ne,bne_eq_false_iff_eq,decide_eq_true_eq,decide_eq_false_iff_not,ne_eq,Bool.and_eq_true,Bool.or_eq_true,Bool.and_eq_false_iff,Bool.or_eq_false_iff,Bool.not_eq_true',Bool.not_eq_false'] at *);(repeat' split)<;>first|rfl|omega|contradiction|(simp_all;done)|(simp_all;omega)))
def noneV (x:GV):Bool:=x.k==0&&x.n==0&&(x.l.length:Int)==0
set_option maxRecDepth 100000 in
theorem none_any (x:GV) (m:VA) (w:World) (ox:isU8 x.k∧isI64 x.n∧x.l.length≤1048576):
  Calls Tryz.prog 120 #[VV x m] w fun e w'=>e=.returned (.bool (noneV x))∧Below w.heap.size w w':=by
 obtain ⟨⟨x1,x2⟩,⟨x3,x4⟩,x5⟩:=ox
 obtain ⟨ma,mc⟩:=m
 generalize hF:noneV x=F
 have HF:=hid hF
 clear hF
 go_enter Tryz.func120,Tryz.ntmps120
 go_wp2_with fail
 all_goals go_ret
 all_goals refine ⟨ret_bool ?_,Below.z⟩
 all_goals rw [←HF.out]
 all_goals unfold noneV
 all_goals (first|(simp;done)|(simp [*];done)|(simp_all;done)|(simp_all;omega)|(simp;omega))
set_option maxRecDepth 100000 in
theorem tnone_any (x:GV) (m:VA) (w:World) (ox:isU8 x.k∧isI64 x.n∧x.l.length≤1048576):
  Calls Tryz.prog 152 #[VV x m] w fun e w'=>e=.returned (.bool (noneV x))∧Below w.heap.size w w':=by
 obtain ⟨⟨x1,x2⟩,⟨x3,x4⟩,x5⟩:=ox
 obtain ⟨ma,mc⟩:=m
 generalize hF:noneV x=F
 have HF:=hid hF
 clear hF
 go_enter Tryz.func152,Tryz.ntmps152
 go_wp2_with fail
 all_goals go_ret
 all_goals refine ⟨ret_bool ?_,Below.z⟩
 all_goals rw [←HF.out]
 all_goals unfold noneV
 all_goals (first|(simp;done)|(simp [*];done)|(simp_all;done)|(simp_all;omega)|(simp;omega))
set_option maxRecDepth 100000 in
theorem r19none_any (x:GV) (m:VA) (w:World) (ox:isU8 x.k∧isI64 x.n∧x.l.length≤1048576):
  Calls Tryz.prog 107 #[VV x m] w fun e w'=>e=.returned (.bool (noneV x))∧Below w.heap.size w w':=by
 obtain ⟨⟨x1,x2⟩,⟨x3,x4⟩,x5⟩:=ox
 obtain ⟨ma,mc⟩:=m
 generalize hF:noneV x=F
 have HF:=hid hF
 clear hF
 go_enter Tryz.func107,Tryz.ntmps107
 go_wp2_with fail
 all_goals go_ret
 all_goals refine ⟨ret_bool ?_,Below.z⟩
 all_goals rw [←HF.out]
 all_goals unfold noneV
 all_goals (first|(simp;done)|(simp [*];done)|(simp_all;done)|(simp_all;omega)|(simp;omega))
set_option maxRecDepth 100000 in
theorem r17none_any (x:GV) (m:VA) (w:World) (ox:isU8 x.k∧isI64 x.n∧x.l.length≤1048576):
  Calls Tryz.prog 110 #[VV x m] w fun e w'=>e=.returned (.bool (noneV x))∧Below w.heap.size w w':=by
 obtain ⟨⟨x1,x2⟩,⟨x3,x4⟩,x5⟩:=ox
 obtain ⟨ma,mc⟩:=m
 generalize hF:noneV x=F
 have HF:=hid hF
 clear hF
 go_enter Tryz.func110,Tryz.ntmps110
 go_wp2_with fail
 all_goals go_ret
 all_goals refine ⟨ret_bool ?_,Below.z⟩
 all_goals rw [←HF.out]
 all_goals unfold noneV
 all_goals (first|(simp;done)|(simp [*];done)|(simp_all;done)|(simp_all;omega)|(simp;omega))
def hasValueB (k:Int):Bool:=k==3||k==4
theorem hasValue_any (k:Int) (w:World) (hk:isU8 k):Calls Tryz.prog 83 #[.int .u8 k] w fun e w'=>e=.returned (.bool (hasValueB k))∧Below w.heap.size w w':=by
 obtain ⟨h0,h1⟩:=hk
 generalize hF:hasValueB k=F
 have HF:=hid hF
 clear hF
 go_enter Tryz.func83,Tryz.ntmps83
 go_wp2_with fail
 all_goals go_ret
 all_goals refine ⟨ret_bool ?_,Below.z⟩
 all_goals rw [←HF.out]
 all_goals unfold hasValueB
 all_goals (first|(simp;done)|(simp [*];done)|(simp_all;done)|(simp_all;omega)|(simp;omega))
def rowB (k:Int):Bool:=k==3||k==4
set_option maxRecDepth 100000 in
theorem row_any (x:GV) (m:VA) (w:World) (hk:isU8 x.k):Calls Tryz.prog 217 #[VV x m] w fun e w'=>e=.returned (.bool (rowB x.k))∧Below w.heap.size w w':=by
 obtain ⟨h0,h1⟩:=hk
 obtain ⟨ma,mc⟩:=m
 generalize hF:rowB x.k=F
 have HF:=hid hF
 clear hF
 go_enter Tryz.func217,Tryz.ntmps217
 go_wp2_with fail
 all_goals go_ret
 all_goals refine ⟨ret_bool ?_,Below.z⟩
 all_goals rw [←HF.out]
 all_goals unfold rowB
 all_goals (first|(simp;done)|(simp [*];done)|(simp_all;done)|(simp_all;omega)|(simp;omega))
set_option maxRecDepth 100000 in
theorem r17row_any (x:GV) (m:VA) (w:World) (hk:isU8 x.k):Calls Tryz.prog 55 #[VV x m] w fun e w'=>e=.returned (.bool (rowB x.k))∧Below w.heap.size w w':=by
 obtain ⟨h0,h1⟩:=hk
 obtain ⟨ma,mc⟩:=m
 generalize hF:rowB x.k=F
 have HF:=hid hF
 clear hF
 go_enter Tryz.func55,Tryz.ntmps55
 go_wp2_with fail
 all_goals go_ret
 all_goals refine ⟨ret_bool ?_,Below.z⟩
 all_goals rw [←HF.out]
 all_goals unfold rowB
 all_goals (first|(simp;done)|(simp [*];done)|(simp_all;done)|(simp_all;omega)|(simp;omega))
def unlessE (b:Bool):Int:=if b then 0 else 3
theorem unless_any (b:Bool) (w:World):Calls Tryz.prog 151 #[.bool b] w fun e w'=>e=.returned (.int .i64 (unlessE b))∧Below w.heap.size w w':=by
 generalize hF:unlessE b=F
 have HF:=hid hF
 clear hF
 cases b
 ·go_enter Tryz.func151,Tryz.ntmps151
  go_wp2_with fail
  all_goals go_ret
  all_goals refine ⟨ret_int ?_,Below.z⟩
  all_goals rw [←HF.out]
  all_goals unfold unlessE
  all_goals (first|rfl|omega|((try simp only [beq_iff_eq,beq_eq_false_iff_ne,bne_iff_ne,bne_eq_false_iff_eq,decide_eq_true_eq,decide_eq_false_iff_not,ne_eq,Bool.and_eq_true,Bool.or_eq_true,Bool.and_eq_false_iff,Bool.or_eq_false_iff,Bool.not_eq_true',Bool.not_eq_false'] at *);(repeat' split)<;>first|rfl|omega|contradiction|(simp_all;done)|(simp_all;omega)))
 ·go_enter Tryz.func151,Tryz.ntmps151
  go_wp2_with fail
  all_goals go_ret
  all_goals refine ⟨ret_int ?_,Below.z⟩
  all_goals rw [←HF.out]
  all_goals unfold unlessE
  all_goals (first|rfl|omega|((try simp only [beq_iff_eq,beq_eq_false_iff_ne,bne_iff_ne,bne_eq_false_iff_eq,decide_eq_true_eq,decide_eq_false_iff_not,ne_eq,Bool.and_eq_true,Bool.or_eq_true,Bool.and_eq_false_iff,Bool.or_eq_false_iff,Bool.not_eq_true',Bool.not_eq_false'] at *);(repeat' split)<;>first|rfl|omega|contradiction|(simp_all;done)|(simp_all;omega)))
def withinB (n a b:Int):Bool:=decide (a≤n)&&decide (n≤b)
theorem within_any (n a b:Int) (w:World) (hn:isI64 n) (ha:isI64 a) (hb:isI64 b):Calls Tryz.prog 154 #[.int .i64 n,.int .i64 a,.int .i64 b] w fun e w'=>e=.returned (.bool (withinB n a b))∧Below w.heap.size w w':=by
 obtain ⟨h0,h1⟩:=hn
 obtain ⟨h2,h3⟩:=ha
 obtain ⟨h4,h5⟩:=hb
 generalize hF:withinB n a b=F
 have HF:=hid hF
 clear hF
 go_enter Tryz.func154,Tryz.ntmps154
 go_wp2_with fail
 all_goals go_ret
 all_goals refine ⟨ret_bool ?_,Below.z⟩
 all_goals rw [←HF.out]
 all_goals unfold withinB
 all_goals (first|(simp;done)|(simp [*];done)|(simp_all;done)|(simp_all;omega)|(simp;omega))
def manyE (n a b:Int):Int:=if n < a then 4 else if b < n then 5 else 0
theorem many_any (n a b:Int) (w:World) (hn:isI64 n) (ha:isI64 a) (hb:isI64 b):Calls Tryz.prog 155 #[.int .i64 n,.int .i64 a,.int .i64 b] w fun e w'=>e=.returned (.int .i64 (manyE n a b))∧Below w.heap.size w w':=by
 obtain ⟨h0,h1⟩:=hn
 obtain ⟨h2,h3⟩:=ha
 obtain ⟨h4,h5⟩:=hb
 generalize hF:manyE n a b=F
 have HF:=hid hF
 clear hF
 go_enter Tryz.func155,Tryz.ntmps155
 go_wp2_with fail
 all_goals go_ret
 all_goals refine ⟨ret_int ?_,Below.z⟩
 all_goals rw [←HF.out]
 all_goals unfold manyE
 all_goals (first|rfl|omega|((try simp only [beq_iff_eq,beq_eq_false_iff_ne,bne_iff_ne,bne_eq_false_iff_eq,decide_eq_true_eq,decide_eq_false_iff_not,ne_eq,Bool.and_eq_true,Bool.or_eq_true,Bool.and_eq_false_iff,Bool.or_eq_false_iff,Bool.not_eq_true',Bool.not_eq_false'] at *);(repeat' split)<;>first|rfl|omega|contradiction|(simp_all;done)|(simp_all;omega)))
theorem r19many_any (n a b:Int) (w:World) (hn:isI64 n) (ha:isI64 a) (hb:isI64 b):Calls Tryz.prog 68 #[.int .i64 n,.int .i64 a,.int .i64 b] w fun e w'=>e=.returned (.int .i64 (manyE n a b))∧Below w.heap.size w w':=by
 obtain ⟨h0,h1⟩:=hn
 obtain ⟨h2,h3⟩:=ha
 obtain ⟨h4,h5⟩:=hb
 generalize hF:manyE n a b=F
 have HF:=hid hF
 clear hF
 go_enter Tryz.func68,Tryz.ntmps68
 go_wp2_with fail
 all_goals go_ret
 all_goals refine ⟨ret_int ?_,Below.z⟩
 all_goals rw [←HF.out]
 all_goals unfold manyE
 all_goals (first|rfl|omega|((try simp only [beq_iff_eq,beq_eq_false_iff_ne,bne_iff_ne,bne_eq_false_iff_eq,decide_eq_true_eq,decide_eq_false_iff_not,ne_eq,Bool.and_eq_true,Bool.or_eq_true,Bool.and_eq_false_iff,Bool.or_eq_false_iff,Bool.not_eq_true',Bool.not_eq_false'] at *);(repeat' split)<;>first|rfl|omega|contradiction|(simp_all;done)|(simp_all;omega)))
mutual
def sameV:GV→GV→Bool
 | ⟨k,n,l⟩,⟨k',n',l'⟩=>k==k'&&n==n'&&sameVs l l'
def sameVs:List GV→List GV→Bool
 | [],[]=>true
 | x::l,y::l'=>sameV x y&&sameVs l l'
 | _,_=>false
end
theorem sameV_eq (x y:GV):sameV x y=(x.k==y.k&&x.n==y.n&&sameVs x.l y.l):=by cases x;cases y;simp only [sameV]
theorem sameVs_len:∀(l l':List GV),l.length≠l'.length→sameVs l l'=false
 | [],[],h=>absurd rfl h
 | [],_::_,_=>by simp [sameVs]
 | _::_,[],_=>by simp [sameVs]
 | x::l,y::l',h=>by simp [sameVs,sameVs_len l l' (by simpa using h)]
theorem sameVs_all:∀(l l':List GV),l.length=l'.length→(∀i (h:i < l.length) (h':i < l'.length),sameV l[i] l'[i]=true)→sameVs l l'=true
 | [],[],_,_=>by simp [sameVs]
 | x::l,y::l',h,g=>by
  have g0:=g 0 (by simp) (by simp)
  simp at g0
  simp only [sameVs,g0,Bool.true_and]
  exact sameVs_all l l' (by simpa using h) fun i hi hi'=>by have:=g (i+1) (by simpa using hi) (by simpa using hi');simpa only [List.getElem_cons_succ] using this
theorem sameVs_one:∀(l l':List GV) i (h:i < l.length) (h':i < l'.length),sameV l[i] l'[i]=false→sameVs l l'=false
 | x::l,y::l',0,_,_,g=>by simp at g;simp [sameVs,g]
 | x::l,y::l',i+1,h,h',g=>by
  have:=sameVs_one l l' i (by simpa using h) (by simpa using h') (by simpa using g)
  simp [sameVs,this]
set_option maxRecDepth 100000 in
theorem same_any (N:Nat):∀(x y:GV) (w:World) (A A':Nat→Prop) (m m':VA),sizeV x≤N→okV x→okV y→RVs w A x.l m.a→RVs w A' y.l m'.a →
  Calls Tryz.prog 208 #[VV x m,VV y m'] w fun e w'=>e=.returned (.bool (sameV x y))∧Below w.heap.size w w':=by
 induction N with
 | zero=>intro x;have:=sizeV_pos x;intros;omega
 | succ N ih=>
  rintro x y w A A' ⟨ma,mc⟩ ⟨ma',mc'⟩ hN ox oy hl hl'
  dsimp only at hl hl'
  have IH:=hid ih
  have HL:=hid hl
  have HL':=hid hl'
  rw [sizeV_eq] at hN
  clear hl hl' ih
  obtain ⟨⟨x1,x2⟩,⟨x3,x4⟩,x5,ox'⟩:=okV_iff.1 ox
  obtain ⟨⟨y1,y2⟩,⟨y3,y4⟩,y5,oy'⟩:=okV_iff.1 oy
  have O:=hid (And.intro ox' oy')
  clear ox oy ox' oy'
  rw [sameV_eq]
  generalize hF:(x.k==y.k&&x.n==y.n&&sameVs x.l y.l)=F
  by_cases hk:x.k=y.k
  case neg=>
   have hk':(x.k != y.k)=true:=by simpa using hk
   go_enter Tryz.func208,Tryz.ntmps208
   go_wp2_with fail
   go_ret
   exact ⟨by rw [←hF];simp [hk],((Below.refl _ _).alloc (by simp) _).alloc (by simp) _⟩
  have hk':(x.k != y.k)=false:=by simpa using hk
  have HK:=hid hk
  by_cases hn:x.n=y.n
  case neg=>
   have hn':(x.n != y.n)=true:=by simpa using hn
   clear hk
   go_enter Tryz.func208,Tryz.ntmps208
   go_wp2_with fail
   go_ret
   exact ⟨by rw [←hF];simp [hn],((Below.refl _ _).alloc (by simp) _).alloc (by simp) _⟩
  have hn':(x.n != y.n)=false:=by simpa using hn
  have HN:=hid hn
  by_cases hll:x.l.length=y.l.length
  case neg=>
   have hll':((x.l.length:Int) != (y.l.length:Int))=true:=by simp;omega
   clear hk hn
   go_enter Tryz.func208,Tryz.ntmps208
   go_wp2_with fail
   go_ret
   exact ⟨by rw [←hF];simp [sameVs_len _ _ hll],((Below.refl _ _).alloc (by simp) _).alloc (by simp) _⟩
  have hll':((x.l.length:Int) != (y.l.length:Int))=false:=by simp;omega
  have HLL:=hid hll
  clear hk hn hll
  have HF:=hid hF
  clear hF
  go_enter Tryz.func208,Tryz.ntmps208
  go_wp2_with fail
  go_loopg [31] (x.l.length) (fun gk i wr=>∃j:Nat,gk+j=x.l.length∧i=.int .i64 j∧Hid (∀q (h:q < x.l.length) (h':q < y.l.length),q < j→sameV x.l[q] y.l[q]=true)∧Below w.heap.size w wr∧w.heap.size+1 < wr.heap.size∧wr.cell? ⟨w.heap.size+1,2,none⟩=some (.slice ma' y.l.length mc'))
  case atStart=>exact ⟨0,by omega,rfl,fun q h h' hq=>absurd hq (by omega),((Below.refl _ _).alloc (by simp) _).alloc (by simp) _,by simp,by go_simp⟩
  case round=>
   obtain ⟨j,hj,rfl,HS,hb,hz,hcell⟩:=hrel
   by_cases hlt:j < x.l.length
   ·have hlt':j < y.l.length:=by have:=HLL.out;omega
    obtain ⟨b,o,mj,rfl,hA,hbs,g0,gx⟩:=HL.out.get j hlt
    obtain ⟨b',o',mj',rfl,hA',hbs',g0',gy⟩:=HL'.out.get j hlt'
    obtain ⟨k0,k1,k2⟩:=At3.1 (g0.ext (Agree.below hb) (A:=fun _=>True) trivial)
    obtain ⟨k0',k1',k2'⟩:=At3.1 (g0'.ext (Agree.below hb) (A:=fun _=>True) trivial)
    have hs1:b < wr.heap.size:=by omega
    have hs2:b' < wr.heap.size:=by omega
    clear hbs hbs' g0 g0'
    go_wp2_with fail
    refine wp_tail 6 (by kernel_rfl) (by kernel_rfl) ?_
    simp only [List.take_succ_cons,List.take_zero,List.drop_succ_cons,List.drop_zero]
    repeat still_step
    refine wpStill_nil ?_
    go_wp2_with (go_at_call 208;refine (IH.out x.l[j] y.l[j] _ A A' mj mj' (by have:=sizeVs_get x.l j hlt;omega) (O.out.1.get j hlt) (O.out.2.get j hlt')
      (by exact RV_iff.1 (RV.ext (Agree.below (hb.alloc (by omega) _).drew) _ _ gx)) (by exact RV_iff.1 (RV.ext (Agree.below (hb.alloc (by omega) _).drew) _ _ gy))).mono ?_;rintro e2 w2 ⟨rfl,hb2⟩)
    all_goals have hbb:Below w.heap.size w w2:=((hb.alloc (by omega) _).drew).trans (hb2.mono (by simp;omega))
    ·have hne:sameV x.l[j] y.l[j]=false:=by simpa using ‹(!sameV x.l[j] y.l[j])=true›
     go_ret
     exact ⟨by rw [←HF.out];simp [sameVs_one _ _ j hlt hlt' hne],hbb⟩
    ·have hne:sameV x.l[j] y.l[j]=true:=by simpa using ‹(!sameV x.l[j] y.l[j])=false›
     have hz2:=hb2.size
     have hcell2:w2.cell? ⟨w.heap.size+1,2,none⟩=some (.slice (some ⟨b',o',none⟩) y.l.length mc'):=by
      rw [hb2.cell (by simp;omega)];go_simp
     go_roundg (gk - 1)
     case rel=>exact ⟨j+1,by omega,by go_num,fun q h h' hq=>(by
      by_cases hqj:q=j
      ·subst hqj;exact hne
      ·exact HS.out q h h' (by omega)),hbb,by simp at hz2;omega,hcell2⟩
     case measure=>omega
   ·have hjl:j=x.l.length:=by omega
    go_wp2_with fail
    go_ret
    refine ⟨?_,hb⟩
    rw [←HF.out];simp [HK.out,HN.out,sameVs_all _ _ HLL.out fun i h h'=>HS.out i h h' (by omega)]
set_option maxRecDepth 100000 in
theorem r14same_any (N:Nat):∀(x y:GV) (w:World) (A A':Nat→Prop) (m m':VA),sizeV x≤N→okV x→okV y→RVs w A x.l m.a→RVs w A' y.l m'.a →
  Calls Tryz.prog 25 #[VV x m,VV y m'] w fun e w'=>e=.returned (.bool (sameV x y))∧Below w.heap.size w w':=by
 induction N with
 | zero=>intro x;have:=sizeV_pos x;intros;omega
 | succ N ih=>
  rintro x y w A A' ⟨ma,mc⟩ ⟨ma',mc'⟩ hN ox oy hl hl'
  dsimp only at hl hl'
  have IH:=hid ih
  have HL:=hid hl
  have HL':=hid hl'
  rw [sizeV_eq] at hN
  clear hl hl' ih
  obtain ⟨⟨x1,x2⟩,⟨x3,x4⟩,x5,ox'⟩:=okV_iff.1 ox
  obtain ⟨⟨y1,y2⟩,⟨y3,y4⟩,y5,oy'⟩:=okV_iff.1 oy
  have O:=hid (And.intro ox' oy')
  clear ox oy ox' oy'
  rw [sameV_eq]
  generalize hF:(x.k==y.k&&x.n==y.n&&sameVs x.l y.l)=F
  by_cases hk:x.k=y.k
  case neg=>
   have hk':(x.k != y.k)=true:=by simpa using hk
   go_enter Tryz.func25,Tryz.ntmps25
   go_wp2_with fail
   go_ret
   exact ⟨by rw [←hF];simp [hk],((Below.refl _ _).alloc (by simp) _).alloc (by simp) _⟩
  have hk':(x.k != y.k)=false:=by simpa using hk
  have HK:=hid hk
  by_cases hn:x.n=y.n
  case neg=>
   have hn':(x.n != y.n)=true:=by simpa using hn
   clear hk
   go_enter Tryz.func25,Tryz.ntmps25
   go_wp2_with fail
   go_ret
   exact ⟨by rw [←hF];simp [hn],((Below.refl _ _).alloc (by simp) _).alloc (by simp) _⟩
  have hn':(x.n != y.n)=false:=by simpa using hn
  have HN:=hid hn
  by_cases hll:x.l.length=y.l.length
  case neg=>
   have hll':((x.l.length:Int) != (y.l.length:Int))=true:=by simp;omega
   clear hk hn
   go_enter Tryz.func25,Tryz.ntmps25
   go_wp2_with fail
   go_ret
   exact ⟨by rw [←hF];simp [sameVs_len _ _ hll],((Below.refl _ _).alloc (by simp) _).alloc (by simp) _⟩
  have hll':((x.l.length:Int) != (y.l.length:Int))=false:=by simp;omega
  have HLL:=hid hll
  clear hk hn hll
  have HF:=hid hF
  clear hF
  go_enter Tryz.func25,Tryz.ntmps25
  go_wp2_with fail
  go_loopg [5] (x.l.length) (fun gk i wr=>∃j:Nat,gk+j=x.l.length∧i=.int .i64 j∧Hid (∀q (h:q < x.l.length) (h':q < y.l.length),q < j→sameV x.l[q] y.l[q]=true)∧Below w.heap.size w wr∧w.heap.size+1 < wr.heap.size∧wr.cell? ⟨w.heap.size,2,none⟩=some (.slice ma x.l.length mc)∧wr.cell? ⟨w.heap.size+1,2,none⟩=some (.slice ma' y.l.length mc'))
  case atStart=>exact ⟨0,by omega,rfl,fun q h h' hq=>absurd hq (by omega),((Below.refl _ _).alloc (by simp) _).alloc (by simp) _,by simp,by go_simp,by go_simp⟩
  case round=>
   obtain ⟨j,hj,rfl,HS,hb,hz,hcx,hcell⟩:=hrel
   by_cases hlt:j < x.l.length
   ·have hlt':j < y.l.length:=by have:=HLL.out;omega
    obtain ⟨b,o,mj,rfl,hA,hbs,g0,gx⟩:=HL.out.get j hlt
    obtain ⟨b',o',mj',rfl,hA',hbs',g0',gy⟩:=HL'.out.get j hlt'
    obtain ⟨k0,k1,k2⟩:=At3.1 (g0.ext (Agree.below hb) (A:=fun _=>True) trivial)
    obtain ⟨k0',k1',k2'⟩:=At3.1 (g0'.ext (Agree.below hb) (A:=fun _=>True) trivial)
    have hs1:b < wr.heap.size:=by omega
    have hs2:b' < wr.heap.size:=by omega
    clear hbs hbs' g0 g0'
    go_wp2_with fail
    refine wp_tail 10 (by kernel_rfl) (by kernel_rfl) ?_
    simp only [List.take_succ_cons,List.take_zero,List.drop_succ_cons,List.drop_zero]
    repeat still_step
    refine wpStill_nil ?_
    go_wp2_with (go_at_call 25;refine (IH.out x.l[j] y.l[j] _ A A' mj mj' (by have:=sizeVs_get x.l j hlt;omega) (O.out.1.get j hlt) (O.out.2.get j hlt')
      (by exact RV_iff.1 (RV.ext (Agree.below hb.drew) _ _ gx)) (by exact RV_iff.1 (RV.ext (Agree.below hb.drew) _ _ gy))).mono ?_;rintro e2 w2 ⟨rfl,hb2⟩)
    all_goals have hbb:Below w.heap.size w w2:=hb.drew.trans (hb2.mono (by simp;omega))
    ·have hne:sameV x.l[j] y.l[j]=false:=by simpa using ‹(!sameV x.l[j] y.l[j])=true›
     go_ret
     exact ⟨by rw [←HF.out];simp [sameVs_one _ _ j hlt hlt' hne],hbb⟩
    ·have hne:sameV x.l[j] y.l[j]=true:=by simpa using ‹(!sameV x.l[j] y.l[j])=false›
     have hz2:=hb2.size
     have hcell2:w2.cell? ⟨w.heap.size+1,2,none⟩=some (.slice (some ⟨b',o',none⟩) y.l.length mc'):=by
      rw [hb2.cell (by simp;omega)];go_simp
     have hcellx:w2.cell? ⟨w.heap.size,2,none⟩=some (.slice (some ⟨b,o,none⟩) x.l.length mc):=by
      rw [hb2.cell (by simp;omega)];go_simp
     go_roundg (gk - 1)
     case rel=>exact ⟨j+1,by omega,by go_num,fun q h h' hq=>(by
      by_cases hqj:q=j
      ·subst hqj;exact hne
      ·exact HS.out q h h' (by omega)),hbb,by simp at hz2;omega,hcellx,hcell2⟩
     case measure=>omega
   ·have hjl:j=x.l.length:=by omega
    go_wp2_with fail
    go_ret
    refine ⟨?_,hb⟩
    rw [←HF.out];simp [HK.out,HN.out,sameVs_all _ _ HLL.out fun i h h'=>HS.out i h h' (by omega)]
def SomeI (w:World):Ending→World→Prop:=fun e w'=>(∃n:Int,e=.returned (.int .i64 n))∧Below w.heap.size w w'
def SomeB (w:World):Ending→World→Prop:=fun e w'=>(∃b:Bool,e=.returned (.bool b))∧Below w.heap.size w w'
set_option maxRecDepth 100000 in
set_option maxHeartbeats 1000000 in
theorem weigh14_any (N:Nat):∀(x:GV) (w:World) (A:Nat→Prop) (m:VA) (most:Int),sizeV x≤N→okV x→RVs w A x.l m.a →
  Calls Tryz.prog 65 #[VV x m,.int .i64 most] w (SomeI w):=by
 induction N with
 | zero=>intro x;have:=sizeV_pos x;intros;omega
 | succ N ih=>
  rintro x w A ⟨ma,mc⟩ most hN ox hl
  have IH:=hid ih
  have HL:=hid hl
  obtain ⟨_,_,hlen,oa⟩:=okV_iff.1 ox
  have O:=hid oa
  have hse:=sizeV_eq x
  clear ih hl ox oa
  go_enter Tryz.func65,Tryz.ntmps65
  go_wp2_with fail
  go_loopg [5,6] (x.l.length) (fun gk n i wr=>∃(j:Nat) (q:Int),gk+j=x.l.length∧i=.int .i64 j∧n=.int .i64 q∧Below w.heap.size w wr∧w.heap.size < wr.heap.size∧wr.cell? ⟨w.heap.size,2,none⟩=some (.slice ma x.l.length mc))
  case atStart=>exact ⟨0,1,by omega,rfl,rfl,Below.z,by simp,by go_simp⟩
  case round=>
   obtain ⟨j,q,hj,rfl,rfl,hb,hz,hcell⟩:=hrel
   by_cases hlt:j < x.l.length
   ·by_cases hq:q < most
    ·obtain ⟨b,o,mj,rfl,hA,hbs,g0,gx⟩:=HL.out.get j hlt
     obtain ⟨k0,k1,k2⟩:=At3.1 (g0.ext (Agree.below hb) (A:=fun _=>True) trivial)
     have hs1:b < wr.heap.size:=by omega
     have hq1:=sizeVs_get x.l j hlt
     clear g0
     go_wp2_with (go_at_call 65;refine (IH.out x.l[j] _ A mj _ (by omega) (O.out.get j hlt) (by exact RVs.ext (Agree.below Below.z) _ _ (RV_iff.1 gx))).mono ?_;rintro e w2 ⟨⟨n2,rfl⟩,hb2⟩)
     have hbb:Below w.heap.size w w2:=hb.trans (hb2.mono (by omega))
     go_roundg (gk - 1)
     case measure=>omega
     case rel=>exact ⟨j+1,_,by omega,by go_num,rfl,hbb,by have:=hb2.size;omega,(hb2.cell (by simp;omega)).trans hcell⟩
    ·go_wp2_with fail
     go_ret
     exact ⟨⟨q,rfl⟩,hb⟩
   ·go_wp2_with fail
    go_ret
    exact ⟨⟨q,rfl⟩,hb⟩
set_option maxRecDepth 100000 in
set_option maxHeartbeats 1000000 in
theorem long14_any (l:List GV) (w:World) (A:Nat→Prop) (a:Option Addr) (cp:Nat) (hlen:l.length≤1048576) (ol:okVs l) (hl:RVs w A l a):
  Calls Tryz.prog 43 #[.slice a l.length cp] w (SomeB w):=by
 have HL:=hid hl
 have O:=hid ol
 clear hl ol
 go_enter Tryz.func43,Tryz.ntmps43
 go_wp2_with fail
 go_loopg [3,4] (l.length) (fun gk n i wr=>∃(j:Nat) (q:Int),gk+j=l.length∧i=.int .i64 j∧n=.int .i64 q∧Below w.heap.size w wr)
 case atStart=>exact ⟨0,0,by omega,rfl,rfl,Below.z⟩
 case round=>
  obtain ⟨j,q,hj,rfl,rfl,hb⟩:=hrel
  by_cases hlt:j < l.length
  ·by_cases hq:q < 6000
   ·obtain ⟨b,o,mj,rfl,hA,hbs,g0,gx⟩:=HL.out.get j hlt
    obtain ⟨k0,k1,k2⟩:=At3.1 (g0.ext (Agree.below hb) (A:=fun _=>True) trivial)
    have hs1:b < wr.heap.size:=by have:=hb.size;omega
    clear g0
    go_wp2_with (go_at_call 65;refine (weigh14_any _ l[j] _ A mj _ (Nat.le_refl _) (O.out.get j hlt) (by exact RVs.ext (Agree.below Below.z) _ _ (RV_iff.1 gx))).mono ?_;rintro e w2 ⟨⟨n2,rfl⟩,hb2⟩)
    have hbb:Below w.heap.size w w2:=hb.trans (hb2.mono (by have:=hb.size;omega))
    go_roundg (gk - 1)
    case measure=>omega
    case rel=>exact ⟨j+1,_,by omega,by go_num,rfl,hbb⟩
   ·go_wp2_with fail
    go_ret
    exact ⟨⟨_,rfl⟩,hb⟩
  ·go_wp2_with fail
   go_ret
   exact ⟨⟨_,rfl⟩,hb⟩
theorem RVs_one {w:World} {A:Nat→Prop} {x:GV} {m:VA} {b:Nat} (hA:A b) (hc:At w b 0 [.int .u8 x.k,.int .i64 x.n,.slice m.a x.l.length m.c]) (hr:RV w A x m.a) (hf:Fz w A b 0:=by exact Fz_true _ _ _):RVs w A [x] (some ⟨b,0,none⟩):=by
 simp only [RVs]
 exact ⟨b,0,m,rfl,hA,hc,hr,trivial,hf⟩
set_option maxRecDepth 100000 in
set_option maxHeartbeats 1000000 in
theorem weigh17_any (N:Nat):∀(p:GP) (w:World) (A:Nat→Prop) (m:PA) (most:Int),sizeP p≤N→okP p→RP w A p m →
  Calls Tryz.prog 27 #[PV p m,.int .i64 most] w (SomeI w):=by
 induction N with
 | zero=>intro p;have:=sizeP_pos p;intros;omega
 | succ N ih=>
  rintro p w A ⟨ma,mc,mb,md⟩ most hN ox hl
  have IH:=hid ih
  have HL:=hid (RP_iff.1 hl).2
  have HV:=hid (RP_iff.1 hl).1
  obtain ⟨_,ov,_,hlen,oa⟩:=okP_iff.1 ox
  have O:=hid oa
  have OV:=hid ov
  have hse:=sizeP_eq p
  clear ih hl ox oa ov
  cases hv0:decide (0 < p.v.l.length)
  all_goals
   go_enter Tryz.func27,Tryz.ntmps27
   go_wp2_with (go_at_call 43;refine (long14_any [p.v] _ (fun _=>True) (some ⟨w.heap.size+1,0,none⟩) 1 (by simp) (by exact ⟨OV.out,trivial⟩) (by exact RVs_one trivial (m:=⟨ma,mc⟩) (At3.2 ⟨by go_simp,by go_simp,by go_simp⟩) (RV.mono (fun _ _ _=>trivial) _ _ (RV.ext (Agree.below Below.z) _ _ HV.out)))).mono ?_;rintro e w1 ⟨⟨b1,rfl⟩,hb1⟩;have hz1:=hb1.size;simp at hz1;have q3:w1.cell? ⟨w.heap.size,3,none⟩=some (.slice ma p.v.l.length mc):=(hb1.cell so).trans (by go_simp);have q5:w1.cell? ⟨w.heap.size,5,none⟩=some (.slice mb p.a.length md):=(hb1.cell so).trans (by go_simp);have hbw:Below w.heap.size w w1:=Below.z;cases b1)
   rotate_right
   ·go_ret
    exact ⟨⟨_,rfl⟩,Below.z⟩
   all_goals
    go_loopg [5,6] (p.a.length) (fun gk n i wr=>∃(j:Nat) (q:Int),gk+j=p.a.length∧i=.int .i64 j∧n=.int .i64 q∧Below w.heap.size w wr∧w.heap.size < wr.heap.size∧wr.cell? ⟨w.heap.size,5,none⟩=some (.slice mb p.a.length md))
    case atStart=>exact ⟨0,_,by omega,rfl,rfl,hbw,by omega,q5⟩
    case round=>
     obtain ⟨j,q,hj,rfl,rfl,hb,hz,hcell⟩:=hrel
     by_cases hlt:j < p.a.length
     ·by_cases hq:q < most
      ·obtain ⟨b,o,mj,rfl,hA,hbs,g0,gx⟩:=HL.out.get j hlt
       obtain ⟨k0,k1,k2,k3,k4,k5⟩:=At6.1 (g0.ext (Agree.below hb) (A:=fun _=>True) trivial)
       have hs1:b < wr.heap.size:=by omega
       have hq1:=sizePs_get p.a j hlt
       clear g0
       go_wp2_with (go_at_call 27;refine (IH.out p.a[j] _ A mj _ (by omega) (O.out.get j hlt) (by exact RP.ext (Agree.below Below.z) _ _ gx)).mono ?_;rintro e w2 ⟨⟨n2,rfl⟩,hb2⟩)
       have hbb:Below w.heap.size w w2:=hb.trans (hb2.mono (by omega))
       go_roundg (gk - 1)
       case measure=>omega
       case rel=>exact ⟨j+1,_,by omega,by go_num,rfl,hbb,by have:=hb2.size;omega,(hb2.cell (by simp;omega)).trans hcell⟩
      ·go_wp2_with fail
       go_ret
       exact ⟨⟨q,rfl⟩,hb⟩
     ·go_wp2_with fail
      go_ret
      exact ⟨⟨q,rfl⟩,hb⟩
theorem RPs_one {w:World} {A:Nat→Prop} {x:GP} {m:PA} {b:Nat} (hA:A b) (hc:At w b 0 [.int .u8 x.k,.int .u8 x.v.k,.int .i64 x.v.n,.slice m.va x.v.l.length m.vc,.int .i64 x.n,.slice m.a x.a.length m.c]) (hr:RP w A x m):RPs w A [x] (some ⟨b,0,none⟩):=by
 simp only [RPs]
 exact ⟨b,0,m,rfl,hA,hc,hr,trivial⟩
set_option maxRecDepth 100000 in
set_option maxHeartbeats 1000000 in
theorem long17_any (l:List GP) (w:World) (A:Nat→Prop) (a:Option Addr) (cp:Nat) (hlen:l.length≤1048576) (ol:okPs l) (hl:RPs w A l a):
  Calls Tryz.prog 12 #[.slice a l.length cp] w (SomeB w):=by
 have HL:=hid hl
 have O:=hid ol
 clear hl ol
 go_enter Tryz.func12,Tryz.ntmps12
 go_wp2_with fail
 go_loopg [3,4] (l.length) (fun gk n i wr=>∃(j:Nat) (q:Int),gk+j=l.length∧i=.int .i64 j∧n=.int .i64 q∧Below w.heap.size w wr)
 case atStart=>exact ⟨0,0,by omega,rfl,rfl,Below.z⟩
 case round=>
  obtain ⟨j,q,hj,rfl,rfl,hb⟩:=hrel
  by_cases hlt:j < l.length
  ·by_cases hq:q < 3000
   ·obtain ⟨b,o,mj,rfl,hA,hbs,g0,gx⟩:=HL.out.get j hlt
    obtain ⟨k0,k1,k2,k3,k4,k5⟩:=At6.1 (g0.ext (Agree.below hb) (A:=fun _=>True) trivial)
    have hs1:b < wr.heap.size:=by have:=hb.size;omega
    clear g0
    go_wp2_with (go_at_call 27;refine (weigh17_any _ l[j] _ A mj _ (Nat.le_refl _) (O.out.get j hlt) (by exact RP.ext (Agree.below Below.z) _ _ gx)).mono ?_;rintro e w2 ⟨⟨n2,rfl⟩,hb2⟩)
    have hbb:Below w.heap.size w w2:=hb.trans (hb2.mono (by have:=hb.size;omega))
    go_roundg (gk - 1)
    case measure=>omega
    case rel=>exact ⟨j+1,_,by omega,by go_num,rfl,hbb⟩
   ·go_wp2_with fail
    go_ret
    exact ⟨⟨_,rfl⟩,hb⟩
  ·go_wp2_with fail
   go_ret
   exact ⟨⟨_,rfl⟩,hb⟩
end Go.Proofs.YtclphfojkggcpaaGreat
