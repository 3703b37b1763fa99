/- Part 4. -/
import Derived.Deep.AppendLies
import Derived.Maps.AppendAt
import Derived.Test.YtkdffbdnjfgpeaaGreatProg
import Derived.Test.YtkdffbdnjfgpeaaGreatY0
set_option linter.all false
namespace Go.Proofs.YtkdffbdnjfgpeaaGreat
open Go.Lib (hid)
open Go Go.RowKit Go.Proofs.Tryz
theorem Zf {k:IntKind} {a b:Int} (h:a=b):Ending.returned (.int k a)=.returned (.int k b):=by rw [h]
theorem XW {a b:Bool} (h:a=b):Ending.returned (.bool a)=.returned (.bool b):=by rw [h]
theorem YS {j k:IntKind} {a b c d:Int} (h:a=c) (h':b=d):Ending.returned (.tuple #[.int j a,.int k b])=.returned (.tuple #[.int j c,.int k d]):=by rw [h,h']
def Wh (x:GV):Int:=
 if x.k=1 then (if x.n < -1099511627776∨1099511627776 < x.n then 1 else if 0 < (x.l.length:Int) then 3 else 0)
 else if x.k=2 then (if x.n≠0∧x.n≠1 then 1 else if 0 < (x.l.length:Int) then 3 else 0)
 else if x.k=3∨x.k=4 then (if x.n≠0 then 3 else if 64 < (x.l.length:Int) then 5 else 0)
 else 11
def Zam (k:Int):Bool:=k==1||k==2
theorem VW (k:Int) (w:World) (hk:Yg k):Calls prog 290 #[.int .u8 k] w fun e w'=>e=.returned (.bool (Zam k))∧w=w':=by
 obtain ⟨h0,h1⟩:=hk
 generalize hF:Zam k=F
 have HF:=hid hF
 clear hF
 go_enter func290,ntmps290
 go_wp2_with fail
 all_goals go_ret
 all_goals exact ⟨XW (by rw [←HF.out];simp [Zam, *]),rfl⟩
theorem q30 {p:Prop} (h:p:=by (first|rfl|omega|((try simp only [beq_iff_eq,beq_eq_false_iff_ne,bne_iff_ne,bne_eq_false_iff_eq,decide_eq_true_eq,decide_eq_false_iff_not,ne_eq,Bool.and_eq_true,Bool.or_eq_true,Bool.and_eq_false_iff,Bool.or_eq_false_iff,Bool.not_eq_true',Bool.not_eq_false'] at *);(repeat' split)<;>first|rfl|omega|contradiction|(simp_all;done)|(simp_all;omega)))):p:=h
set_option maxRecDepth 100000
theorem ZhA (x:GV) (m:VA) (w:World) (ox:Yg x.k∧Zv x.n∧x.l.length≤1048576):
  Calls prog 281 #[VV x m] w fun e w'=>e=.returned (.int .i64 (Wh x))∧Below w.heap.size w w':=by
 obtain ⟨⟨x1,x2⟩,⟨x3,x4⟩,x5⟩:=ox
 obtain ⟨ma,mc⟩:=m
 have hu8:=hid (show Yg x.k from ⟨x1,x2⟩)
 generalize hF:Wh x=F
 have HF:=hid hF
 clear hF
 go_enter func281,ntmps281
 go_wp2_with (go_at_call 290;refine (VW _ _ hu8.out).mono ?_;rintro e w' ⟨rfl,rfl⟩)
 all_goals go_ret
 all_goals refine ⟨Zf ?_,ZtX⟩
 all_goals rw [←HF.out]
 all_goals unfold Wh
 all_goals (try unfold Zam at *)
 all_goals exact q30
set_option maxRecDepth 512
def Xw (x:GV):Bool:=x.k==0&&x.n==0&&(x.l.length:Int)==0
theorem q31 {p:Prop} (h:p:=by
 go_wp2_with fail
 all_goals go_ret
 all_goals refine ⟨XW ?_,ZtX⟩
 all_goals rw [←HF.out]
 all_goals unfold Xw
 all_goals (first|(simp;done)|(simp [*];done)|(simp_all;done)|(simp_all;omega)|(simp;omega))):p:=h
set_option maxRecDepth 100000
theorem Zd4 (x:GV) (m:VA) (w:World) (ox:Yg x.k∧Zv x.n∧x.l.length≤1048576):
  Calls prog 283 #[VV x m] w fun e w'=>e=.returned (.bool (Xw x))∧Below w.heap.size w w':=by
 obtain ⟨⟨x1,x2⟩,⟨x3,x4⟩,x5⟩:=ox
 obtain ⟨ma,mc⟩:=m
 generalize hF:Xw x=F
 have HF:=hid hF
 clear hF
 go_enter func283,ntmps283
 exact q31
theorem J6 (x:GV) (m:VA) (w:World) (ox:Yg x.k∧Zv x.n∧x.l.length≤1048576):
  Calls prog 256 #[VV x m] w fun e w'=>e=.returned (.bool (Xw x))∧Below w.heap.size w w':=by
 obtain ⟨⟨x1,x2⟩,⟨x3,x4⟩,x5⟩:=ox
 obtain ⟨ma,mc⟩:=m
 generalize hF:Xw x=F
 have HF:=hid hF
 clear hF
 go_enter func256,ntmps256
 exact q31
theorem QE (x:GV) (m:VA) (w:World) (ox:Yg x.k∧Zv x.n∧x.l.length≤1048576):
  Calls prog 238 #[VV x m] w fun e w'=>e=.returned (.bool (Xw x))∧Below w.heap.size w w':=by
 obtain ⟨⟨x1,x2⟩,⟨x3,x4⟩,x5⟩:=ox
 obtain ⟨ma,mc⟩:=m
 generalize hF:Xw x=F
 have HF:=hid hF
 clear hF
 go_enter func238,ntmps238
 exact q31
theorem Zaw (x:GV) (m:VA) (w:World) (ox:Yg x.k∧Zv x.n∧x.l.length≤1048576):
  Calls prog 275 #[VV x m] w fun e w'=>e=.returned (.bool (Xw x))∧Below w.heap.size w w':=by
 obtain ⟨⟨x1,x2⟩,⟨x3,x4⟩,x5⟩:=ox
 obtain ⟨ma,mc⟩:=m
 generalize hF:Xw x=F
 have HF:=hid hF
 clear hF
 go_enter func275,ntmps275
 exact q31
set_option maxRecDepth 512
def Xe (k:Int):Bool:=k==3||k==4
theorem q32 {p:Prop} (h:p:=by (first|(simp;done)|(simp [*];done)|(simp_all;done)|(simp_all;omega)|(simp;omega))):p:=h
theorem Jg (k:Int) (w:World) (hk:Yg k):Calls prog 219 #[.int .u8 k] w fun e w'=>e=.returned (.bool (Xe k))∧Below w.heap.size w w':=by
 obtain ⟨h0,h1⟩:=hk
 generalize hF:Xe k=F
 have HF:=hid hF
 clear hF
 go_enter func219,ntmps219
 go_wp2_with fail
 all_goals go_ret
 all_goals refine ⟨XW ?_,ZtX⟩
 all_goals rw [←HF.out]
 all_goals unfold Xe
 all_goals exact q32
def J0 (k:Int):Bool:=k==3||k==4
theorem q36 {p:Prop} (h:p:=by
 go_wp2_with fail
 all_goals go_ret
 all_goals refine ⟨XW ?_,ZtX⟩
 all_goals rw [←HF.out]
 all_goals unfold J0
 all_goals exact q32):p:=h
set_option maxRecDepth 100000
theorem U5 (x:GV) (m:VA) (w:World) (hk:Yg x.k):Calls prog 337 #[VV x m] w fun e w'=>e=.returned (.bool (J0 x.k))∧Below w.heap.size w w':=by
 obtain ⟨h0,h1⟩:=hk
 obtain ⟨ma,mc⟩:=m
 generalize hF:J0 x.k=F
 have HF:=hid hF
 clear hF
 go_enter func337,ntmps337
 exact q36
theorem V1 (x:GV) (m:VA) (w:World) (hk:Yg x.k):Calls prog 280 #[VV x m] w fun e w'=>e=.returned (.bool (J0 x.k))∧Below w.heap.size w w':=by
 obtain ⟨h0,h1⟩:=hk
 obtain ⟨ma,mc⟩:=m
 generalize hF:J0 x.k=F
 have HF:=hid hF
 clear hF
 go_enter func280,ntmps280
 exact q36
set_option maxRecDepth 512
def Qb (b:Bool):Int:=if b then 0 else 3
theorem q33 {p:Prop} (h:p:=by
 go_enter func255,ntmps255
 go_wp2_with fail
 all_goals go_ret
 all_goals refine ⟨Zf ?_,ZtX⟩
 all_goals rw [←HF.out]
 all_goals unfold Qb
 all_goals exact q30):p:=h
theorem Z9 (b:Bool) (w:World):Calls prog 255 #[.bool b] w fun e w'=>e=.returned (.int .i64 (Qb b))∧Below w.heap.size w w':=by
 generalize hF:Qb b=F
 have HF:=hid hF
 clear hF
 cases b
 ·exact q33
 exact q33
def Yi (n a b:Int):Bool:=decide (a≤n)&&decide (n≤b)
theorem ZbX (n a b:Int) (w:World) (hn:Zv n) (ha:Zv a) (hb:Zv b):Calls prog 260 #[.int .i64 n,.int .i64 a,.int .i64 b] w fun e w'=>e=.returned (.bool (Yi n a b))∧Below w.heap.size w w':=by
 obtain ⟨h0,h1⟩:=hn
 obtain ⟨h2,h3⟩:=ha
 obtain ⟨h4,h5⟩:=hb
 generalize hF:Yi n a b=F
 have HF:=hid hF
 clear hF
 go_enter func260,ntmps260
 go_wp2_with fail
 all_goals go_ret
 all_goals refine ⟨XW ?_,ZtX⟩
 all_goals rw [←HF.out]
 all_goals unfold Yi
 all_goals exact q32
def Xl (n a b:Int):Int:=if n < a then 4 else if b < n then 5 else 0
theorem q37 {p:Prop} (h:p:=by
 go_wp2_with fail
 all_goals go_ret
 all_goals refine ⟨Zf ?_,ZtX⟩
 all_goals rw [←HF.out]
 all_goals unfold Xl
 all_goals exact q30):p:=h
theorem ZdZ (n a b:Int) (w:World) (hn:Zv n) (ha:Zv a) (hb:Zv b):Calls prog 261 #[.int .i64 n,.int .i64 a,.int .i64 b] w fun e w'=>e=.returned (.int .i64 (Xl n a b))∧Below w.heap.size w w':=by
 obtain ⟨h0,h1⟩:=hn
 obtain ⟨h2,h3⟩:=ha
 obtain ⟨h4,h5⟩:=hb
 generalize hF:Xl n a b=F
 have HF:=hid hF
 clear hF
 go_enter func261,ntmps261
 exact q37
theorem Ww (n a b:Int) (w:World) (hn:Zv n) (ha:Zv a) (hb:Zv b):Calls prog 183 #[.int .i64 n,.int .i64 a,.int .i64 b] w fun e w'=>e=.returned (.int .i64 (Xl n a b))∧Below w.heap.size w w':=by
 obtain ⟨h0,h1⟩:=hn
 obtain ⟨h2,h3⟩:=ha
 obtain ⟨h4,h5⟩:=hb
 generalize hF:Xl n a b=F
 have HF:=hid hF
 clear hF
 go_enter func183,ntmps183
 exact q37
theorem Zde:(prog.info? 2).map (fun i=>(i.zero,i.size,i.bytes))=some (some (.int .i64 0),1,8):=kr
theorem ZcC {w:World} {base e g n cap:Nat} {A:Nat→Prop} {k:IntKind}:∀{l:List Int} {o:Nat},(∀j u,(l.map (Value.int k))[j]? =some u→w.cell? ⟨g,o+j,none⟩=some u)→A g→k=.i64→RIs w A l (some ⟨g,o,none⟩)
 | [],_,_,_,_=>by simp only [RIs]
 | x::l,o,h,hA,hk=>by
  subst hk
  simp only [RIs]
  refine ⟨g,o,rfl,hA,?_,ZcC (k:=.i64) (base:=base) (e:=e) (n:=n) (cap:=cap) (fun j u hj=>?_) hA rfl⟩
  ·simp only [At,and_true];exact h 0 _ sm
  have:=h (j+1) u (by simpa using hj);rw [show o+1+j=o+(j+1) by omega];exact this
theorem ZdI {w:World} {base e g n cap:Nat} {l:List Int} (h:w.ownsRow base e 1 (.slice (some ⟨g,0,none⟩) n cap) n (l.map (Value.int .i64))):RIs w (fun b=>base≤b) l (some ⟨g,0,none⟩):=by
 have hg:=h.lt g rfl
 refine ZcC (base:=base) (e:=e) (n:=n) (cap:=cap) (k:=.i64) (fun j u hj=>?_) hg.1 rfl
 have:=h.cells (g:=g) rfl j u hj
 simpa [Addr.add] using (by by_cases h0:j=0<;>simp_all [Addr.add])
def YM (s:Int):List Int→Int
 | []=>if s=0 then 7 else 0
 | x::r=>if x < 0∨1048576 < x then 1 else YM (s+x) r
def Yc (l:List Int):Int:=if l.length=0 then 4 else if 64 < l.length then 5 else YM 0 l
def Yy (s:Int):List Int→List Int
 | []=>[]
 | x::r=>(s+x)::Yy (s+x) r
def Zj:List Int→Int
 | []=>0
 | x::r=>x+Zj r
theorem WR (l:List Int) (j:Nat) (h:j < l.length):Zj (l.take (j+1))=Zj (l.take j)+l[j]:=by
 induction l generalizing j with
 | nil=>simp at h
 | cons x l ih=>cases j with
  | zero=>simp [Zj]
  | succ j=>have:=ih j (by simpa using h);simp only [List.take_succ_cons,Zj,List.getElem_cons_succ] at this ⊢;omega
theorem Zfq (s:Int) (l:List Int) (j:Nat) (h:j < l.length):Yy s (l.take (j+1))=Yy s (l.take j)++[s+Zj (l.take j)+l[j]]:=by
 induction l generalizing j s with
 | nil=>simp at h
 | cons x l ih=>cases j with
  | zero=>simp [Yy,Zj]
  | succ j=>
   have:=ih (s+x) j (by simpa using h)
   simp only [List.take_succ_cons,Yy,Zj,List.getElem_cons_succ,List.cons_append] at this ⊢
   rw [this,show s+(x+Zj (l.take j))=s+x+Zj (l.take j) by omega]
theorem Vw (s:Int) (l:List Int):(Yy s l).length=l.length:=by
 induction l generalizing s with
 | nil=>rfl
 | cons x l ih=>simp [Yy,ih]
def okW (l:List Int):Prop:=∀x∈l,0≤x∧x≤1048576
theorem WX:∀(l:List Int),okW l→0≤Zj l∧Zj l≤1048576*l.length
 | [],_=>by simp [Zj]
 | x::l,h=>by
  have h1:=h x sm
  have h2:=WX l (fun y hy=>h y (by simp [hy]))
  simp only [Zj,List.length_cons];omega
theorem Uq (s:Int):∀(l:List Int) (j:Nat),okW (l.take j)→YM s l=YM (s+Zj (l.take j)) (l.drop j)
 | [],j,_=>by simp [Zj]
 | x::l,0,_=>by simp [Zj]
 | x::l,j+1,h=>by
  have h1:=h x sm
  have h2:=Uq (s+x) l j (fun y hy=>h y (by simp [hy]))
  simp only [List.take_succ_cons,List.drop_succ_cons,YM,Zj]
  rw [if_neg om,h2,show s+x+Zj (l.take j)=s+(x+Zj (l.take j)) by omega]
def ZkI (l:List Int) (w:World):Ending→World→Prop:=fun e w'=>Below w.heap.size w w' ∧
 ((Yc l≠0∧e=.returned (.tuple #[.pointer none,.int .i64 (Yc l)])) ∨
  (Yc l=0∧∃b a c,e=.returned (.tuple #[.pointer (some ⟨b,0,none⟩),.int .i64 0])∧w.heap.size≤b∧b < w'.heap.size∧w'.cell? ⟨b,0,none⟩=some (.slice a l.length c)∧RIs w' (fun k=>w.heap.size < k) (Yy 0 l) a))
theorem q38 {p:Prop} (h:p:=by
 go_enter func144,ntmps144
 go_wp2_with fail
 go_ret2
 exact ⟨Below.refl _ _,.inl ⟨by rw [HE.out];simp,by rw [HE.out];rfl⟩⟩):p:=h
set_option maxRecDepth 100000
set_option maxHeartbeats 1000000
theorem Uf (l:List Int) (w:World) (A:Nat→Prop) (wa:Option Addr) (wc:Nat) (ol:okIs l) (hln:l.length≤1048576) (hl:RIs w A l wa):
  Calls prog 144 #[.slice wa l.length wc] w (ZkI l w):=by
 have HL:=hid hl
 have O:=hid ol
 clear hl ol
 obtain ⟨i0,hi,hz0,hz1,hz2⟩:=info_parts Zde
 by_cases h0:l.length=0
 ·have h0':((l.length:Int)==0)=true:=beq_iff_eq.2 om
  have HE:=hid (show Yc l=4 by unfold Yc;rw [if_pos h0])
  clear h0
  exact q38
 have h0':((l.length:Int)==0)=false:=beq_eq_false_iff_ne.2 om
 by_cases h1:64 < l.length
 ·have HE:=hid (show Yc l=5 by unfold Yc;rw [if_neg h0,if_pos h1])
  have h1':decide ((64:Int) < (l.length:Int))=true:=decide_eq_true om
  clear h0 h1
  exact q38
 have h1':decide ((64:Int) < (l.length:Int))=false:=decide_eq_false om
 have HE:=hid (show Yc l=YM 0 l by unfold Yc;rw [if_neg h0,if_neg h1])
 have h1'':l.length≤64:=om
 have hpos:0 < l.length:=om
 clear h0 h1
 go_enter func144,ntmps144
 go_wp2_with fail
 go_loopg [5,20] (l.length) (fun gk t5 i wr=>∃j:Nat,gk+j=l.length∧i=.int .i64 j∧t5=.int .i64 (Zj (l.take j))∧Hid (okW (l.take j))∧Below w.heap.size w wr∧w.heap.size < wr.heap.size ∧
   ∃v,wr.cell? ⟨w.heap.size,0,none⟩=some v∧wr.frozen? ⟨w.heap.size,0,none⟩=false∧Hid (wr.ownsRow (w.heap.size+1) 2 1 v j ((Yy 0 (l.take j)).map (Value.int .i64))))
 case atStart=>exact ⟨0,om,rfl,by simp [Zj],fun x hx=>by simp at hx,ZtX,sm,.slice none 0 0,gs,gs,hid (by simpa [Yy] using World.ownsRow_nil _ _ _ _)⟩
 case round=>
  obtain ⟨j,hj,rfl,rfl,HW,hb,hz,v,hc,hf,HO⟩:=hrel
  by_cases hlt:j < l.length
  ·obtain ⟨b,o,rfl,hA,hbs,g0⟩:=HL.out.get j hlt
   have k0:wr.cell? ⟨b,o+j,none⟩=some (.int .i64 l[j]):=(hb.cell hbs).trans g0
   obtain ⟨r1,r2⟩:=O.out.get j hlt
   have hsum:=WX _ HW.out
   have hjl:(l.take j).length=j:=by simp;omega
   rw [hjl] at hsum
   obtain ⟨s1,s2⟩:=hsum
   have hs1:b < wr.heap.size:=om
   clear g0 hjl
   by_cases hx:l[j] < 0∨1048576 < l[j]
   ·have HE2:=hid (show Yc l=1 by rw [HE.out,Uq 0 l j HW.out,List.drop_eq_getElem_cons hlt,YM,if_pos hx])
    rcases hx with hx|hx
    all_goals go_wp2_with fail
    all_goals go_ret2
    all_goals exact ⟨hb,.inl ⟨by rw [HE2.out];simp,by rw [HE2.out];rfl⟩⟩
   have hx1:0≤l[j]:=om
   have hx2:l[j]≤1048576:=om
   have hst:=WR l j hlt
   have hpt:=Zfq 0 l j hlt
   rw [show (0:Int)+Zj (l.take j)+l[j]=Zj (l.take j)+l[j] by omega] at hpt
   have HST:=hid hst
   have HPT:=hid hpt
   have HW2:=hid (show okW (l.take (j+1)) from fun y hy=>by
    rw [List.take_succ_eq_append_getElem hlt] at hy
    rcases List.mem_append.1 hy with h|h
    ·exact HW.out y h
    simp at h;subst h;exact ⟨hx1,hx2⟩)
   have hne:v.ownBlock≠some w.heap.size:=fun e=>by have:=(HO.out.lt _ e).1;omega
   have HNE:=hid hne
   clear hst hpt hx hne
   generalize hS:Zj (l.take j)=S at *
   have HS:=hid hS
   clear hS
   go_wp2_with (at_builtin;refine wpList_append_lies _ rfl _ _ 25 rfl (w.heap.size+1) 2 i0 (.int .i64 0) 1 8 underlying25 hi hz0 hz1 hz2 rfl (by decide) v j _ (by rfl) (HO.out.alloc _) ⟨wr.heap.size,0,none⟩ 1 1 [.int .i64 (S+l[j])] (by rfl) rfl (cell_one_new _ _ _) (by simp [Value.oneCell']) (by decide) (by unfold maxLen;omega) om (by simp;omega) (wr.heap.size+1) sm ?_;intro g cap w1 hown hgrow hat hlt1;have hc1:w1.cell? ⟨w.heap.size,0,none⟩=some v:=(hgrow.cell_far ⟨w.heap.size,0,none⟩ (by simp;omega) (Ne.symm HNE.out)).trans gs;have hf1:w1.frozen? ⟨w.heap.size,0,none⟩=false:=(hgrow.frozen_far ⟨w.heap.size,0,none⟩ (by simp;omega) (Ne.symm HNE.out)).trans gs)
   go_roundg (gk - 1)
   case measure=>omega
   case rel=>
    refine ⟨j+1,om,by go_num,by rw [HST.out],HW2,?_,?_,_,World.cell?_setCell_same' _ _ _ (by rw [hc1];rfl),by rw [World.frozen?_setCell];exact hf1,hid ?_⟩
    ·exact (((hb.alloc om _).grown hgrow (by simp;omega) (fun k e=>by have:=(HO.out.lt _ e).1;omega)).setCell sm _)
    ·have:=hgrow.size;simp at this ⊢;omega
    rw [HPT.out,List.map_append];exact ownsRow_setCell_below hown sm _
  have hjl:j=l.length:=om
  subst hjl
  have hfl:=Uq 0 l l.length HW.out
  rw [List.take_length,List.drop_length,YM] at hfl
  rw [List.take_length] at HO
  simp only [List.take_length]
  have HFL:=hid hfl
  clear hfl
  by_cases hs:Zj l=0
  ·have hs':(Zj l==0)=true:=beq_iff_eq.2 hs
   have HE2:=hid (show Yc l=7 by rw [HE.out,HFL.out,if_pos om])
   clear hs
   go_wp2_with fail
   go_ret2
   exact ⟨hb,.inl ⟨by rw [HE2.out];simp,by rw [HE2.out];rfl⟩⟩
  have hs':(Zj l==0)=false:=beq_eq_false_iff_ne.2 hs
  have HE2:=hid (show Yc l=0 by rw [HE.out,HFL.out,if_neg om])
  clear hs
  go_wp2_with fail
  go_ret2
  obtain ⟨g,cap,rfl,hg1,hg2⟩:=HO.out.form om
  exact ⟨hb,.inr ⟨HE2.out,w.heap.size,_,_,rfl,Nat.le_refl _,hz,hc,ZxH (fun _ hb _=>hb) _ _ (ZdI HO.out)⟩⟩
set_option maxRecDepth 512
mutual
def XX:GV→GV→Bool
 | ⟨k,n,l⟩,⟨k',n',l'⟩=>k==k'&&n==n'&&XY l l'
def XY:List GV→List GV→Bool
 | [],[]=>true
 | x::l,y::l'=>XX x y&&XY l l'
 | _,_=>false
end
theorem Zey (x y:GV):XX x y=(x.k==y.k&&x.n==y.n&&XY x.l y.l):=by cases x;cases y;simp only [XX]
theorem KH:∀(l l':List GV),l.length≠l'.length→XY l l'=false
 | [],[],h=>absurd rfl h
 | [],_::_,_=>by simp [XY]
 | _::_,[],_=>by simp [XY]
 | x::l,y::l',h=>by simp [XY,KH l l' (by simpa using h)]
theorem KG:∀(l l':List GV),l.length=l'.length→(∀i (h:i < l.length) (h':i < l'.length),XX l[i] l'[i]=true)→XY l l'=true
 | [],[],_,_=>by simp [XY]
 | x::l,y::l',h,g=>by
  have g0:=g 0 sm sm
  simp at g0
  simp only [XY,g0,Bool.true_and]
  exact KG l l' (by simpa using h) fun i hi hi'=>by have:=g (i+1) (by simpa using hi) (by simpa using hi');simpa only [List.getElem_cons_succ] using this
theorem KI:∀(l l':List GV) i (h:i < l.length) (h':i < l'.length),XX l[i] l'[i]=false→XY l l'=false
 | x::l,y::l',0,_,_,g=>by simp at g;simp [XY,g]
 | x::l,y::l',i+1,h,h',g=>by
  have:=KI l l' i (by simpa using h) (by simpa using h') (by simpa using g)
  simp [XY,this]
theorem q34 {p:Prop} (h:p:=by
 have hne:XX x.l[j] y.l[j]=false:=by simpa using ‹(!XX x.l[j] y.l[j])=true›
 go_ret
 exact ⟨by rw [←HF.out];simp [KI _ _ j hlt hlt' hne],hbb⟩):p:=h
theorem q35 {p:Prop} (h:p:=by
 have hjl:j=x.l.length:=om
 go_wp2_with fail
 go_ret
 refine ⟨?_,hb⟩
 rw [←HF.out];simp [HK.out,HN.out,KG _ _ HLL.out fun i h h'=>HS.out i h h' om]):p:=h
theorem q39 {p:Prop} (h:p:=by
 go_wp2_with fail
 go_ret
 exact ⟨by rw [←hF];simp [KH _ _ hll],((Below.refl _ _).alloc sm _).alloc sm _⟩):p:=h
theorem ZmD {p:Prop} (h:p:=by
 go_wp2_with fail
 go_ret
 exact ⟨by rw [←hF];simp [hk],((Below.refl _ _).alloc sm _).alloc sm _⟩):p:=h
theorem ZmE {p:Prop} (h:p:=by
 go_wp2_with fail
 go_ret
 exact ⟨by rw [←hF];simp [hn],((Below.refl _ _).alloc sm _).alloc sm _⟩):p:=h
set_option maxRecDepth 100000
theorem Zez (N:Nat):∀(x y:GV) (w:World) (A A':Nat→Prop) (m m':VA),Zg x≤N→okV x→okV y→RVs w A x.l m.a→RVs w A' y.l m'.a →
  Calls prog 33 #[VV x m,VV y m'] w fun e w'=>e=.returned (.bool (XX x y))∧Below w.heap.size w w':=by
 induction N with
 | zero=>intro x;have:=Zr x;intros;omega
 | succ N ih=>
  rintro x y w A A' ⟨ma,mc⟩ ⟨ma',mc'⟩ hN ox oy hl hl'
  dsimp only at hl hl'
  have IH:=hid ih
  have HL:=hid hl
  have HL':=hid hl'
  rw [XZ] at hN
  clear hl hl' ih
  obtain ⟨⟨x1,x2⟩,⟨x3,x4⟩,x5,ox'⟩:=ZA.1 ox
  obtain ⟨⟨y1,y2⟩,⟨y3,y4⟩,y5,oy'⟩:=ZA.1 oy
  have O:=hid (And.intro ox' oy')
  clear ox oy ox' oy'
  rw [Zey]
  generalize hF:(x.k==y.k&&x.n==y.n&&XY x.l y.l)=F
  by_cases hk:x.k=y.k
  case neg=>
   have hk':(x.k != y.k)=true:=by simpa using hk
   go_enter func33,ntmps33
   exact ZmD
  have hk':(x.k != y.k)=false:=by simpa using hk
  have HK:=hid hk
  by_cases hn:x.n=y.n
  case neg=>
   have hn':(x.n != y.n)=true:=by simpa using hn
   clear hk
   go_enter func33,ntmps33
   exact ZmE
  have hn':(x.n != y.n)=false:=by simpa using hn
  have HN:=hid hn
  by_cases hll:x.l.length=y.l.length
  case neg=>
   have hll':((x.l.length:Int) != (y.l.length:Int))=true:=by simp;omega
   clear hk hn
   go_enter func33,ntmps33
   exact q39
  have hll':((x.l.length:Int) != (y.l.length:Int))=false:=by simp;omega
  have HLL:=hid hll
  clear hk hn hll
  have HF:=hid hF
  clear hF
  go_enter func33,ntmps33
  go_wp2_with fail
  go_loopg [31] (x.l.length) (fun gk i wr=>∃j:Nat,gk+j=x.l.length∧i=.int .i64 j∧Hid (∀q (h:q < x.l.length) (h':q < y.l.length),q < j→XX x.l[q] y.l[q]=true)∧Below w.heap.size w wr∧w.heap.size+1 < wr.heap.size∧wr.cell? ⟨w.heap.size+1,2,none⟩=some (.slice ma' y.l.length mc'))
  case atStart=>exact ⟨0,om,rfl,fun q h h' hq=>absurd hq om,((Below.refl _ _).alloc sm _).alloc sm _,sm,gs⟩
  case round=>
   obtain ⟨j,hj,rfl,HS,hb,hz,hcell⟩:=hrel
   by_cases hlt:j < x.l.length
   ·have hlt':j < y.l.length:=by have:=HLL.out;omega
    obtain ⟨b,o,mj,rfl,hA,hbs,g0,gx⟩:=HL.out.get j hlt
    obtain ⟨b',o',mj',rfl,hA',hbs',g0',gy⟩:=HL'.out.get j hlt'
    obtain ⟨k0,k1,k2⟩:=At3.1 (g0.ext (ZtY hb) (A:=fun _=>True) trivial)
    obtain ⟨k0',k1',k2'⟩:=At3.1 (g0'.ext (ZtY hb) (A:=fun _=>True) trivial)
    have hs1:b < wr.heap.size:=om
    have hs2:b' < wr.heap.size:=om
    clear hbs hbs' g0 g0'
    go_wp2_with fail
    refine Z0 6 kr kr ?_
    simp only [List.take_succ_cons,List.take_zero,List.drop_succ_cons,List.drop_zero]
    repeat still_step
    refine wpStill_nil ?_
    go_wp2_with (go_at_call 33;refine (IH.out x.l[j] y.l[j] _ A A' mj mj' (by have:=ZX x.l j hlt;omega) (O.out.1.get j hlt) (O.out.2.get j hlt')
      (by exact Zl.1 (Zt5 (ZtY (hb.alloc om _).drew) _ _ gx)) (by exact Zl.1 (Zt5 (ZtY (hb.alloc om _).drew) _ _ gy))).mono ?_;rintro e2 w2 ⟨rfl,hb2⟩)
    all_goals have hbb:Below w.heap.size w w2:=((hb.alloc om _).drew).trans (hb2.mono (by simp;omega))
    ·exact q34
    have hne:XX x.l[j] y.l[j]=true:=by simpa using ‹(!XX x.l[j] y.l[j])=false›
    have hz2:=hb2.size
    have hcell2:w2.cell? ⟨w.heap.size+1,2,none⟩=some (.slice (some ⟨b',o',none⟩) y.l.length mc'):=by
     rw [hb2.cell (by simp;omega)];go_simp
    go_roundg (gk - 1)
    case rel=>exact ⟨j+1,om,by go_num,fun q h h' hq=>(by
     by_cases hqj:q=j
     ·subst hqj;exact hne
     exact HS.out q h h' om),hbb,by simp at hz2;omega,hcell2⟩
    case measure=>omega
   exact q35
theorem QA (N:Nat):∀(x y:GV) (w:World) (A A':Nat→Prop) (m m':VA),Zg x≤N→okV x→okV y→RVs w A x.l m.a→RVs w A' y.l m'.a →
  Calls prog 52 #[VV x m,VV y m'] w fun e w'=>e=.returned (.bool (XX x y))∧Below w.heap.size w w':=by
 induction N with
 | zero=>intro x;have:=Zr x;intros;omega
 | succ N ih=>
  rintro x y w A A' ⟨ma,mc⟩ ⟨ma',mc'⟩ hN ox oy hl hl'
  dsimp only at hl hl'
  have IH:=hid ih
  have HL:=hid hl
  have HL':=hid hl'
  rw [XZ] at hN
  clear hl hl' ih
  obtain ⟨⟨x1,x2⟩,⟨x3,x4⟩,x5,ox'⟩:=ZA.1 ox
  obtain ⟨⟨y1,y2⟩,⟨y3,y4⟩,y5,oy'⟩:=ZA.1 oy
  have O:=hid (And.intro ox' oy')
  clear ox oy ox' oy'
  rw [Zey]
  generalize hF:(x.k==y.k&&x.n==y.n&&XY x.l y.l)=F
  by_cases hk:x.k=y.k
  case neg=>
   have hk':(x.k != y.k)=true:=by simpa using hk
   go_enter func52,ntmps52
   exact ZmD
  have hk':(x.k != y.k)=false:=by simpa using hk
  have HK:=hid hk
  by_cases hn:x.n=y.n
  case neg=>
   have hn':(x.n != y.n)=true:=by simpa using hn
   clear hk
   go_enter func52,ntmps52
   exact ZmE
  have hn':(x.n != y.n)=false:=by simpa using hn
  have HN:=hid hn
  by_cases hll:x.l.length=y.l.length
  case neg=>
   have hll':((x.l.length:Int) != (y.l.length:Int))=true:=by simp;omega
   clear hk hn
   go_enter func52,ntmps52
   exact q39
  have hll':((x.l.length:Int) != (y.l.length:Int))=false:=by simp;omega
  have HLL:=hid hll
  clear hk hn hll
  have HF:=hid hF
  clear hF
  go_enter func52,ntmps52
  go_wp2_with fail
  go_loopg [5] (x.l.length) (fun gk i wr=>∃j:Nat,gk+j=x.l.length∧i=.int .i64 j∧Hid (∀q (h:q < x.l.length) (h':q < y.l.length),q < j→XX x.l[q] y.l[q]=true)∧Below w.heap.size w wr∧w.heap.size+1 < wr.heap.size∧wr.cell? ⟨w.heap.size,2,none⟩=some (.slice ma x.l.length mc)∧wr.cell? ⟨w.heap.size+1,2,none⟩=some (.slice ma' y.l.length mc'))
  case atStart=>exact ⟨0,om,rfl,fun q h h' hq=>absurd hq om,((Below.refl _ _).alloc sm _).alloc sm _,sm,gs,gs⟩
  case round=>
   obtain ⟨j,hj,rfl,HS,hb,hz,hcx,hcell⟩:=hrel
   by_cases hlt:j < x.l.length
   ·have hlt':j < y.l.length:=by have:=HLL.out;omega
    obtain ⟨b,o,mj,rfl,hA,hbs,g0,gx⟩:=HL.out.get j hlt
    obtain ⟨b',o',mj',rfl,hA',hbs',g0',gy⟩:=HL'.out.get j hlt'
    obtain ⟨k0,k1,k2⟩:=At3.1 (g0.ext (ZtY hb) (A:=fun _=>True) trivial)
    obtain ⟨k0',k1',k2'⟩:=At3.1 (g0'.ext (ZtY hb) (A:=fun _=>True) trivial)
    have hs1:b < wr.heap.size:=om
    have hs2:b' < wr.heap.size:=om
    clear hbs hbs' g0 g0'
    go_wp2_with fail
    refine Z0 10 kr kr ?_
    simp only [List.take_succ_cons,List.take_zero,List.drop_succ_cons,List.drop_zero]
    repeat still_step
    refine wpStill_nil ?_
    go_wp2_with (go_at_call 52;refine (IH.out x.l[j] y.l[j] _ A A' mj mj' (by have:=ZX x.l j hlt;omega) (O.out.1.get j hlt) (O.out.2.get j hlt')
      (by exact Zl.1 (Zt5 (ZtY hb.drew) _ _ gx)) (by exact Zl.1 (Zt5 (ZtY hb.drew) _ _ gy))).mono ?_;rintro e2 w2 ⟨rfl,hb2⟩)
    all_goals have hbb:Below w.heap.size w w2:=hb.drew.trans (hb2.mono (by simp;omega))
    ·exact q34
    have hne:XX x.l[j] y.l[j]=true:=by simpa using ‹(!XX x.l[j] y.l[j])=false›
    have hz2:=hb2.size
    have hcell2:w2.cell? ⟨w.heap.size+1,2,none⟩=some (.slice (some ⟨b',o',none⟩) y.l.length mc'):=by
     rw [hb2.cell (by simp;omega)];go_simp
    have hcellx:w2.cell? ⟨w.heap.size,2,none⟩=some (.slice (some ⟨b,o,none⟩) x.l.length mc):=by
     rw [hb2.cell (by simp;omega)];go_simp
    go_roundg (gk - 1)
    case rel=>exact ⟨j+1,om,by go_num,fun q h h' hq=>(by
     by_cases hqj:q=j
     ·subst hqj;exact hne
     exact HS.out q h h' om),hbb,by simp at hz2;omega,hcellx,hcell2⟩
    case measure=>omega
   exact q35
set_option maxRecDepth 512
mutual
theorem U8:∀x:GV,XX x x=true
 | ⟨k,n,l⟩=>by simp only [XX,ZaC l,beq_self_eq_true,Bool.and_self]
theorem ZaC:∀l:List GV,XY l l=true
 | []=>rfl
 | x::l=>by simp only [XY,U8 x,ZaC l,Bool.and_self]
end
theorem Zhm (x:GV) (w:World) (A A':Nat→Prop) (m m':VA) (ox:okV x) (h1:RV w A x m.a) (h2:RV w A' x m'.a):
  Calls prog 33 #[VV x m,VV x m'] w fun e w'=>e=.returned (.bool true)∧Below w.heap.size w w':=by
 have h:=Zez (Zg x) x x w A A' m m' (Nat.le_refl _) ox ox (Zl.1 h1) (Zl.1 h2)
 rw [U8] at h
 exact h
theorem ZmF {p:Prop} (h:p:=by
 rw [hF]
 clear hF h0
 go_enter func241,ntmps241
 go_wp2_with fail
 go_ret
 exact ⟨rfl,ZtZ⟩):p:=h
theorem Zo6 {p:Prop} (h:p:=by
 have HST:=hid hst
 clear hst hz hjl
 go_wp2_with fail
 go_ret
 exact ⟨Zf HST.out,ZtZ⟩):p:=h
set_option maxRecDepth 100000
theorem WH (l:List Int) (w:World) (A:Nat→Prop) (a:Option Addr) (cp:Nat) (hlen:l.length≤1048576) (ol:okIs l) (hl:RIs w A l a):
  Calls prog 241 #[.slice a l.length cp] w fun e w'=>e=.returned (.int .i64 (Yc l))∧Below w.heap.size w w':=by
 have HL:=hid hl
 have O:=hid ol
 clear hl ol
 by_cases h0:l.length=0
 ·have hF:Yc l=4:=by unfold Yc;rw [if_pos h0]
  have h0':((l.length:Int)==0)=true:=by simp [h0]
  exact ZmF
 have h0':((l.length:Int)==0)=false:=beq_eq_false_iff_ne.2 om
 by_cases h6:64 < l.length
 ·have hF:Yc l=5:=by unfold Yc;rw [if_neg h0,if_pos h6]
  exact ZmF
 have hF:Yc l=YM 0 l:=by unfold Yc;rw [if_neg h0,if_neg h6]
 rw [hF]
 clear hF
 generalize hF:YM 0 l=F
 have HF:=hid hF
 clear hF
 clear h0
 go_enter func241,ntmps241
 go_wp2_with fail
 go_loopg [3,4] (l.length) (fun gk t3 i wr=>∃(j:Nat) (S:Int),gk+j=l.length∧i=.int .i64 j∧t3=.int .i64 S∧0≤S∧S≤1048576*j∧Hid (YM S (l.drop j)=F)∧w=wr)
 case atStart=>exact ⟨0,0,om,rfl,rfl,om,om,hid (by rw [List.drop_zero];exact HF.out),rfl⟩
 case round=>
  obtain ⟨j,S,hj,rfl,rfl,hS0,hS1,HE,rfl⟩:=hrel
  by_cases hlt:j < l.length
  ·obtain ⟨b,o,rfl,hA,hbs,g0⟩:=HL.out.get j hlt
   obtain ⟨i1,i2⟩:=O.out.get j hlt
   have hst:=HE.out
   rw [List.drop_eq_getElem_cons hlt,YM] at hst
   by_cases hlo:l[j] < 0
   ·rw [if_pos (.inl hlo)] at hst
    have HST:=hid hst
    clear hst
    go_wp2_with fail
    go_ret
    exact ⟨Zf HST.out,ZtZ⟩
   by_cases hhi:1048576 < l[j]
   ·rw [if_pos (.inr hhi)] at hst
    have HST:=hid hst
    clear hst
    go_wp2_with fail
    go_ret
    exact ⟨Zf HST.out,ZtZ⟩
   rw [if_neg om] at hst
   have HST:=hid hst
   clear hst
   go_wp2_with fail
   go_roundg (gk - 1)
   case measure=>omega
   case rel=>exact ⟨j+1,S+l[j],om,by go_num,rfl,om,om,HST,rfl⟩
  have hjl:j=l.length:=om
  have hst:=HE.out
  rw [hjl,List.drop_length,YM] at hst
  by_cases hz:S=0
  ·rw [if_pos hz] at hst
   have hz':(S==0)=true:=by simp [hz]
   exact Zo6
  rw [if_neg hz] at hst
  have hz':(S==0)=false:=by simp [hz]
  exact Zo6
end Go.Proofs.YtkdffbdnjfgpeaaGreat
