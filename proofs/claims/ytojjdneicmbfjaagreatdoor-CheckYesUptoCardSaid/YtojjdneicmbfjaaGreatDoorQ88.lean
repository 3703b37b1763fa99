/- What the proofs of the Trial statements need: part 49. -/
import Derived.Deep.MidRow
import Derived.Test.YtojjdneicmbfjaaGreatDoorQ14
import Derived.Test.YtojjdneicmbfjaaGreatDoorQ35
import Derived.Test.YtojjdneicmbfjaaGreatDoorQ38
import Derived.Test.YtojjdneicmbfjaaGreatDoorQ85
import Derived.Test.YtojjdneicmbfjaaGreatDoorQ87
set_option linter.unusedVariables false
set_option linter.unusedSimpArgs false
namespace Go.Proofs.YtojjdneicmbfjaaGreatDoor
open Go.Lib (hid)
open Go Go.RowKit
theorem ready_nil {md:Region.Mode} {ops:Array Oper} {L:Array Bool} (h:L.toList.count false=0) (hs:L.size=ops.size):Region.ready md ops L=[]:=by
 unfold Region.ready
 rw [List.filter_eq_nil_iff]
 intro i hi
 have hlt:i < L.size:=by rw [hs];exact List.mem_range.1 hi
 have hm:L[i]∈L.toList:=Array.getElem_mem_toList hlt
 have:L[i]=true:=by
  cases hb:L[i] with
  | true=>rfl
  | false=>rw [hb] at hm;exact absurd hm (List.count_eq_zero.1 h)
 simp [Array.getD,hlt,this]
theorem ready_mem {md:Region.Mode} {ops:Array Oper} {L:Array Bool} {i:Nat} (h:i∈Region.ready md ops L) (hs:L.size=ops.size):∃hlt:i < L.size,L[i]=false:=by
 unfold Region.ready at h
 obtain ⟨h1,h2⟩:=List.mem_filter.1 h
 have hlt:i < L.size:=by rw [hs];exact List.mem_range.1 h1
 refine ⟨hlt,?_⟩
 simp only [Bool.and_eq_true] at h2
 have h3:=h2.1
 simpa [Array.getD,hlt] using h3
theorem count_set {L:Array Bool} {i:Nat} (h:i < L.size) (hb:L[i]=false):(L.setIfInBounds i true).toList.count false+1=L.toList.count false:=by
 have hl:i < L.toList.length:=by simpa using h
 have h1:L.toList[i]=false:=by simpa using hb
 have h2:0 < L.toList.count false:=List.count_pos_iff.2 (by rw [←h1];exact List.getElem_mem _)
 rw [Array.toList_setIfInBounds,List.count_set hl,h1]
 have h3:((false==false)=true):=rfl
 have h4:¬((true==false)=true):=by simp
 rw [if_pos h3,if_neg h4]
 omega
theorem wpAny_inv {P:Program} {md:Region.Mode} {ops:Array Oper} {Q:Exit→Act→World→Prop} (I:Array Bool→Act→World→Prop) (hsz:∀L a w,I L a w→L.size=ops.size)
  (hstep:∀L a w,I L a w→∀i∈Region.ready md ops L,wpOp P ops Q i (I (L.setIfInBounds i true)) a w) (hend:∀L a w,I L a w→Region.ready md ops L=[]→Q .normal a w):
  ∀(fuel:Nat) (L:Array Bool) (a:Act) (w:World),L.toList.count false≤fuel→I L a w→wpAny P md ops Q fuel L a w
 | 0,L,a,w,hc,h=>by
  have hn:=ready_nil (md:=md) (show L.toList.count false=0 by omega) (hsz L a w h)
  exact ⟨hn,hend L a w h hn⟩
 | fuel+1,L,a,w,hc,h=>⟨hend L a w h,fun i hi=>wpOp_mono (fun a w hI=>by
   obtain ⟨hlt,hb⟩:=ready_mem hi (hsz L _ _ h)
   exact wpAny_inv I hsz hstep hend fuel _ a w (by have:=count_set hlt hb;omega) hI) (hstep L a w h i hi)⟩
section
def bitL (L:Array Bool) (i:Nat):Bool:=L.getD i false
theorem bit_new {L:Array Bool} {i:Nat} (h:i < L.size):bitL (L.setIfInBounds i true) i=true:=by simp [bitL,Array.getD,h]
theorem bit_ne {L:Array Bool} {i j:Nat} (h:i≠j):bitL (L.setIfInBounds i true) j=bitL L j:=by
 simp only [bitL,Array.getD_eq_getD_getElem?,Array.getElem?_setIfInBounds_ne h]
theorem bit_keep {L:Array Bool} {i j:Nat} (h:bitL L j=true):bitL (L.setIfInBounds i true) j=true:=by
 by_cases hij:i=j
 ·have hj:j < L.size:=by
   rcases Nat.lt_or_ge j L.size with h1|h1
   ·exact h1
   ·simp [bitL,Array.getD,Nat.not_lt.2 h1] at h
  rw [hij];exact bit_new hj
 ·rw [bit_ne hij];exact h
theorem eval_same {a:Act} {d:Nat} {v:Value} (h:d < a.tmps.size):(a.put (some d) v).eval (.tmp d)=v:=by simp [Act.put,Act.eval,Array.getD,h]
theorem eval_ne {a:Act} {d t:Nat} {v:Value} (h:d≠t):(a.put (some d) v).eval (.tmp t)=a.eval (.tmp t):=by
 simp only [Act.put,Act.eval,Array.getD_eq_getD_getElem?,Array.getElem?_setIfInBounds_ne h]
def tmpY:Nat→Nat
 | 0=>27|1=>28|2=>29|3=>30|4=>31|5=>32|6=>33|7=>34|8=>9|9=>10|_=>0
def yTmps:List Nat:=[9,10,27,28,29,30,31,32,33,34]
structure SameA (a0 a:Act):Prop where
 d:a.defers=a0.defers
 s:a.tmps.size=a0.tmps.size
 k:∀k,k∉yTmps→a.tmps[k]? =a0.tmps[k]?
theorem SameA.put {a0 a:Act} (h:SameA a0 a) {d:Nat} (hd:d∈yTmps) (v:Value):SameA a0 (a.put (some d) v):=
 ⟨h.d,by simp [Act.put,h.s],fun k hk=>by
  have:d≠k:=fun e=>hk (e ▸ hd)
  simp only [Act.put,Array.getElem?_setIfInBounds_ne this]
  exact h.k k hk⟩
theorem SameA.eval {a0 a:Act} (h:SameA a0 a) {t:Nat} (ht:t∉yTmps):a.eval (.tmp t)=a0.eval (.tmp t):=by
 simp only [Act.eval,Array.getD_eq_getD_getElem?,h.k t ht]
abbrev z0:PA:=⟨none,0,none,0⟩
abbrev ptr (b:Nat):Value:=.pointer (some ⟨b,0,none⟩)
abbrev pL (q:GP) (m:PA):List Value:=[.int .u8 q.k,.int .u8 q.v.k,.int .i64 q.v.n,.slice m.va q.v.l.length m.vc,.int .i64 q.n,.slice m.a q.a.length m.c]
def YF (W1:World) (p:GP) (mp:PA) (a:Act) (W:World) (j:Nat):Prop:=
 (j=0→a.eval (.tmp 27)=PV p mp)∧(j=1→a.eval (.tmp 28)=PV yesG z0) ∧
 (j=2→∃S,a.eval (.tmp 29)=.slice (some ⟨S,0,none⟩) 2 2∧RPs W (fun _=>True) [p,yesG] (some ⟨S,0,none⟩)) ∧
 (j=3→∃m,a.eval (.tmp 30)=PV (andG p) m∧RP W (fun b=>W1.heap.size≤b∧a.eval (.tmp 9)≠ptr b∧a.eval (.tmp 10)≠ptr b) (andG p) m) ∧
 (j=4→a.eval (.tmp 31)=PV noG z0)∧(j=5→a.eval (.tmp 32)=PV p mp) ∧
 (j=6→∃S,a.eval (.tmp 33)=.slice (some ⟨S,0,none⟩) 2 2∧RPs W (fun _=>True) [noG,p] (some ⟨S,0,none⟩)) ∧
 (j=7→∃m,a.eval (.tmp 34)=PV (orG p) m∧RP W (fun b=>W1.heap.size≤b∧a.eval (.tmp 9)≠ptr b∧a.eval (.tmp 10)≠ptr b) (orG p) m) ∧
 (j=8→∃D,a.eval (.tmp 9)=ptr D∧W1.heap.size≤D∧D < W.heap.size∧W.there D 0 6∧a.eval (.tmp 10)≠ptr D) ∧
 (j=9→∃D,a.eval (.tmp 10)=ptr D∧W1.heap.size≤D∧D < W.heap.size∧W.there D 0 6)
structure YS (a0:Act) (W1:World) (p:GP) (mp:PA) (L:Array Bool) (a:Act) (W:World):Prop where
 sz:L.size=12
 same:SameA a0 a
 bw:Below W1.heap.size W1 W
 g9:∀b,a.eval (.tmp 9)=ptr b→b < W.heap.size
 g10:∀b,a.eval (.tmp 10)=ptr b→b < W.heap.size
 f:∀j,bitL L j=true→YF W1 p mp a W j
 c6:bitL L 6=true→bitL L 4=true∧bitL L 5=true
 c7:bitL L 7=true→bitL L 6=true
section
variable {a0:Act} {W1:World} {p:GP} {mp:PA} {L:Array Bool} {a:Act} {W W':World} {i d:Nat} {v:Value}
theorem there_below (hb:Below W.heap.size W W') {D n:Nat} (hD:D < W.heap.size) (h:W.there D 0 n):W'.there D 0 n:=fun j hj=>by
 rw [hb.cell hD,hb.frozen hD];exact h j hj
theorem YF.keep {j:Nat} (h:YF W1 p mp a W j) (hb:Below W.heap.size W W') (hk:∀k,k < 10→k≠i→(a.put (some d) v).eval (.tmp (tmpY k))=a.eval (.tmp (tmpY k))) (hij:j≠i)
  (h9:∀b,b < W.heap.size→a.eval (.tmp 9)≠ptr b→(a.put (some d) v).eval (.tmp 9)≠ptr b) (h10:∀b,b < W.heap.size→a.eval (.tmp 10)≠ptr b→(a.put (some d) v).eval (.tmp 10)≠ptr b):YF W1 p mp (a.put (some d) v) W' j:=by
 obtain ⟨f0,f1,f2,f3,f4,f5,f6,f7,f8,f9⟩:=h
 have hsz:=hb.size
 refine ⟨fun e=>?_,fun e=>?_,fun e=>?_,fun e=>?_,fun e=>?_,fun e=>?_,fun e=>?_,fun e=>?_,fun e=>?_,fun e=>?_⟩<;>subst e
 ·exact (hk 0 (by omega) hij).trans (f0 rfl)
 ·exact (hk 1 (by omega) hij).trans (f1 rfl)
 ·obtain ⟨S,e,hr⟩:=f2 rfl
  exact ⟨S,by exact (hk 2 (by omega) hij).trans (e),RPs.ext (Agree.below hb) _ _ hr⟩
 ·obtain ⟨m,e,hr⟩:=f3 rfl
  exact ⟨m,by exact (hk 3 (by omega) hij).trans (e),RP.ext (Agree.below hb) _ _ (RP.mono (fun b ⟨h1,h2,h3⟩ hlt=>⟨h1,h9 b hlt h2,h10 b hlt h3⟩) _ _ hr)⟩
 ·exact (hk 4 (by omega) hij).trans (f4 rfl)
 ·exact (hk 5 (by omega) hij).trans (f5 rfl)
 ·obtain ⟨S,e,hr⟩:=f6 rfl
  exact ⟨S,by exact (hk 6 (by omega) hij).trans (e),RPs.ext (Agree.below hb) _ _ hr⟩
 ·obtain ⟨m,e,hr⟩:=f7 rfl
  exact ⟨m,by exact (hk 7 (by omega) hij).trans (e),RP.ext (Agree.below hb) _ _ (RP.mono (fun b ⟨h1,h2,h3⟩ hlt=>⟨h1,h9 b hlt h2,h10 b hlt h3⟩) _ _ hr)⟩
 ·obtain ⟨D,e,h1,h2,h3,h4⟩:=f8 rfl
  exact ⟨D,by exact (hk 8 (by omega) hij).trans (e),h1,by omega,there_below hb h2 h3,h10 D h2 h4⟩
 ·obtain ⟨D,e,h1,h2,h3⟩:=f9 rfl
  exact ⟨D,by exact (hk 9 (by omega) hij).trans (e),h1,by omega,there_below hb h2 h3⟩
theorem tmpY_mem:∀k,k < 10→tmpY k∈yTmps:=by decide
theorem tmpY_inj:∀k,k < 10→∀i,i < 10→k≠i→tmpY i≠tmpY k:=by decide
theorem YS.step (h:YS a0 W1 p mp L a W) (hi:i < 10) (hd:d=tmpY i) (hs0:34 < a0.tmps.size) (hb:Below W.heap.size W W') (hv:(i=8∨i=9)→v=ptr W.heap.size∧W.heap.size < W'.heap.size)
  (g:YF W1 p mp (a.put (some d) v) W' i) (k6:i=6→bitL L 4=true∧bitL L 5=true) (k7:i=7→bitL L 6=true):YS a0 W1 p mp (L.setIfInBounds i true) (a.put (some d) v) W':=by
 have hsz:=h.bw.size
 have hsz2:=hb.size
 have hdm:d∈yTmps:=hd ▸ tmpY_mem i hi
 have hk:∀k,k < 10→k≠i→(a.put (some d) v).eval (.tmp (tmpY k))=a.eval (.tmp (tmpY k)):=fun k hk hki=>eval_ne (by rw [hd];exact tmpY_inj k hk i hi hki)
 have hin:d < a.tmps.size:=by
  rw [h.same.s]
  have h34:∀x∈yTmps,x≤34:=by decide
  have:=h34 d hdm
  omega
 have e9:(i=8∧(a.put (some d) v).eval (.tmp 9)=ptr W.heap.size∧W.heap.size < W'.heap.size)∨(a.put (some d) v).eval (.tmp 9)=a.eval (.tmp 9):=by
  by_cases hi8:i=8
  ·left
   obtain ⟨hv1,hv2⟩:=hv (.inl hi8)
   refine ⟨hi8,?_,hv2⟩
   have:d=9:=by rw [hd,hi8];rfl
   rw [←this,eval_same hin,hv1]
  ·exact .inr (hk 8 (by omega) (by omega))
 have e10:(i=9∧(a.put (some d) v).eval (.tmp 10)=ptr W.heap.size∧W.heap.size < W'.heap.size)∨(a.put (some d) v).eval (.tmp 10)=a.eval (.tmp 10):=by
  by_cases hi8:i=9
  ·left
   obtain ⟨hv1,hv2⟩:=hv (.inr hi8)
   refine ⟨hi8,?_,hv2⟩
   have:d=10:=by rw [hd,hi8];rfl
   rw [←this,eval_same hin,hv1]
  ·exact .inr (hk 9 (by omega) (by omega))
 refine ⟨by simp [h.sz],h.same.put hdm v,h.bw.trans (hb.mono hsz),fun b e=>?_,fun b e=>?_,fun j hj=>?_,fun hx=>?_,fun hx=>?_⟩
 ·rcases e9 with ⟨-,e9,hlt⟩|e9
  ·rw [e9] at e;cases e;exact hlt
  ·rw [e9] at e;have:=h.g9 b e;omega
 ·rcases e10 with ⟨-,e9,hlt⟩|e9
  ·rw [e9] at e;cases e;exact hlt
  ·rw [e9] at e;have:=h.g10 b e;omega
 ·by_cases hji:j=i
  ·rw [hji];exact g
  ·refine (h.f j (by rw [←bit_ne (fun e=>hji e.symm)];exact hj)).keep hb hk hji (fun b hlt hne=>?_) (fun b hlt hne=>?_)
   ·rcases e9 with ⟨-,e9, -⟩|e9
    ·rw [e9];intro e;cases e;omega
    ·rw [e9];exact hne
   ·rcases e10 with ⟨-,e9, -⟩|e9
    ·rw [e9];intro e;cases e;omega
    ·rw [e9];exact hne
 ·by_cases h6:i=6
  ·exact ⟨bit_keep (k6 h6).1,bit_keep (k6 h6).2⟩
  ·rw [bit_ne h6] at hx;exact ⟨bit_keep (h.c6 hx).1,bit_keep (h.c6 hx).2⟩
 ·by_cases h7:i=7
  ·exact bit_keep (k7 h7)
  ·rw [bit_ne h7] at hx;exact bit_keep (h.c7 hx)
theorem wp_valueY {P:Program} {o:Oper} {K:Act→World→Prop} {Q:Exit→Act→World→Prop} (h:(execOp a.eval o).run P W=.ok (.value v) W') (hd:o.dst=some d) (hK:K (a.put (some d) v) W'):o.wp P a W K Q:=by
 unfold Oper.wp;rw [h,Oper.upon_value,hd];exact hK
theorem wp_callY {P:Program} {o:Oper} {K:Act→World→Prop} {Q:Exit→Act→World→Prop} {fn:FuncId} {args:Array Value} (h:(execOp a.eval o).run P W=.ok (.enter fn args) W) (hd:o.dst=some d)
  (hc:Calls P fn args W fun e W'=>∃v,e=.returned v∧K (a.put (some d) v) W'):o.wp P a W K Q:=by
 unfold Oper.wp;rw [h,Oper.upon_enter,hd]
 exact hc.mono fun e w' he=>by obtain ⟨v,rfl,hK⟩:=he;exact hK
end
end
section
theorem bSlAnd (p:GP) (m:PA) (w:World):(Instr.buildSlice 26 2 #[(0,PV p m),(1,PV yesG z0)]).run Tryz.prog w=.ok (.slice (some ⟨w.heap.size,0,none⟩) 2 2) (w.alloc (.cells (pL p m++pL yesG z0).toArray 28)):=by
 obtain ⟨ie,hie,y0,y1,y2⟩:=info_parts infoPred9
 exact run_buildSlice w 26 28 2 _ _ ie _ Tryz.underlying26 hie y0 (by rw [y1];decide) (by rw [y1];decide) (by rw [y1];kernel_rfl)
theorem bSlOr (p:GP) (m:PA) (w:World):(Instr.buildSlice 26 2 #[(0,PV noG z0),(1,PV p m)]).run Tryz.prog w=.ok (.slice (some ⟨w.heap.size,0,none⟩) 2 2) (w.alloc (.cells (pL noG z0++pL p m).toArray 28)):=by
 obtain ⟨ie,hie,y0,y1,y2⟩:=info_parts infoPred9
 exact run_buildSlice w 26 28 2 _ _ ie _ Tryz.underlying26 hie y0 (by rw [y1];decide) (by rw [y1];decide) (by rw [y1];kernel_rfl)
theorem y_call1 {P:Program} (a:Act) (f:FuncId) (t:Tmp) (T:TypeId) (W:World) (o:Oper) (hf:∀args w,(callFunc f args).run P w=.ok (.enter f args) w) (h:o.op=.call { callee:=.value (.func f),args:=#[.tmp t],argTypes:=#[T] }):(execOp a.eval o).run P W=.ok (.enter f #[a.eval (.tmp t)]) W:=by
 unfold execOp;rw [h];go_simp
theorem y_call0 {P:Program} (a:Act) (f:FuncId) (W:World) (o:Oper) (hf:∀args w,(callFunc f args).run P w=.ok (.enter f args) w) (h:o.op=.call { callee:=.value (.func f),args:=#[],argTypes:=#[] }):(execOp a.eval o).run P W=.ok (.enter f #[]) W:=by
 unfold execOp;rw [h];go_simp
theorem y_alloc (a:Act) (W:World) (o:Oper) (h:o.op=.alloc 28):(execOp a.eval o).run Tryz.prog W=.ok (.value (ptr W.heap.size)) (W.alloc (.cells #[.int .u8 0,.int .u8 0,.int .i64 0,.slice none 0 0,.int .i64 0,.slice none 0 0] 28)):=by
 unfold execOp;rw [h];go_simp
section
variable {a0:Act} {W1:World} {p:GP} {mp:PA} {L:Array Bool} {a:Act} {W:World} {Q:Exit→Act→World→Prop} {o:Oper}
theorem y_alloc8 (h:YS a0 W1 p mp L a W) (hs0:34 < a0.tmps.size) (ho:o.op=.alloc 28) (hd:o.dst=some 9):o.wp Tryz.prog a W (YS a0 W1 p mp (L.setIfInBounds 8 true)) Q:=by
 have hb:Below W.heap.size W (W.alloc (.cells #[.int .u8 0,.int .u8 0,.int .i64 0,.slice none 0 0,.int .i64 0,.slice none 0 0] 28)):=Below.alloc (Below.refl _ _) (Nat.le_refl _) _
 have hin:9 < a.tmps.size:=by rw [h.same.s];omega
 have hsz:=h.bw.size
 refine wp_valueY (y_alloc a W o ho) hd (h.step (by omega) rfl hs0 hb (fun _=>⟨rfl,by simp⟩) ?_ (by omega) (by omega))
 refine ⟨by omega,by omega,by omega,by omega,by omega,by omega,by omega,by omega,fun _=>⟨W.heap.size,eval_same hin,hsz,by simp,?_,?_⟩,by omega⟩
 ·intro j hj
  rcases (show j=0∨j=1∨j=2∨j=3∨j=4∨j=5 by omega) with rfl|rfl|rfl|rfl|rfl|rfl<;>go_simp
 ·rw [eval_ne (by omega)];intro e;have:=h.g10 _ e;omega
theorem y_alloc9 (h:YS a0 W1 p mp L a W) (hs0:34 < a0.tmps.size) (ho:o.op=.alloc 28) (hd:o.dst=some 10):o.wp Tryz.prog a W (YS a0 W1 p mp (L.setIfInBounds 9 true)) Q:=by
 have hb:Below W.heap.size W (W.alloc (.cells #[.int .u8 0,.int .u8 0,.int .i64 0,.slice none 0 0,.int .i64 0,.slice none 0 0] 28)):=Below.alloc (Below.refl _ _) (Nat.le_refl _) _
 have hin:10 < a.tmps.size:=by rw [h.same.s];omega
 have hsz:=h.bw.size
 refine wp_valueY (y_alloc a W o ho) hd (h.step (by omega) rfl hs0 hb (fun _=>⟨rfl,by simp⟩) ?_ (by omega) (by omega))
 refine ⟨by omega,by omega,by omega,by omega,by omega,by omega,by omega,by omega,by omega,fun _=>⟨W.heap.size,eval_same hin,hsz,by simp,?_⟩⟩
 ·intro j hj
  rcases (show j=0∨j=1∨j=2∨j=3∨j=4∨j=5 by omega) with rfl|rfl|rfl|rfl|rfl|rfl<;>go_simp
theorem y_load0 (h:YS a0 W1 p mp L a W) (hs0:34 < a0.tmps.size) {B:Nat} (h5:a0.eval (.tmp 5)=ptr B) (hB:B < W1.heap.size) (hc:At W1 B 0 (pL p mp)) (ho:o.op=.load 28 (.tmp 5)) (hd:o.dst=some 27):o.wp Tryz.prog a W (YS a0 W1 p mp (L.setIfInBounds 0 true)) Q:=by
 have hin:27 < a.tmps.size:=by rw [h.same.s];omega
 obtain ⟨ie,hie,y0,y1,y2⟩:=info_parts infoPred9
 refine wp_load_mid 28 (.tmp 5) ho B 0 (by rw [h.same.eval (by decide)];exact h5) (pL p mp) _ (fun j v hj=>At_cellM (At.ext (A:=fun _=>True) (fun q v hA hv=>(h.bw.cell (World.block_lt_of_cell? _ _ hv)).trans hv) trivial _ _ hc) j v hj) Tryz.underlying28 rfl (by rw [hie,Option.map_some,y1];rfl) ?_
 rw [hd]
 refine h.step (by omega) rfl hs0 (Below.refl _ _) (by omega) ⟨fun _=>eval_same hin,by omega,by omega,by omega,by omega,by omega,by omega,by omega,by omega,by omega⟩ (by omega) (by omega)
theorem y_load5 (h:YS a0 W1 p mp L a W) (hs0:34 < a0.tmps.size) {B:Nat} (h5:a0.eval (.tmp 5)=ptr B) (hB:B < W1.heap.size) (hc:At W1 B 0 (pL p mp)) (ho:o.op=.load 28 (.tmp 5)) (hd:o.dst=some 32):o.wp Tryz.prog a W (YS a0 W1 p mp (L.setIfInBounds 5 true)) Q:=by
 have hin:32 < a.tmps.size:=by rw [h.same.s];omega
 obtain ⟨ie,hie,y0,y1,y2⟩:=info_parts infoPred9
 refine wp_load_mid 28 (.tmp 5) ho B 0 (by rw [h.same.eval (by decide)];exact h5) (pL p mp) _ (fun j v hj=>At_cellM (At.ext (A:=fun _=>True) (fun q v hA hv=>(h.bw.cell (World.block_lt_of_cell? _ _ hv)).trans hv) trivial _ _ hc) j v hj) Tryz.underlying28 rfl (by rw [hie,Option.map_some,y1];rfl) ?_
 rw [hd]
 refine h.step (by omega) rfl hs0 (Below.refl _ _) (by omega) ⟨by omega,by omega,by omega,by omega,by omega,fun _=>eval_same hin,by omega,by omega,by omega,by omega⟩ (by omega) (by omega)
theorem y_yes (h:YS a0 W1 p mp L a W) (hs0:34 < a0.tmps.size) (ho:o.op=.call { callee:=.value (.func 36),args:=#[],argTypes:=#[] }) (hd:o.dst=some 28):o.wp Tryz.prog a W (YS a0 W1 p mp (L.setIfInBounds 1 true)) Q:=by
 have hin:28 < a.tmps.size:=by rw [h.same.s];omega
 refine wp_callY (y_call0 a _ W o Tryz.call36 ho) hd ((cYes_any W).mono fun e w' ⟨he,hb⟩=>⟨_,he,?_⟩)
 exact h.step (by omega) rfl hs0 hb (by omega) ⟨by omega,fun _=>eval_same hin,by omega,by omega,by omega,by omega,by omega,by omega,by omega,by omega⟩ (by omega) (by omega)
theorem y_no (h:YS a0 W1 p mp L a W) (hs0:34 < a0.tmps.size) (ho:o.op=.call { callee:=.value (.func 38),args:=#[],argTypes:=#[] }) (hd:o.dst=some 31):o.wp Tryz.prog a W (YS a0 W1 p mp (L.setIfInBounds 4 true)) Q:=by
 have hin:31 < a.tmps.size:=by rw [h.same.s];omega
 refine wp_callY (y_call0 a _ W o Tryz.call38 ho) hd ((cNo_any W).mono fun e w' ⟨he,hb⟩=>⟨_,he,?_⟩)
 exact h.step (by omega) rfl hs0 hb (by omega) ⟨by omega,by omega,by omega,by omega,fun _=>eval_same hin,by omega,by omega,by omega,by omega,by omega⟩ (by omega) (by omega)
theorem y_and (h:YS a0 W1 p mp L a W) (hs0:34 < a0.tmps.size) (op:okP p) (h2:bitL L 2=true) (ho:o.op=.call { callee:=.value (.func 35),args:=#[.tmp 29],argTypes:=#[26] }) (hd:o.dst=some 30):o.wp Tryz.prog a W (YS a0 W1 p mp (L.setIfInBounds 3 true)) Q:=by
 have hin:30 < a.tmps.size:=by rw [h.same.s];omega
 obtain ⟨S,e,hr⟩:=(h.f 2 h2).2.2.1 rfl
 have hsz:=h.bw.size
 refine wp_callY (y_call1 a _ _ _ W o Tryz.call35 ho) hd ?_
 rw [e]
 refine (pAnd_any [p,yesG] W (fun _=>True) (some ⟨S,0,none⟩) 2 (by simp) (okP_and op).1 hr).mono fun e w' ⟨hb,m,he,hrr⟩=>⟨_,he,?_⟩
 refine h.step (by omega) rfl hs0 hb (by omega) ⟨by omega,by omega,by omega,fun _=>⟨m,eval_same hin,RP.mono (fun b hb _=>⟨by omega,?_,?_⟩) _ _ hrr⟩,by omega,by omega,by omega,by omega,by omega,by omega⟩ (by omega) (by omega)
 ·rw [eval_ne (by omega)];intro e;have:=h.g9 _ e;omega
 ·rw [eval_ne (by omega)];intro e;have:=h.g10 _ e;omega
theorem y_or (h:YS a0 W1 p mp L a W) (hs0:34 < a0.tmps.size) (op:okP p) (h2:bitL L 6=true) (ho:o.op=.call { callee:=.value (.func 37),args:=#[.tmp 33],argTypes:=#[26] }) (hd:o.dst=some 34):o.wp Tryz.prog a W (YS a0 W1 p mp (L.setIfInBounds 7 true)) Q:=by
 have hin:34 < a.tmps.size:=by rw [h.same.s];omega
 obtain ⟨S,e,hr⟩:=(h.f 6 h2).2.2.2.2.2.2.1 rfl
 have hsz:=h.bw.size
 refine wp_callY (y_call1 a _ _ _ W o Tryz.call37 ho) hd ?_
 rw [e]
 refine (pOr_any [noG,p] W (fun _=>True) (some ⟨S,0,none⟩) 2 (by simp) (okP_and op).2.2.1 hr).mono fun e w' ⟨hb,m,he,hrr⟩=>⟨_,he,?_⟩
 refine h.step (by omega) rfl hs0 hb (by omega) ⟨by omega,by omega,by omega,by omega,by omega,by omega,by omega,fun _=>⟨m,eval_same hin,RP.mono (fun b hb _=>⟨by omega,?_,?_⟩) _ _ hrr⟩,by omega,by omega⟩ (by omega) (fun _=>h2)
 ·rw [eval_ne (by omega)];intro e;have:=h.g9 _ e;omega
 ·rw [eval_ne (by omega)];intro e;have:=h.g10 _ e;omega
end
end
section
theorem AtY_fst {W:World} {cs:Array Value} {T:TypeId} {b:Nat} {l r:List Value} (hc:cs.toList=l++r) (hb:b=W.heap.size):At (W.alloc (.cells cs T)) b 0 l:=
 At_new hb fun j u hj=>by
  rw [hc,Nat.zero_add,List.getElem?_append_left (List.getElem?_eq_some_iff.1 hj).1];exact hj
theorem AtY_snd {W:World} {cs:Array Value} {T:TypeId} {b o:Nat} {l q:List Value} (hc:cs.toList=q++l) (ho:o=q.length) (hb:b=W.heap.size):At (W.alloc (.cells cs T)) b o l:=
 At_new hb fun j u hj=>by
  rw [hc,ho,List.getElem?_append_right (by omega),Nat.add_sub_cancel_left];exact hj
theorem AtY_same {w:World} {c:Nat} {vs:List Value} (h:w.there c 0 vs.length):At (w.setCells c 0 vs) c 0 vs:=
 At_all vs 0 fun j v hj=>World.rangeAt_setCells_same w c 0 vs h j v hj
theorem agreeY {w:World} {c:Nat} {vs:List Value}:Agree (fun b=>b≠c) w (w.setCells c 0 vs):=fun q v hA hc=>by
 rw [World.cell?_setCells_out c vs 0 w q (fun e _=>absurd e hA)];exact hc
theorem belowY {B c:Nat} {a:World} (hc:B≤c):∀(vs:List Value) (o:Nat) (w:World),Below B a w→Below B a (w.setCells c o vs)
 | [],_,_,h=>h
 | v::r,o,w,h=>by rw [World.setCells];exact belowY hc r (o+1) _ (h.setCell (p:=⟨c,o,none⟩) hc v)
def YM (W1:World) (p:GP) (a:Act) (W:World):Prop:=∃D9 D10 m3 m7,a.eval (.tmp 9)=ptr D9∧a.eval (.tmp 10)=ptr D10∧D10≠D9∧W1.heap.size≤D9∧W1.heap.size≤D10∧Below W1.heap.size W1 W∧At W D9 0 (pL (andG p) m3) ∧
 RP W (fun b=>b≠D9∧b≠D10) (andG p) m3∧a.eval (.tmp 34)=PV (orG p) m7∧RP W (fun b=>b≠D9∧b≠D10) (orG p) m7∧W.there D10 0 6
def YE (W1:World) (p:GP) (a:Act) (W:World):Prop:=∃D9 D10 m3 m7,a.eval (.tmp 9)=ptr D9∧a.eval (.tmp 10)=ptr D10∧Below W1.heap.size W1 W∧At W D9 0 (pL (andG p) m3) ∧
 RP W (fun _=>True) (andG p) m3∧At W D10 0 (pL (orG p) m7)∧RP W (fun _=>True) (orG p) m7
def YI (a0:Act) (W1:World) (p:GP) (mp:PA) (L:Array Bool) (a:Act) (W:World):Prop:=L.size=12 ∧
 ((bitL L 10=false∧bitL L 11=false∧YS a0 W1 p mp L a W)∨((∀j,j < 11→bitL L j=true)∧bitL L 11=false∧SameA a0 a∧YM W1 p a W)∨((∀j,j < 12→bitL L j=true)∧SameA a0 a∧YE W1 p a W))
section
variable {a0:Act} {W1:World} {p:GP} {mp:PA} {L:Array Bool} {a:Act} {W:World} {Q:Exit→Act→World→Prop} {o:Oper}
theorem y_bAnd (h:YS a0 W1 p mp L a W) (hs0:34 < a0.tmps.size) (hr:RP W1 (fun _=>True) p mp) (h0:bitL L 0=true) (h1:bitL L 1=true) (ho:o.op=.buildSlice 26 2 #[(0,.tmp 27),(1,.tmp 28)]) (hd:o.dst=some 29):o.wp Tryz.prog a W (YS a0 W1 p mp (L.setIfInBounds 2 true)) Q:=by
 have hin:29 < a.tmps.size:=by rw [h.same.s];omega
 have e0:=(h.f 0 h0).1 rfl
 have e1:=(h.f 1 h1).2.1 rfl
 have hb:Below W.heap.size W (W.alloc (.cells (pL p mp++pL yesG z0).toArray 28)):=Below.alloc (Below.refl _ _) (Nat.le_refl _) _
 have hr1:=RP.ext (fun q v hA hv=>(h.bw.cell (World.block_lt_of_cell? _ _ hv)).trans hv) _ _ hr
 refine wp_bSlK hd ho (bSlAnd p mp W) (by simp [e0,e1]) (h.step (by omega) rfl hs0 hb (by omega) ⟨by omega,by omega,fun _=>⟨W.heap.size,eval_same hin,?_⟩,by omega,by omega,by omega,by omega,by omega,by omega,by omega⟩ (by omega) (by omega))
 simp only [RPs]
 exact ⟨_,_,mp,rfl,trivial,AtY_fst rfl rfl,RP.ext (Agree.below hb) _ _ hr1,_,_,z0,rfl,trivial,AtY_snd rfl rfl rfl,by simp [RP,RV,RVs,RPs],trivial⟩
theorem y_bOr (h:YS a0 W1 p mp L a W) (hs0:34 < a0.tmps.size) (hr:RP W1 (fun _=>True) p mp) (h0:bitL L 4=true) (h1:bitL L 5=true) (ho:o.op=.buildSlice 26 2 #[(0,.tmp 31),(1,.tmp 32)]) (hd:o.dst=some 33):o.wp Tryz.prog a W (YS a0 W1 p mp (L.setIfInBounds 6 true)) Q:=by
 have hin:33 < a.tmps.size:=by rw [h.same.s];omega
 have e0:=(h.f 4 h0).2.2.2.2.1 rfl
 have e1:=(h.f 5 h1).2.2.2.2.2.1 rfl
 have hb:Below W.heap.size W (W.alloc (.cells (pL noG z0++pL p mp).toArray 28)):=Below.alloc (Below.refl _ _) (Nat.le_refl _) _
 have hr1:=RP.ext (fun q v hA hv=>(h.bw.cell (World.block_lt_of_cell? _ _ hv)).trans hv) _ _ hr
 refine wp_bSlK hd ho (bSlOr p mp W) (by simp [e0,e1]) (h.step (by omega) rfl hs0 hb (by omega) ⟨by omega,by omega,by omega,by omega,by omega,by omega,fun _=>⟨W.heap.size,eval_same hin,?_⟩,by omega,by omega,by omega⟩ (fun _=>⟨h0,h1⟩) (by omega))
 simp only [RPs]
 exact ⟨_,_,z0,rfl,trivial,AtY_fst rfl rfl,by simp [RP,RV,RVs,RPs],_,_,mp,rfl,trivial,AtY_snd rfl rfl rfl,RP.ext (Agree.below hb) _ _ hr1,trivial⟩
theorem y_st10 (h:YS a0 W1 p mp L a W) (hall:∀j,j < 10→bitL L j=true) (ho:o.op=.store 28 (.tmp 9) (.tmp 30)) (hd:o.dst=none):o.wp Tryz.prog a W (fun a' W'=>SameA a0 a'∧YM W1 p a' W') Q:=by
 obtain ⟨m3,e3,r3⟩:=(h.f 3 (hall 3 (by omega))).2.2.2.1 rfl
 obtain ⟨m7,e7,r7⟩:=(h.f 7 (hall 7 (by omega))).2.2.2.2.2.2.2.1 rfl
 obtain ⟨D9,e9,h91,h92,h93,h94⟩:=(h.f 8 (hall 8 (by omega))).2.2.2.2.2.2.2.2.1 rfl
 obtain ⟨D10,e10,h101,h102,h103⟩:=(h.f 9 (hall 9 (by omega))).2.2.2.2.2.2.2.2.2 rfl
 have hne:D10≠D9:=fun e=>h94 (e ▸ e10)
 obtain ⟨ie,hie,y0,y1,y2⟩:=info_parts infoPred9
 refine wp_store_mid 28 (.tmp 9) (.tmp 30) ho D9 0 (pL (andG p) m3).toArray e9 e3 h93 (by rw [hie,Option.map_some,y1];rfl) (by simp [pL,Value.oneCell']) ?_
 rw [hd]
 have hm:∀b,(W1.heap.size≤b∧a.eval (.tmp 9)≠ptr b∧a.eval (.tmp 10)≠ptr b)→b < W.heap.size→b≠D9∧b≠D10:=fun b ⟨_,h2,h3⟩ _=>⟨fun e=>h2 (e ▸ e9),fun e=>h3 (e ▸ e10)⟩
 have hag:Agree (fun b=>b≠D9∧b≠D10) W (W.setCells D9 0 (pL (andG p) m3)):=fun q v hA hc=>agreeY q v hA.1 hc
 exact ⟨h.same,D9,D10,m3,m7,e9,e10,hne,h91,h101,belowY h91 _ _ _ h.bw,AtY_same h93,RP.ext hag _ _ (RP.mono hm _ _ r3),e7,RP.ext hag _ _ (RP.mono hm _ _ r7),World.there_setCells h103 _ _ _⟩
theorem y_st11 (h:YM W1 p a W) (hs:SameA a0 a) (ho:o.op=.store 28 (.tmp 10) (.tmp 34)) (hd:o.dst=none):o.wp Tryz.prog a W (fun a' W'=>SameA a0 a'∧YE W1 p a' W') Q:=by
 obtain ⟨D9,D10,m3,m7,e9,e10,hne,h91,h101,hb,hat,r3,e7,r7,ht⟩:=h
 obtain ⟨ie,hie,y0,y1,y2⟩:=info_parts infoPred9
 refine wp_store_mid 28 (.tmp 10) (.tmp 34) ho D10 0 (pL (orG p) m7).toArray e10 e7 ht (by rw [hie,Option.map_some,y1];rfl) (by simp [pL,Value.oneCell']) ?_
 rw [hd]
 have hag:Agree (fun b=>b≠D9∧b≠D10) W (W.setCells D10 0 (pL (orG p) m7)):=fun q v hA hc=>agreeY q v hA.2 hc
 exact ⟨hs,D9,D10,m3,m7,e9,e10,belowY h101 _ _ _ hb,At.ext agreeY (Ne.symm hne) _ _ hat,RP.mono (fun _ _ _=>trivial) _ _ (RP.ext hag _ _ r3),AtY_same ht,RP.mono (fun _ _ _=>trivial) _ _ (RP.ext hag _ _ r7)⟩
theorem wpOp_of {P:Program} {ops:Array Oper} {i:Nat} {K:Act→World→Prop} (hi:ops[i]? =some o) (hg:o.guard=none) (h:o.wp P a W K Q):wpOp P ops Q i K a W:=by
 unfold wpOp
 rw [hi]
 have hw:Region.wanted o (yielded ops a.tmps)=true:=by unfold Region.wanted;rw [hg]
 simp only [hw,if_true]
 exact .inl h
theorem ready_on {md:Region.Mode} {ops:Array Oper} {i:Nat} (h:i∈Region.ready md ops L) (hi:ops[i]? =some o):(o.after.all fun e=> !Region.binds md e||L.getD e.on false)=true:=by
 unfold Region.ready at h
 have h2:=(List.mem_filter.1 h).2
 simp only [Bool.and_eq_true,hi,Option.map_some,Option.getD_some] at h2
 exact h2.2
theorem ready_least {md:Region.Mode} {ops:Array Oper} (hz:L.size=ops.size) (hd:∀i,i < ops.size→∀o,ops[i]? =some o→∀e∈o.after,e.on < i) (hn:Region.ready md ops L=[]):∀j,j < ops.size→bitL L j=true:=by
 intro j
 induction j using Nat.strongRecOn with
 | ind j ih=>
  intro hj
  cases hb:bitL L j with
  | true=>rfl
  | false=>
   have:j∈Region.ready md ops L:=by
    unfold Region.ready
    refine List.mem_filter.2 ⟨List.mem_range.2 hj,?_⟩
    have h1:L.getD j true=false:=by
     unfold bitL at hb
     have hj2:j < L.size:=by omega
     simpa [Array.getD,hj2] using hb
    have h2:ops[j]? =some ops[j]:=by simp [hj]
    rw [h1,h2,Option.map_some,Option.getD_some,Bool.not_false,Bool.true_and,Array.all_eq_true']
    intro e he
    have h3:bitL L e.on=true:=ih e.on (hd j hj _ h2 e he) (by have:=hd j hj _ h2 e he;omega)
    unfold bitL at h3
    simp [h3]
   rw [hn] at this
   cases this
end
end
def Dep (o:Oper) (n:Nat):Prop:=∃(k:Nat) (e:Edge),o.after[k]? =some e∧Region.binds .any e=true∧e.on=n
def OpIs (ops:Array Oper) (i:Nat) (x:Op) (d:Option Tmp) (ds:List Nat):Prop:=∃o,ops[i]? =some o∧o.guard=none∧o.op=x∧o.dst=d∧∀n∈ds,Dep o n
theorem dep_bit {L:Array Bool} {ops:Array Oper} {i n:Nat} {o:Oper} (h:i∈Region.ready .any ops L) (hi:ops[i]? =some o) (hd:Dep o n):bitL L n=true:=by
 obtain ⟨k,e,he,hb,rfl⟩:=hd
 have h1:=ready_on h hi
 rw [Array.all_eq_true'] at h1
 have h2:=h1 e (Array.mem_of_getElem? he)
 rw [hb] at h2
 simpa [bitL] using h2
theorem bit_rep (n k:Nat):bitL (Array.replicate n false) k=false:=by
 unfold bitL
 by_cases h:k < n<;>simp [Array.getD,h]
theorem bit_get {L:Array Bool} {i:Nat} (h:i < L.size):bitL L i=L[i]:=by simp [bitL,Array.getD,h]
theorem y_region {ops:Array Oper} {Q:Exit→Act→World→Prop} {a0:Act} {W:World} {p:GP} {mp:PA} {B:Nat} (hn:ops.size=12)
  (hlow:((List.range 12).all fun i=>((ops[i]?).map (·.after.all fun e=>decide (e.on < i))).getD true)=true)
  (h0:OpIs ops 0 (.load 28 (.tmp 5)) (some 27) []) (h1:OpIs ops 1 (.call { callee:=.value (.func 36),args:=#[],argTypes:=#[] }) (some 28) [])
  (h2:OpIs ops 2 (.buildSlice 26 2 #[(0,.tmp 27),(1,.tmp 28)]) (some 29) [0,1]) (h3:OpIs ops 3 (.call { callee:=.value (.func 35),args:=#[.tmp 29],argTypes:=#[26] }) (some 30) [2])
  (h4:OpIs ops 4 (.call { callee:=.value (.func 38),args:=#[],argTypes:=#[] }) (some 31) []) (h5:OpIs ops 5 (.load 28 (.tmp 5)) (some 32) [])
  (h6:OpIs ops 6 (.buildSlice 26 2 #[(0,.tmp 31),(1,.tmp 32)]) (some 33) [4,5]) (h7:OpIs ops 7 (.call { callee:=.value (.func 37),args:=#[.tmp 33],argTypes:=#[26] }) (some 34) [6])
  (h8:OpIs ops 8 (.alloc 28) (some 9) []) (h9:OpIs ops 9 (.alloc 28) (some 10) []) (h10:OpIs ops 10 (.store 28 (.tmp 9) (.tmp 30)) none [0,1,2,3,7,8,9]) (h11:OpIs ops 11 (.store 28 (.tmp 10) (.tmp 34)) none [10])
  (hs0:34 < a0.tmps.size) (op:okP p) (hr:RP W (fun _=>True) p mp) (e5:a0.eval (.tmp 5)=ptr B) (hB:B < W.heap.size) (hc:At W B 0 (pL p mp)) (e9:∀b,a0.eval (.tmp 9)≠ptr b) (e10:∀b,a0.eval (.tmp 10)≠ptr b)
  (hQ:∀a w,SameA a0 a→YE W p a w→Q .normal a w):wpAny Tryz.prog .any ops Q ops.size (Array.replicate ops.size false) a0 W:=by
 have hlow2:∀i,i < ops.size→∀o,ops[i]? =some o→∀e∈o.after,e.on < i:=fun i hi o ho e he=>by
  have h1:=(List.all_eq_true.1 hlow) i (List.mem_range.2 (by omega))
  rw [ho,Option.map_some,Option.getD_some,Array.all_eq_true'] at h1
  exact of_decide_eq_true (h1 e he)
 refine wpAny_inv (YI a0 W p mp) (fun L a w h=>h.1.trans hn.symm) ?_ ?_ _ _ _ _ ?_ ?_
 ·rintro L a w ⟨hsz,h⟩ i hi
  obtain ⟨hlt,hbi⟩:=ready_mem hi (hsz.trans hn.symm)
  have hbi2:bitL L i=false:=by rw [bit_get hlt];exact hbi
  have hsz2:(L.setIfInBounds i true).size=12:=by simp [hsz]
  rcases h with ⟨b10,b11,h⟩|⟨hall,b11,hs,h⟩|⟨hall, -, -⟩
  ·have fin:∀{o:Oper},i < 10→ops[i]? =some o→o.guard=none→o.wp Tryz.prog a w (YS a0 W p mp (L.setIfInBounds i true)) Q→wpOp Tryz.prog ops Q i (YI a0 W p mp (L.setIfInBounds i true)) a w:=fun hi10 ho hg hw=>
    wpOp_of ho hg (Oper.wp_mono (fun a' w' h'=>⟨hsz2,.inl ⟨by rw [bit_ne (by omega)];exact b10,by rw [bit_ne (by omega)];exact b11,h'⟩⟩) hw)
   rcases (show i=0∨i=1∨i=2∨i=3∨i=4∨i=5∨i=6∨i=7∨i=8∨i=9∨i=10∨i=11 by omega) with rfl|rfl|rfl|rfl|rfl|rfl|rfl|rfl|rfl|rfl|rfl|rfl
   ·obtain ⟨o,ho,hg,hx,hd, -⟩:=h0
    exact fin (by omega) ho hg (y_load0 h hs0 e5 hB hc hx hd)
   ·obtain ⟨o,ho,hg,hx,hd, -⟩:=h1
    exact fin (by omega) ho hg (y_yes h hs0 hx hd)
   ·obtain ⟨o,ho,hg,hx,hd,hq⟩:=h2
    exact fin (by omega) ho hg (y_bAnd h hs0 hr (dep_bit hi ho (hq 0 (by simp))) (dep_bit hi ho (hq 1 (by simp))) hx hd)
   ·obtain ⟨o,ho,hg,hx,hd,hq⟩:=h3
    exact fin (by omega) ho hg (y_and h hs0 op (dep_bit hi ho (hq 2 (by simp))) hx hd)
   ·obtain ⟨o,ho,hg,hx,hd, -⟩:=h4
    exact fin (by omega) ho hg (y_no h hs0 hx hd)
   ·obtain ⟨o,ho,hg,hx,hd, -⟩:=h5
    exact fin (by omega) ho hg (y_load5 h hs0 e5 hB hc hx hd)
   ·obtain ⟨o,ho,hg,hx,hd,hq⟩:=h6
    exact fin (by omega) ho hg (y_bOr h hs0 hr (dep_bit hi ho (hq 4 (by simp))) (dep_bit hi ho (hq 5 (by simp))) hx hd)
   ·obtain ⟨o,ho,hg,hx,hd,hq⟩:=h7
    exact fin (by omega) ho hg (y_or h hs0 op (dep_bit hi ho (hq 6 (by simp))) hx hd)
   ·obtain ⟨o,ho,hg,hx,hd, -⟩:=h8
    exact fin (by omega) ho hg (y_alloc8 h hs0 hx hd)
   ·obtain ⟨o,ho,hg,hx,hd, -⟩:=h9
    exact fin (by omega) ho hg (y_alloc9 h hs0 hx hd)
   ·obtain ⟨o,ho,hg,hx,hd,hq⟩:=h10
    have d7:=dep_bit hi ho (hq 7 (by simp))
    have d6:=h.c7 d7
    have d45:=h.c6 d6
    have hall:∀j,j < 10→bitL L j=true:=fun j hj=>by
     rcases (show j=0∨j=1∨j=2∨j=3∨j=4∨j=5∨j=6∨j=7∨j=8∨j=9 by omega) with rfl|rfl|rfl|rfl|rfl|rfl|rfl|rfl|rfl|rfl
     ·exact dep_bit hi ho (hq 0 (by simp))
     ·exact dep_bit hi ho (hq 1 (by simp))
     ·exact dep_bit hi ho (hq 2 (by simp))
     ·exact dep_bit hi ho (hq 3 (by simp))
     ·exact d45.1
     ·exact d45.2
     ·exact d6
     ·exact d7
     ·exact dep_bit hi ho (hq 8 (by simp))
     ·exact dep_bit hi ho (hq 9 (by simp))
    refine wpOp_of ho hg (Oper.wp_mono (fun a' w' h'=>⟨hsz2,.inr (.inl ⟨fun j hj=>?_,by rw [bit_ne (by omega)];exact b11,h'⟩)⟩) (y_st10 h hall hx hd))
    by_cases hj10:j=10
    ·rw [hj10];exact bit_new hlt
    ·exact bit_keep (hall j (by omega))
   ·obtain ⟨o,ho,hg,hx,hd,hq⟩:=h11
    have:=dep_bit hi ho (hq 10 (by simp))
    rw [b10] at this;cases this
  ·have hi11:i=11:=by
    by_cases h11i:i < 11
    ·rw [hall i h11i] at hbi2;cases hbi2
    ·omega
   subst hi11
   obtain ⟨o,ho,hg,hx,hd,hq⟩:=h11
   refine wpOp_of ho hg (Oper.wp_mono (fun a' w' h'=>⟨hsz2,.inr (.inr ⟨fun j hj=>?_,h'⟩)⟩) (y_st11 h hs hx hd))
   by_cases hj10:j=11
   ·rw [hj10];exact bit_new hlt
   ·exact bit_keep (hall j (by omega))
  ·rw [hall i (by omega)] at hbi2;cases hbi2
 ·rintro L a w ⟨hsz,h⟩ hno
  have hall:=ready_least (hsz.trans hn.symm) hlow2 hno
  rcases h with ⟨b10,b11,h⟩|⟨-,b11,hs,h⟩|⟨-,hs,h⟩
  ·rw [hall 10 (by omega)] at b10;cases b10
  ·rw [hall 11 (by omega)] at b11;cases b11
  ·exact hQ a w hs h
 ·simp [List.count_replicate]
 ·exact ⟨by simp [hn],.inl ⟨bit_rep _ _,bit_rep _ _,by simp [hn],⟨rfl,rfl,fun _ _=>rfl⟩,Below.refl _ _,fun b e=>absurd e (e9 b),fun b e=>absurd e (e10 b),fun j hj=>(by rw [bit_rep] at hj;cases hj),fun hj=>(by rw [bit_rep] at hj;cases hj),fun hj=>(by rw [bit_rep] at hj;cases hj)⟩⟩
theorem fold_get (f:Nat→Value):∀(l:List Nat) (t:Array Value) (k:Nat),(l.foldl (fun t k=>t.setIfInBounds k (f k)) t)[k]? =if k∈l∧k < t.size then some (f k) else t[k]?
 | [],t,k=>by simp
 | x::l,t,k=>by
  rw [List.foldl_cons,fold_get f l,Array.size_setIfInBounds]
  by_cases hk:k∈l∧k < t.size
  ·rw [if_pos hk,if_pos ⟨List.mem_cons_of_mem _ hk.1,hk.2⟩]
  ·rw [if_neg hk]
   by_cases hx:x=k
   ·subst hx
    by_cases hlt:x < t.size
    ·rw [if_pos ⟨by simp,hlt⟩];simp [hlt]
    ·rw [if_neg (fun h=>hlt h.2)];simp [hlt]
   ·rw [Array.getElem?_setIfInBounds_ne hx,if_neg]
    rintro ⟨h1,h2⟩
    rcases List.mem_cons.1 h1 with h1|h1
    ·exact hx h1.symm
    ·exact hk ⟨h1,h2⟩
theorem act_eq {a b:Act} (h1:a.tmps=b.tmps) (h2:a.defers=b.defers):a=b:=by cases a;cases b;cases h1;cases h2;rfl
theorem fold_back {t0 t:Array Value} {f:Nat→Value} (ys:List Nat) (hz:t.size=t0.size) (hk:∀k,k∉ys→t[k]? =t0[k]?) (hf:∀k,k < t.size→t[k]? =some (f k)):t=ys.foldl (fun t k=>t.setIfInBounds k (f k)) t0:=by
 refine Array.ext_getElem? fun k=>?_
 rw [fold_get]
 by_cases hm:k∈ys
 ·by_cases hlt:k < t0.size
  ·rw [if_pos ⟨hm,hlt⟩];exact hf k (by omega)
  ·rw [if_neg (fun h=>hlt h.2),Array.getElem?_eq_none (by omega),Array.getElem?_eq_none (by omega)]
 ·rw [if_neg (fun h=>hm h.1)];exact hk k hm
theorem act_back {a0 a:Act} (h:SameA a0 a):a={ a0 with tmps:=yTmps.foldl (fun t k=>t.setIfInBounds k (a.eval (.tmp k))) a0.tmps }:=by
 have h1:=fold_back (f:=fun k=>a.eval (.tmp k)) yTmps h.s h.k (fun k hk=>by simp [Act.eval,hk])
 have h2:=h.d
 revert h1
 generalize yTmps.foldl (fun t k=>t.setIfInBounds k (a.eval (.tmp k))) a0.tmps=F
 intro h1
 exact act_eq h1 h2
set_option maxRecDepth 100000 in
set_option maxHeartbeats 4000000 in
theorem rsame_selfY (r:RepT) (w:World) (A A':Nat→Prop) (m m':VA) (ox:okV r.v) (h1:RV w A r.v m.a) (h2:RV w A' r.v m'.a):
  Calls Tryz.prog 19 #[PVr r m,PVr r m'] w fun e w'=>e=.returned (.bool true)∧Below w.heap.size w w':=by
 obtain ⟨re,rn,rs,ru,rv⟩:=r
 obtain ⟨ma,mc⟩:=m
 obtain ⟨na,nc⟩:=m'
 have H1:=hid h1
 have H2:=hid h2
 have OX:=hid ox
 have HS:=hid (sameV_self rv)
 clear h1 h2 ox
 go_enter Tryz.func19,Tryz.ntmps19
 go_wp2_with (go_at_call 15;refine (r14same_any (sizeV rv) rv rv _ A A' ⟨ma,mc⟩ ⟨na,nc⟩ (Nat.le_refl _) OX.out OX.out (by exact RV_iff.1 (RV.ext (Agree.below Below.z) _ _ H1.out)) (by exact RV_iff.1 (RV.ext (Agree.below Below.z) _ _ H2.out))).mono ?_;rw [HS.out];rintro e w1 ⟨rfl,hb1⟩)
 go_ret
 exact ⟨rfl,Below.r⟩
set_option maxRecDepth 100000 in
set_option maxHeartbeats 64000000 in
theorem cyes_w (t:GT) (p:GP) (s:ByteArray) (n:Int) (w:World) (A A2:Nat→Prop) (m:TA) (mp:PA) (ox:okT t) (hs1:sizeT t≤1048576) (hl:RT w A t m) (op:okP p) (hp1:sizeP p≤1048576) (hr:RP w A2 p mp) (hss:s.size≤1048576) (hG:GW w) (R:RepT) (E:Int) (hRv:okV R.v)
  (hrun:mayP (andG p)=true→mayP (orG p)=true→∀q,(q=p∨q=andG p∨q=orG p)→∀(W:World) (A3:Nat→Prop) (mq:PA),RT W A t m→RP W A3 q mq→GW W→Calls Tryz.prog 18 #[TV t m,PV q mq,.string s,.int .i64 n] W fun e w'=>Below W.heap.size W w'∧∃my:VA,e=.returned (.tuple #[PVr R my,.int .i64 E])∧RV w' (fun b=>W.heap.size≤b) R.v my.a):
  Calls Tryz.prog 10 #[TV t m,PV p mp,.string s,.int .i64 n] w fun e w'=>e=.returned (.bool true)∧Below w.heap.size w w':=by
 obtain ⟨ma,mb,mc,md,me,mf,mg,mh,mi,mj,mk,ml⟩:=m
 obtain ⟨na,nb,nc,nd⟩:=mp
 have HL:=hid hl
 have HR:=hid hr
 have OX:=hid ox
 have OP:=hid op
 have HG:=hid hG
 have hs:sizeT t≤1099511627776:=by omega
 have hp:sizeP p≤1099511627776:=by omega
 have HRUN:=hid hrun
 have ORV:=hid hRv
 clear hl hr ox op hG hrun hRv
 go_enter Tryz.func10,Tryz.ntmps10
 go_wp2_with (first
  | (go_at_call 11;(with_reducible refine (long31_any t p s _ _ A A2 ⟨ma,mb,mc,md,me,mf,mg,mh,mi,mj,mk,ml⟩ ⟨na,nb,nc,nd⟩ OX.out hs1 (by exact RT.ext (Agree.below Below.r) _ _ HL.out) OP.out (by exact RP.ext (Agree.below Below.r) _ _ HR.out)).mono ?_);rintro e w1 ⟨⟨b1,rfl⟩,hb1⟩;obtain ⟨hc1,hf1⟩:=bcells hb1;have hz1:=hb1.size;(try simp at hz1);have y1:w.heap.size < w1.heap.size:=(by omega);have y2:w.heap.size+1 < w1.heap.size:=(by omega);cases b1)
  | (go_at_call 12;(with_reducible refine (cawake_any _ (HG.out.below Below.r)).mono ?_);rintro e wa ⟨rfl,hba⟩;obtain ⟨hca,hfa⟩:=bcells hba;have hza:=hba.size;(try simp at hza);have y3:w.heap.size < wa.heap.size:=(by omega);have y4:w.heap.size+1 < wa.heap.size:=(by omega)))
 rotate_left
 ·go_ret
  exact ⟨rfl,Below.r⟩
 refine wp_named (fun W=>Below w.heap.size w W∧w.heap.size+1 < W.heap.size ∧
  Hid (At W w.heap.size 0 [.int .u8 t.k,.int .u8 t.v.k,.int .i64 t.v.n,.slice ma t.v.l.length mb,.slice mc t.vs.length md,.int .i64 t.lo,.int .i64 t.hi,.slice me t.w.length mf,.int .u8 t.p.k,.int .u8 t.p.v.k,.int .i64 t.p.v.n,.slice mg t.p.v.l.length mh,.int .i64 t.p.n,.slice mi t.p.a.length mj,.slice mk t.a.length ml]) ∧
  Hid (At W (w.heap.size+1) 0 [.int .u8 p.k,.int .u8 p.v.k,.int .i64 p.v.n,.slice na p.v.l.length nb,.int .i64 p.n,.slice nc p.a.length nd])) ?_ ?_
 ·as_aux_lemma=>
   exact ⟨Below.r,by omega,hid (At15z.2 ⟨by go_simp,by go_simp,by go_simp,by go_simp,by go_simp,by go_simp,by go_simp,by go_simp,by go_simp,by go_simp,by go_simp,by go_simp,by go_simp,by go_simp,by go_simp⟩),hid (At6z.2 ⟨by go_simp,by go_simp,by go_simp,by go_simp,by go_simp,by go_simp⟩)⟩
 clear hc1 hf1 hca hfa hb1 hba
 intro W1 ⟨hbw,hzw,HAT,HAP⟩
 have hg1:GW W1:=HG.out.below hbw
 rename_i KK hKK
 refine wp_region_any (by kernel_rfl) ?_
 refine y_region (B:=w.heap.size+1) (p:=p) (mp:=⟨na,nb,nc,nd⟩) rfl (by kernel_rfl) ⟨_,rfl,rfl,rfl,rfl,fun n hn=>by cases hn⟩ ⟨_,rfl,rfl,rfl,rfl,fun n hn=>by cases hn⟩ ⟨_,rfl,rfl,rfl,rfl,?_⟩ ⟨_,rfl,rfl,rfl,rfl,?_⟩ ⟨_,rfl,rfl,rfl,rfl,fun n hn=>by cases hn⟩ ⟨_,rfl,rfl,rfl,rfl,fun n hn=>by cases hn⟩ ⟨_,rfl,rfl,rfl,rfl,?_⟩ ⟨_,rfl,rfl,rfl,rfl,?_⟩ ⟨_,rfl,rfl,rfl,rfl,fun n hn=>by cases hn⟩ ⟨_,rfl,rfl,rfl,rfl,fun n hn=>by cases hn⟩ ⟨_,rfl,rfl,rfl,rfl,?_⟩ ⟨_,rfl,rfl,rfl,rfl,?_⟩ (by simp) OP.out (RP.mono (fun _ _ _=>trivial) _ _ (RP.ext (Agree.below (show Below w.heap.size w _ from Below.drew hbw)) _ _ HR.out)) rfl (by simpa using hzw) (At_drew HAP.out) (fun b e=>by cases e) (fun b e=>by cases e) ?_
 ·intro n hn;rcases List.mem_cons.1 hn with rfl|hn; · exact ⟨0,_,rfl,rfl,rfl⟩
  cases List.mem_singleton.1 hn;exact ⟨1,_,rfl,rfl,rfl⟩
 ·intro n hn;cases List.mem_singleton.1 hn;exact ⟨0,_,rfl,rfl,rfl⟩
 ·intro n hn;rcases List.mem_cons.1 hn with rfl|hn; · exact ⟨0,_,rfl,rfl,rfl⟩
  cases List.mem_singleton.1 hn;exact ⟨1,_,rfl,rfl,rfl⟩
 ·intro n hn;cases List.mem_singleton.1 hn;exact ⟨0,_,rfl,rfl,rfl⟩
 ·intro n hn
  rcases List.mem_cons.1 hn with rfl|hn; · exact ⟨3,_,rfl,rfl,rfl⟩
  rcases List.mem_cons.1 hn with rfl|hn; · exact ⟨4,_,rfl,rfl,rfl⟩
  rcases List.mem_cons.1 hn with rfl|hn; · exact ⟨5,_,rfl,rfl,rfl⟩
  rcases List.mem_cons.1 hn with rfl|hn; · exact ⟨1,_,rfl,rfl,rfl⟩
  rcases List.mem_cons.1 hn with rfl|hn; · exact ⟨2,_,rfl,rfl,rfl⟩
  rcases List.mem_cons.1 hn with rfl|hn; · exact ⟨0,_,rfl,rfl,rfl⟩
  cases List.mem_singleton.1 hn;exact ⟨12,_,rfl,rfl,rfl⟩
 ·intro n hn;cases List.mem_singleton.1 hn;exact ⟨2,_,rfl,rfl,rfl⟩
 rintro a W2 hsame ⟨D9,D10,⟨n1,n2,n3,n4⟩,⟨n5,n6,n7,n8⟩,e9,e10,hb2,hat9,hra,hat10,hro⟩
 have hbb:Below w.heap.size w W2:=Below.trans (Below.drew hbw) (hb2.mono (by simp;omega))
 have hz2:w.heap.size+1 < W2.heap.size:=by have:=hb2.size;simp at this;omega
 have HAT2:=hid (At_below (At_drew HAT.out) hb2)
 have HAP2:=hid (At_below (At_drew HAP.out) hb2)
 have HA9:=hid (show At W2 D9 0 [.int .u8 6,.int .u8 0,.int .i64 0,.slice n1 0 n2,.int .i64 0,.slice n3 2 n4] from hat9)
 have HA10:=hid (show At W2 D10 0 [.int .u8 7,.int .u8 0,.int .i64 0,.slice n5 0 n6,.int .i64 0,.slice n7 2 n8] from hat10)
 have HRA:=hid hra
 have HRO:=hid hro
 show KK a W2
 refine hKK _ _ ?_
 rw [act_back hsame]
 simp only [e9,e10,yTmps,List.foldl_cons,List.foldl_nil,List.setIfInBounds_toArray,List.set_cons_succ,List.set_cons_zero]
 generalize a.eval (.tmp 27)=x27
 generalize a.eval (.tmp 28)=x28
 generalize a.eval (.tmp 29)=x29
 generalize a.eval (.tmp 30)=x30
 generalize a.eval (.tmp 31)=x31
 generalize a.eval (.tmp 32)=x32
 generalize a.eval (.tmp 33)=x33
 generalize a.eval (.tmp 34)=x34
 clear hKK hb2 hbw hat9 hra hat10 hro e9 e10 hsame HAT HAP hg1
 clear a
 have hz20:w.heap.size < W2.heap.size:=by omega
 have d9:D9 < W2.heap.size:=World.block_lt_of_cell? _ _ (At6z.1 HA9.out).1
 have d10:D10 < W2.heap.size:=World.block_lt_of_cell? _ _ (At6z.1 HA10.out).1
 obtain ⟨u0,u1,u2,u3,u4,u5,u6,u7,u8,u9,ua,ub,uc,ud,ue⟩:=At15z.1 HAT2.out
 obtain ⟨p0,p1,p2,p3,p4,p5⟩:=At6z.1 HAP2.out
 obtain ⟨q0,q1,q2,q3,q4,q5⟩:=At6z.1 HA9.out
 obtain ⟨r0,r1,r2,r3,r4,r5⟩:=At6z.1 HA10.out
 clear HAT2 HAP2 HA9 HA10
 have HM9:∀W,Below W2.heap.size W2 W→Calls Tryz.prog 29 #[.agg #[.int .u8 6,.int .u8 0,.int .i64 0,.slice n1 0 n2,.int .i64 0,.slice n3 2 n4]] W fun e w'=>e=.returned (.bool (mayP (andG p)))∧Below W.heap.size W w':=fun W hW=>
  mayP_any (andG p) W (fun _=>True) ⟨n1,n2,n3,n4⟩ (okP_and OP.out).2.1 (by have:=(sizeP_and p).1;omega) (RP.ext (Agree.below hW) _ _ HRA.out)
 have HM10:∀W,Below W2.heap.size W2 W→Calls Tryz.prog 29 #[.agg #[.int .u8 7,.int .u8 0,.int .i64 0,.slice n5 0 n6,.int .i64 0,.slice n7 2 n8]] W fun e w'=>e=.returned (.bool (mayP (orG p)))∧Below W.heap.size W w':=fun W hW=>
  mayP_any (orG p) W (fun _=>True) ⟨n5,n6,n7,n8⟩ (okP_and OP.out).2.2.2 (by have:=(sizeP_and p).2;omega) (RP.ext (Agree.below hW) _ _ HRO.out)
 cases hA:mayP (andG p) with
 | false=>
  rw [hA] at HM9
  clear HRUN HM10
  go_wp2_with (first
   | (go_at_call 29;(with_reducible refine (HM9 _ Below.r).mono ?_);rintro e w3 ⟨rfl,hb3⟩;obtain ⟨hc3,hf3⟩:=bcells hb3;have hz3:=hb3.size;(try simp at hz3);have s30:w.heap.size < w3.heap.size:=(by omega);have s31:w.heap.size+1 < w3.heap.size:=(by omega);have s32:D9 < w3.heap.size:=(by omega);have s33:D10 < w3.heap.size:=(by omega)))
  go_ret
  exact ⟨rfl,Below.r⟩
 | true=>
  rw [hA] at HM9
  cases hB:mayP (orG p) with
  | false=>
   rw [hB] at HM10
   clear HRUN
   go_wp2_with (first
    | (go_at_call 29;(with_reducible refine (HM9 _ Below.r).mono ?_);rintro e w3 ⟨rfl,hb3⟩;obtain ⟨hc3,hf3⟩:=bcells hb3;have hz3:=hb3.size;(try simp at hz3);have s30:w.heap.size < w3.heap.size:=(by omega);have s31:w.heap.size+1 < w3.heap.size:=(by omega);have s32:D9 < w3.heap.size:=(by omega);have s33:D10 < w3.heap.size:=(by omega))
    | (go_at_call 29;(with_reducible refine (HM10 _ Below.r).mono ?_);rintro e w4 ⟨rfl,hb4⟩;obtain ⟨hc4,hf4⟩:=bcells hb4;have hz4:=hb4.size;(try simp at hz4);have s40:w.heap.size < w4.heap.size:=(by omega);have s41:w.heap.size+1 < w4.heap.size:=(by omega);have s42:D9 < w4.heap.size:=(by omega);have s43:D10 < w4.heap.size:=(by omega)))
   go_ret
   exact ⟨rfl,Below.r⟩
  | true=>
   rw [hB] at HM10
   have HR1:∀W,Below W2.heap.size W2 W→Calls Tryz.prog 18 #[TV t ⟨ma,mb,mc,md,me,mf,mg,mh,mi,mj,mk,ml⟩,PV p ⟨na,nb,nc,nd⟩,.string s,.int .i64 n] W fun e w'=>Below W.heap.size W w'∧∃my:VA,e=.returned (.tuple #[PVr R my,.int .i64 E])∧RV w' (fun b=>W.heap.size≤b) R.v my.a:=fun W hW=>
    have h2:=hbb.trans (hW.mono (by omega))
    HRUN.out hA hB p (.inl rfl) W A2 _ (RT.ext (Agree.below h2) _ _ HL.out) (RP.ext (Agree.below h2) _ _ HR.out) (HG.out.below h2)
   have HR2:∀W,Below W2.heap.size W2 W→Calls Tryz.prog 18 #[TV t ⟨ma,mb,mc,md,me,mf,mg,mh,mi,mj,mk,ml⟩,.agg #[.int .u8 6,.int .u8 0,.int .i64 0,.slice n1 0 n2,.int .i64 0,.slice n3 2 n4],.string s,.int .i64 n] W fun e w'=>Below W.heap.size W w'∧∃my:VA,e=.returned (.tuple #[PVr R my,.int .i64 E])∧RV w' (fun b=>W.heap.size≤b) R.v my.a:=fun W hW=>
    have h2:=hbb.trans (hW.mono (by omega))
    HRUN.out hA hB (andG p) (.inr (.inl rfl)) W (fun _=>True) ⟨n1,n2,n3,n4⟩ (RT.ext (Agree.below h2) _ _ HL.out) (RP.ext (Agree.below hW) _ _ HRA.out) (HG.out.below h2)
   have HR3:∀W,Below W2.heap.size W2 W→Calls Tryz.prog 18 #[TV t ⟨ma,mb,mc,md,me,mf,mg,mh,mi,mj,mk,ml⟩,.agg #[.int .u8 7,.int .u8 0,.int .i64 0,.slice n5 0 n6,.int .i64 0,.slice n7 2 n8],.string s,.int .i64 n] W fun e w'=>Below W.heap.size W w'∧∃my:VA,e=.returned (.tuple #[PVr R my,.int .i64 E])∧RV w' (fun b=>W.heap.size≤b) R.v my.a:=fun W hW=>
    have h2:=hbb.trans (hW.mono (by omega))
    HRUN.out hA hB (orG p) (.inr (.inr rfl)) W (fun _=>True) ⟨n5,n6,n7,n8⟩ (RT.ext (Agree.below h2) _ _ HL.out) (RP.ext (Agree.below hW) _ _ HRO.out) (HG.out.below h2)
   clear HRUN
   go_wp2_with (first
    | (go_at_call 29;(with_reducible refine (HM9 _ Below.r).mono ?_);rintro e w3 ⟨rfl,hb3⟩;obtain ⟨hc3,hf3⟩:=bcells hb3;have hz3:=hb3.size;(try simp at hz3);have s30:w.heap.size < w3.heap.size:=(by omega);have s31:w.heap.size+1 < w3.heap.size:=(by omega);have s32:D9 < w3.heap.size:=(by omega);have s33:D10 < w3.heap.size:=(by omega))
    | (go_at_call 29;(with_reducible refine (HM10 _ Below.r).mono ?_);rintro e w4 ⟨rfl,hb4⟩;obtain ⟨hc4,hf4⟩:=bcells hb4;have hz4:=hb4.size;(try simp at hz4);have s40:w.heap.size < w4.heap.size:=(by omega);have s41:w.heap.size+1 < w4.heap.size:=(by omega);have s42:D9 < w4.heap.size:=(by omega);have s43:D10 < w4.heap.size:=(by omega))
    | (go_at_call 18;(with_reducible refine (HR1 _ Below.r).mono ?_);rintro e w5 ⟨hb5,my5,rfl,hrv⟩;have HV5:=hid (RV.mono (A':=fun b=>b < w5.heap.size) (fun b _ h=>h) _ _ hrv);clear hrv;obtain ⟨hc5,hf5⟩:=bcells hb5;have hz5:=hb5.size;(try simp at hz5);have s50:w.heap.size < w5.heap.size:=(by omega);have s51:w.heap.size+1 < w5.heap.size:=(by omega);have s52:D9 < w5.heap.size:=(by omega);have s53:D10 < w5.heap.size:=(by omega))
    | (go_at_call 18;(with_reducible refine (HR2 _ Below.r).mono ?_);rintro e w6 ⟨hb6,my6,rfl,hrv⟩;have HV6:=hid (RV.mono (A':=fun b=>b < w6.heap.size) (fun b _ h=>h) _ _ hrv);clear hrv;obtain ⟨hc6,hf6⟩:=bcells hb6;have hz6:=hb6.size;(try simp at hz6);have s60:w.heap.size < w6.heap.size:=(by omega);have s61:w.heap.size+1 < w6.heap.size:=(by omega);have s62:D9 < w6.heap.size:=(by omega);have s63:D10 < w6.heap.size:=(by omega);have t61:w5.heap.size < w6.heap.size:=(by omega))
    | (go_at_call 18;(with_reducible refine (HR3 _ Below.r).mono ?_);rintro e w7 ⟨hb7,my7,rfl,hrv⟩;have HV7:=hid (RV.mono (A':=fun b=>b < w7.heap.size) (fun b _ h=>h) _ _ hrv);clear hrv;obtain ⟨hc7,hf7⟩:=bcells hb7;have hz7:=hb7.size;(try simp at hz7);have s70:w.heap.size < w7.heap.size:=(by omega);have s71:w.heap.size+1 < w7.heap.size:=(by omega);have s72:D9 < w7.heap.size:=(by omega);have s73:D10 < w7.heap.size:=(by omega);have t71:w5.heap.size < w7.heap.size:=(by omega);have t72:w6.heap.size < w7.heap.size:=(by omega))
    | (go_at_call 19;(with_reducible refine (rsame_selfY R _ (fun b=>b < w5.heap.size) (fun b=>b < w6.heap.size) my5 my6 ORV.out (by exact RV.ext (Agree.below (show Below w5.heap.size w5 _ from Below.r)) _ _ HV5.out) (by exact RV.ext (Agree.below (show Below w6.heap.size w6 _ from Below.r)) _ _ HV6.out)).mono ?_);rintro e w8 ⟨rfl,hb8⟩;obtain ⟨hc8,hf8⟩:=bcells hb8;have hz8:=hb8.size;(try simp at hz8);have t81:w5.heap.size < w8.heap.size:=(by omega);have t82:w6.heap.size < w8.heap.size:=(by omega);have t83:w7.heap.size < w8.heap.size:=(by omega))
    | (go_at_call 19;(with_reducible refine (rsame_selfY R _ (fun b=>b < w5.heap.size) (fun b=>b < w7.heap.size) my5 my7 ORV.out (by exact RV.ext (Agree.below (show Below w5.heap.size w5 _ from Below.r)) _ _ HV5.out) (by exact RV.ext (Agree.below (show Below w7.heap.size w7 _ from Below.r)) _ _ HV7.out)).mono ?_);rintro e w9 ⟨rfl,hb9⟩))
   go_ret
   exact ⟨rfl,Below.r⟩
theorem okV_rep {t:GT} {p:GP} {s:ByteArray} {N:Nat} (ox:okT t) (hE:runE t s=0):okV (repT t p s N).v:=by
 by_cases hK:(cutT s t p N 0).2=1
 ·obtain ⟨r,g1,f,k, -, -, -,g5, -,g7, -⟩:=cut_last ox hE hK
  rw [repT_one hK g1]
  have i1:=(shr_all ox 1024 (bitsR s r) r.v 0 g7).1
  generalize shrT t p 1024 (bitsR s r) r.v 0=T at i1 ⊢
  exact (fail_whole ox i1).2.2.2.2.2.2.1
 ·rw [repT_no hK];exact okV_leaf (by simp [isU8]) (by simp [isI64])
theorem cyes_any (w:World) (t:GT) (A:Nat→Prop) (m:TA) (ox:okT t) (hs1:sizeT t≤1048576) (hl:RT w A t m) (p:GP) (A2:Nat→Prop) (mp:PA) (op:okP p) (hp1:sizeP p≤1048576) (hr:RP w A2 p mp) (s:ByteArray) (hss:s.size≤1048576) (n:Int) (hG:GW w):
  Calls Tryz.prog 10 #[TV t m,PV p mp,.string s,.int .i64 n] w fun e w'=>e=.returned (.bool true)∧Below w.heap.size w w':=by
 have hs:sizeT t≤1099511627776:=by omega
 have hq:mayP (andG p)=true→mayP (orG p)=true→∀q,(q=p∨q=andG p∨q=orG p)→okP q∧sizeP q≤1099511627776∧cutE t q s n=cutE t p s n∧∀N,repT t q s N=repT t p s N:=by
  intro hA hB q hq
  have hP:mayP p=true:=may_arg hA (by simp)
  have h1:=(sizeP_and p).1
  have h2:=(sizeP_and p).2
  rcases hq with rfl|rfl|rfl
  ·exact ⟨op,by omega,rfl,fun _=>rfl⟩
  ·exact ⟨(okP_and op).2.1,by omega,cutE_may2 hP hA,fun N=>(repT_same (holds_and p) N).symm⟩
  ·exact ⟨(okP_and op).2.2.2,by omega,cutE_may2 hP hB,fun N=>(repT_same (holds_or p) N).symm⟩
 by_cases hE:cutE t p s n=0
 ·have hn:0≤n∧n≤1000:=by
   have h:=hE
   unfold cutE at h
   split at h
   ·omega
   ·split at h
    ·omega
    ·split at h
     ·omega
     ·omega
  obtain ⟨N,rfl⟩:∃N:Nat,n=N:=⟨n.toNat,by omega⟩
  obtain ⟨e1,e2,e3⟩:=cutE_zero hE
  refine cyes_w t p s N w A A2 m mp ox hs1 hl op hp1 hr hss hG (repT t p s N) 0 (okV_rep ox e1) fun hA hB q hqq W A3 mq h1 h2 h3=>?_
  obtain ⟨g1,g2,g3,g4⟩:=hq hA hB q hqq
  have h:=crun_ok t q s N W A A3 m mq ox hs h1 g1 g2 h2 h3 (g3.trans hE)
  rw [g4] at h
  exact h
 ·refine cyes_w t p s n w A A2 m mp ox hs1 hl op hp1 hr hss hG ⟨0,0,0,⟨#[]⟩,⟨0,0,[]⟩⟩ (cutE t p s n) (okV_leaf (by simp [isU8]) (by simp [isI64])) fun hA hB q hqq W A3 mq h1 h2 h3=>?_
  obtain ⟨g1,g2,g3,g4⟩:=hq hA hB q hqq
  refine (crun_err t q s n W A A3 m mq ox hs h1 g1 g2 h2 (by omega) (by rw [g3];exact hE)).mono fun e w' ⟨he,hb⟩=>⟨hb,⟨none,0⟩,?_,by simp [RV,RVs]⟩
  rw [he,g3]
  rfl
end Go.Proofs.YtojjdneicmbfjaaGreatDoor
