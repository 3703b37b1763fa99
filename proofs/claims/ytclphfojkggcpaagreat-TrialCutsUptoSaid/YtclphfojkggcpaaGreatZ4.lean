/- What the proofs of the Trial statements need: part 5. -/
import Derived.LoopIn
import Derived.LoopNIn
import Derived.OwnWalkIn
import Derived.RangeFuncBound
import Derived.RangeFuncBox
import Derived.RangeFuncCalls
import Derived.RangeFuncLeaves
import Derived.RangeFuncNested
import Derived.Shelf.Abstract
import Derived.Shelf.RegionOpen
import Derived.Sort.LoopGhostIn
import Derived.TacticsInMore
import Derived.Test.YtclphfojkggcpaaGreatZ3
set_option linter.unusedVariables false
set_option linter.unusedSimpArgs false
namespace Go.Proofs.YtclphfojkggcpaaGreat
open Go.Lib (hid)
open Go Go.RowKit
section
open Go Go.RowKit Go.Shelf
attribute [local go_sem] Oper.semAt_some
theorem run_store_fn {P:Program} {a:Addr} {f:Fn} {x y:Array Value} {w:World} {v:Value} (h:w.cell? a=some v) (hf:w.frozen? a=false):(store a (.func f x y)).run P w=.ok () (w.setCell a (.func f x y)):=by
 simp [store,Sem.run,h,hf]
attribute [local go_sem] run_store_fn

theorem room_of_none {F:Fence} (hd:F.depth=none) (k:Nat):F.room k:=fun d h=>by rw [hd] at h;cases h
theorem roundIn_any {F:Fence} (hd:F.depth=none) {m m':Nat} {P:Program} {l:Nat} {f:FuncId} {tmps:Array Value} {assign body:Code} {w:World} {R:Ending→World→Prop}
  (h:RoundIn F m P l f tmps assign body w R):RoundIn F m' P l f tmps assign body w R:=⟨h.1,fun c cs _=>h.2 c cs (room_of_none hd _)⟩
theorem yieldAt_any {F:Fence} (hd:F.depth=none) {m:Nat} (m':Nat) {P:Program} {l:Nat} {args:Array Value} {W:World} {R:Ending→World→Prop} (h:YieldAt F m P l args W R):YieldAt F m' P l args W R:=by
 obtain ⟨fn,tmps,assign,body,hy,hR⟩:=h
 exact ⟨fn,tmps,assign,body,hy,roundIn_any hd hR⟩

structure KC (S:Nat→Prop) (W W':World):Prop where
 size:W.heap.size≤W'.heap.size
 same:∀k c t f,W.heap[k]? =some (.cells c t f)→¬S k→W'.heap[k]? =some (.cells c t f)
theorem KC.refl (S:Nat→Prop) (W:World):KC S W W:=⟨Nat.le_refl _,fun _ _ _ _ h _=>h⟩
theorem KC.trans {S:Nat→Prop} {A B C:World} (h:KC S A B) (k:KC S B C):KC S A C:=⟨Nat.le_trans h.size k.size,fun n c t f h1 h2=>k.same n c t f (h.same n c t f h1 h2) h2⟩
theorem KC.alloc {S:Nat→Prop} {A B:World} (h:KC S A B) (o:Obj):KC S A (B.alloc o):=
 ⟨by have:=h.size;simp;omega,fun n c t f h1 h2=>by have h3:=h.same n c t f h1 h2;rw [Below.heap_alloc _ _ _ (Array.getElem?_eq_some_iff.1 h3).1];exact h3⟩
theorem KC.putObj {S:Nat→Prop} {A:World} (l:Nat) (o o':Obj) (h:A.heap[l]? =some o) (ho:o.isCells=false):KC S A (A.putObj l o'):=
 ⟨by have:=(World.grownBy.size (grownBy_putObj' A l o'));omega,fun n c t f h1 _=>by
  by_cases e:n=l
  ·subst e;rw [h] at h1;cases h1;cases ho
  ·rw [World.putObj_heap_other (by first|exact e|exact fun x=>e x.symm)];exact h1⟩
theorem KC.drew {S:Nat→Prop} {A B:World} (h:KC S A B):KC S A B.drew:=⟨h.size,h.same⟩
theorem KC.below {S:Nat→Prop} {A B C:World} (h:KC S A B) (k:Below B.heap.size B C):KC S A C:=
 ⟨Nat.le_trans h.size k.size,fun n c t f h1 h2=>by have h3:=h.same n c t f h1 h2;rw [k.block _ (Array.getElem?_eq_some_iff.1 h3).1];exact h3⟩
theorem KC.setCell {S:Nat→Prop} {A B:World} (h:KC S A B) (a:Addr) (v:Value) (ha:S a.block):KC S A (B.setCell a v):=
 ⟨by simpa using h.size,fun n c t f h1 h2=>by rw [Below.heap_setCell _ _ _ n (fun e=>h2 (by rw [e];exact ha))];exact h.same n c t f h1 h2⟩
theorem KC.cell {S:Nat→Prop} {A B:World} (h:KC S A B) {p:Addr} {v:Value} (hS:¬S p.block) (hc:A.cell? p=some v):B.cell? p=some v:=by
 unfold World.cell? at hc ⊢
 cases ho:A.heap[p.block]? with
 | none=>rw [ho] at hc;cases hc
 | some o=>
  cases o with
  | cells c t f=>rw [ho] at hc;rw [h.same _ c t f ho hS];exact hc
  | _=>rw [ho] at hc;cases hc
theorem KC.frozen {S:Nat→Prop} {A B:World} (h:KC S A B) {p:Addr} {v:Value} (hS:¬S p.block) (hc:A.cell? p=some v):B.frozen? p=A.frozen? p:=by
 unfold World.cell? at hc
 cases ho:A.heap[p.block]? with
 | none=>rw [ho] at hc;cases hc
 | some o=>
  cases o with
  | cells c t f=>exact World.frozen?_of_block ((h.same _ c t f ho hS).trans ho.symm)
  | _=>rw [ho] at hc;cases hc
theorem KC.agree {S A:Nat→Prop} {W W':World} (h:KC S W W') (hA:∀b,A b→¬S b):Agree A W W':=fun _ _ ha hc=>⟨h.cell (hA _ ha) hc,h.frozen (hA _ ha) hc⟩

structure Vis where
 d:Nat
 x:GV
 m:VA
 ok:okV x
 hd:d≤4611686018427387904
def Vis.p (v:Vis):Nat×GV:=(v.d,v.x)
def encVis (v:Vis):Array Value:=#[.int .i64 v.d,VV v.x v.m]
mutual
def preV (d:Nat):GV→List (Nat×GV)
 | ⟨k,n,l⟩=>(d,⟨k,n,l⟩)::preVs (d+1) l
def preVs (d:Nat):List GV→List (Nat×GV)
 | []=>[]
 | x::l=>preV d x++preVs d l
end
theorem preV_eq (d:Nat) (x:GV):preV d x=(d,x)::preVs (d+1) x.l:=by cases x;simp only [preV]
mutual
theorem preV_length:∀(x:GV) (d:Nat),(preV d x).length=sizeV x
 | ⟨k,n,l⟩,d=>by simp only [preV,sizeV,List.length_cons,preVs_length l (d+1)];omega
theorem preVs_length:∀(l:List GV) (d:Nat),(preVs d l).length=sizeVs l
 | [],d=>by simp [preVs,sizeVs]
 | x::l,d=>by simp only [preVs,sizeVs,List.length_append,preV_length x d,preVs_length l d]
end
theorem preVs_take (d:Nat):∀(l:List GV) (j:Nat) (h:j < l.length),preVs d (l.take (j+1))=preVs d (l.take j)++preV d l[j]
 | x::l,0,_=>by simp [preVs]
 | x::l,j+1,h=>by
  have:=preVs_take d l j (by simpa using h)
  simp only [List.take_succ_cons,preVs,List.getElem_cons_succ,List.append_assoc] at this ⊢
  rw [this]
theorem preVs_split (d:Nat) (l:List GV) (j:Nat):preVs d l=preVs d (l.take j)++preVs d (l.drop j):=by
 induction l generalizing j with
 | nil=>simp [preVs]
 | cons x l ih=>cases j with
  | zero=>simp [preVs]
  | succ j=>simp only [List.take_succ_cons,List.drop_succ_cons,preVs,List.append_assoc];rw [ih j]
theorem sizeVs_take:∀(l:List GV) (j:Nat),sizeVs (l.take j)≤sizeVs l
 | [],j=>by simp
 | x::l,0=>by simp [sizeVs]
 | x::l,j+1=>by have:=sizeVs_take l j;simp only [List.take_succ_cons,sizeVs];omega

def VisR (S:Nat→Prop) (J Jx:List Vis→World→Prop) (pre:List Vis) (d:Nat) (x:GV) (W:World):Ending→World→Prop:=fun e W'=>
 (e=.returned (.bool true)∧(∃vs,vs.map Vis.p=preV d x∧J (pre++vs) W')∧KC S W W')∨(e=.returned (.bool false)∧∃vs,vs.map Vis.p <+: preV d x∧Jx (pre++vs) W')
set_option maxRecDepth 100000 in
set_option maxHeartbeats 2000000 in
theorem visit_in (l:Nat) (S:Nat→Prop) (N B0:Nat) (J Jx:List Vis→World→Prop) (hJ:AbidesFrom B0 J)
  (hY:∀m pre (v:Vis) W,J pre W→pre.length < N→YieldAt Fence.wide m Tryz.prog l (encVis v) W fun e W'=>
   (e=.returned (.bool true)∧J (pre++[v]) W'∧KC S W W')∨(e=.returned (.bool false)∧Jx (pre++[v]) W'))
  (By Bv:Nat) (hBy:¬S By) (hBv:¬S Bv) (k:Nat):
  ∀(x:GV),sizeV x≤k→∀(n d:Nat) (ma:Option Addr) (mc:Nat) (pre:List Vis) (W:World),okV x→(d+k≤4611686018427387904)→(∀b,W.heap.size≤b→¬S b)→RVs W (fun b=>¬S b) x.l ma →
   W.heap[By]? =some (.cells #[.func (.yield l) #[] #[]] 203 (0,0))→W.heap[Bv]? =some (.cells #[.func (.func 150) #[] #[.pointer (some ⟨By,0,none⟩),.pointer (some ⟨Bv,0,none⟩)]] 203 (0,0)) →
   J pre W→pre.length+sizeV x≤N →
   CallsIn Fence.wide n Tryz.prog 150 #[.int .i64 d,VV x ⟨ma,mc⟩,.pointer (some ⟨By,0,none⟩),.pointer (some ⟨Bv,0,none⟩)] W (VisR S J Jx pre d x W):=by
 induction k with
 | zero=>intro x h;have:=sizeV_pos x;omega
 | succ k ih=>
  intro x hk n d ma mc pre W ox hdk hS hl hy hv hj hN
  have IH:=hid ih
  clear ih
  have hdd:∀k:Nat,(Fence.wide.depth.isSome=true→1≤k):=fun k h=>by cases h
  obtain ⟨⟨x1,x2⟩,⟨x3,x4⟩,x5,ox'⟩:=okV_iff.1 ox
  have HL:=hid hl
  have O:=hid ox'
  have HS:=hid hS
  clear hl ox' hS
  have OX:=hid ox
  clear ox
  -- the round at this value, in the world behind its box
  have hj1:J pre (W.alloc (.cells #[.int .u8 x.k,.int .i64 x.n,.slice ma x.l.length mc] 24)):=hJ pre W _ none hj (World.grownBy_alloc W _ none) (fun r e=>by cases e)
  obtain ⟨fn,tmps,assign,body,hyy,hR⟩:=hY (n - 1) pre ⟨d,x,⟨ma,mc⟩,OX.out,by omega⟩ _ hj1 (by have:=sizeV_pos x;omega)
  dsimp only [encVis] at hyy
  clear hj1
  have cy:=(show W.cell? ⟨By,0,none⟩=some (.func (.yield l) #[] #[]) by simp [World.cell?,hy])
  have cv:=(show W.cell? ⟨Bv,0,none⟩=some (.func (.func 150) #[] #[.pointer (some ⟨By,0,none⟩),.pointer (some ⟨Bv,0,none⟩)]) by simp [World.cell?,hv])
  have ly:By < W.heap.size:=(Array.getElem?_eq_some_iff.1 hy).1
  have lv:Bv < W.heap.size:=(Array.getElem?_eq_some_iff.1 hv).1
  have HY:=hid hy
  have HV:=hid hv
  clear hy hv
  have hR2:=RoundIn.mono hR (R':=fun e W2=>(e=.returned (.bool true)∧Hid (J (pre++[⟨d,x,⟨ma,mc⟩,OX.out,by omega⟩]) W2)∧KC S W W2∧W2.cell? ⟨W.heap.size,2,none⟩=some (.slice ma x.l.length mc))∨(e=.returned (.bool false)∧Hid (Jx (pre++[⟨d,x,⟨ma,mc⟩,OX.out,by omega⟩]) W2)))
   (fun e W2 h=>h.elim (fun ⟨he,hj,hk⟩=>.inl ⟨he,hid hj,((KC.refl S W).alloc _).trans hk,hk.cell (p:=⟨W.heap.size,2,none⟩) (HS.out _ (Nat.le_refl _)) (by go_simp)⟩) (fun ⟨he,hj⟩=>.inr ⟨he,hid hj⟩))
  clear hR
  refine callsIn_of_wp Tryz.func150 rfl trivial ?_ rfl
  simp only [Tryz.ntmps150,List.size_toArray,List.length_cons,List.length_nil,Nat.reduceAdd,Nat.reduceSub,Array.replicate_succ,Array.replicate_zero,List.push_toArray,List.append_toArray,List.nil_append,List.cons_append]
  gi_wp2_with ((try refine ⟨hdd _,?_⟩);refine hR2.mono ?_;clear hR2;rintro e W2 (⟨rfl,hJ2,hk2,hc2⟩|⟨rfl,hx2⟩))
  ·gi_loopg [17] (x.l.length) (fun gk i wr=>∃j:Nat,gk+j=x.l.length∧i=.int .i64 j∧KC S W wr∧Hid (∃vs,vs.map Vis.p=(d,x)::preVs (d+1) (x.l.take j)∧J (pre++vs) wr))
   case atStart=>exact ⟨0,by omega,rfl,hk2,⟨_,by simp [Vis.p,preVs],hJ2.out⟩⟩
   case round=>
    obtain ⟨j,hj,rfl,hk,HJ⟩:=hrel
    by_cases hlt:j < x.l.length
    ·obtain ⟨b,o,mj,rfl,hA,hbs,g0,gx⟩:=HL.out.get j hlt
     obtain ⟨k0,k1,k2⟩:=At3.1 (g0.ext (hk.agree (A:=fun b=>¬S b) (fun _ h=>h)) hA)
     have cy':=hk.cell (p:=⟨By,0,none⟩) hBy cy
     have cv':=hk.cell (p:=⟨Bv,0,none⟩) hBv cv
     have ks:=hk.size
     have ly':By < wr.heap.size:=by omega
     have lv':Bv < wr.heap.size:=by omega
     clear g0 cy cv ly lv
     obtain ⟨vs,hvs,hjv⟩:=HJ.out
     have hvl:vs.length=1+sizeVs (x.l.take j):=by
      have:=congrArg List.length hvs
      simp only [List.length_map,List.length_cons,preVs_length] at this
      omega
     have hsz:sizeVs (x.l.take j)+sizeV x.l[j]≤sizeVs x.l:=by
      have h1:=congrArg List.length (preVs_take 0 x.l j hlt)
      simp only [List.length_append,preVs_length,preV_length] at h1
      have:=sizeVs_take x.l (j+1)
      omega
     have hsx:=sizeV_eq x
     have C:∀W3,KC S W W3→J (pre++vs) W3→CallsIn Fence.wide (n - 1) Tryz.prog 150 #[.int .i64 (d+1),.agg #[.int .u8 x.l[j].k,.int .i64 x.l[j].n,.slice mj.a x.l[j].l.length mj.c],.pointer (some ⟨By,0,none⟩),.pointer (some ⟨Bv,0,none⟩)] W3 fun e W'=>
       (e=.returned (.bool true)∧Hid (∃vs',vs'.map Vis.p=preV (d+1) x.l[j]∧J (pre++vs++vs') W')∧KC S W W')∨(e=.returned (.bool false)∧Hid (∃vs',vs'.map Vis.p <+: preV (d+1) x.l[j]∧Jx (pre++vs++vs') W')):=fun W3 hk3 hj3=>by
      have:=IH.out x.l[j] (by omega) (n - 1) (d+1) mj.a mj.c (pre++vs) W3 (O.out.get j hlt) (by omega) (fun b hb=>HS.out b (by have:=hk3.size;omega)) (RV_iff.1 (RV.ext (hk3.agree fun _ h=>h) _ _ gx)) (hk3.same _ _ _ _ HY.out hBy) (hk3.same _ _ _ _ HV.out hBv) hj3
       (by simp only [List.length_append];omega)
      rw [show ((d+1:Nat):Int)=(d:Int)+1 by omega] at this
      exact this.mono fun e W' h=>h.elim (fun ⟨he,h1,h2⟩=>.inl ⟨he,hid h1,hk3.trans h2⟩) (fun ⟨he,h1⟩=>.inr ⟨he,hid h1⟩)
     have hja:J (pre++vs) (wr.alloc (.cells #[.int .u8 x.l[j].k,.int .i64 x.l[j].n,.slice mj.a x.l[j].l.length mj.c] 24)):=hJ _ wr _ none hjv (World.grownBy_alloc wr _ none) (fun r e=>by cases e)
     have HC:=hid C
     have HVS:=hid hvs
     have HJA:=hid hja
     clear C hvs hja hjv HJ gx hvl hsz hsx
     gi_wp2_with (refine ⟨trivial,hdd _,?_⟩;gi_at_call 150;refine (HC.out _ (hk.alloc _) HJA.out).mono ?_;clear HC HJA;rintro e W4 (⟨rfl,hJ4,hk4⟩|⟨rfl,hx4⟩))
     ·go_roundg (gk - 1)
      case measure=>omega
      case rel=>
       obtain ⟨vs',hvs',hj'⟩:=hJ4.out
       exact ⟨j+1,by omega,by go_num,hk4,⟨vs++vs',by rw [List.map_append,HVS.out,hvs',preVs_take _ _ _ hlt];simp,by rw [←List.append_assoc];exact hj'⟩⟩
     ·go_ret
      obtain ⟨vs',hvs',hj'⟩:=hx4.out
      refine .inr ⟨rfl,vs++vs',?_,by rw [←List.append_assoc];exact hj'⟩
      rw [List.map_append,HVS.out,preV_eq,preVs_split (d+1) x.l (j+1),preVs_take _ _ _ hlt]
      simp only [List.cons_append,List.append_assoc]
      exact List.cons_prefix_cons.2 ⟨rfl,(List.prefix_append_right_inj _).2 (hvs'.trans (List.prefix_append _ _))⟩
    ·have hjl:j=x.l.length:=by omega
     gi_wp2
     go_ret
     obtain ⟨vs,hvs,hjv⟩:=HJ.out
     exact .inl ⟨rfl,⟨vs,by rw [hvs,hjl,List.take_length,preV_eq],hjv⟩,hk⟩
  ·go_ret
   exact .inr ⟨rfl,_,by rw [preV_eq];simp only [List.map_cons,List.map_nil,Vis.p];exact List.cons_prefix_cons.2 ⟨rfl,List.nil_prefix⟩,hx2.out⟩

def AllR (J Jx:List Vis→World→Prop) (x:GV):Ending→World→Prop:=fun e W'=>
 (∃v,e=.returned v)∧((∃vs,vs.map Vis.p=preV 1 x∧J vs W')∨(∃vs,vs.map Vis.p <+: preV 1 x∧Jx vs W'))
set_option maxRecDepth 100000 in
set_option maxHeartbeats 1000000 in
theorem all1_in (n l:Nat) (S:Nat→Prop) (J Jx:List Vis→World→Prop) (x:GV) (W:World) (hJ:AbidesFrom W.heap.size J)
  (hY:∀m pre (v:Vis) W,J pre W→pre.length < sizeV x→YieldAt Fence.wide m Tryz.prog l (encVis v) W fun e W'=>
   (e=.returned (.bool true)∧J (pre++[v]) W'∧KC S W W')∨(e=.returned (.bool false)∧Jx (pre++[v]) W'))
  (Bt:Nat) (ma:Option Addr) (mc:Nat) (ox:okV x) (hsz:sizeV x≤1099511627776) (hS:∀b,W.heap.size≤b→¬S b) (hl:RVs W (fun b=>¬S b) x.l ma)
  (c0:W.cell? ⟨Bt,0,none⟩=some (.int .u8 x.k)) (c1:W.cell? ⟨Bt,1,none⟩=some (.int .i64 x.n)) (c2:W.cell? ⟨Bt,2,none⟩=some (.slice ma x.l.length mc)) (h0:J [] W):
  CallsIn Fence.wide n Tryz.prog 149 #[.func (.yield l) #[] #[],.pointer (some ⟨Bt,0,none⟩)] W (AllR J Jx x):=by
 have hdd:∀k:Nat,(Fence.wide.depth.isSome=true→1≤k):=fun k h=>by cases h
 have hBt:=World.block_lt_of_cell? _ _ c0
 obtain ⟨W1,hW1⟩:∃W1,W1=(W.alloc (.cells #[.func (.yield l) #[] #[]] 203)).alloc (.cells #[.func (.func 150) #[] #[.pointer (some ⟨W.heap.size,0,none⟩),.pointer (some ⟨W.heap.size+1,0,none⟩)]] 203):=⟨_,rfl⟩
 have hC:=visit_in l S (sizeV x) W.heap.size J Jx hJ hY W.heap.size (W.heap.size+1) (hS _ (by omega)) (hS _ (by omega)) (sizeV x) x (by omega) (n - 1) 1 ma mc [] W1 ox (by omega)
  (fun b hb=>hS b (by rw [hW1] at hb;simp at hb;omega)) (by rw [hW1];exact RVs.ext (Agree.below (((Below.refl _ _).alloc (by simp) _).alloc (by simp) _)) _ _ hl)
  (by rw [hW1,Below.heap_alloc _ _ _ (by simp)];exact World.alloc_heap_new W _) (by rw [hW1];have:=World.alloc_heap_new (W.alloc (.cells #[.func (.yield l) #[] #[]] 203)) (.cells #[.func (.func 150) #[] #[.pointer (some ⟨W.heap.size,0,none⟩),.pointer (some ⟨W.heap.size+1,0,none⟩)]] 203);rwa [World.size_alloc] at this)
  (by rw [hW1];exact hJ _ _ _ none (hJ _ W _ none h0 (World.grownBy_alloc W _ none) (fun r e=>by cases e)) (World.grownBy_alloc _ _ none) (fun r e=>by cases e)) (by simp)
 have hC2:=hC.mono (R':=fun e W'=>(∃v,e=.returned (.bool v))∧Hid ((∃vs,vs.map Vis.p=preV 1 x∧J vs W')∨(∃vs,vs.map Vis.p <+: preV 1 x∧Jx vs W')))
  (fun e W' h=>h.elim (fun ⟨he,⟨vs,h1,h2⟩,_⟩=>⟨⟨_,he⟩,.inl ⟨vs,h1,by simpa using h2⟩⟩) (fun ⟨he,vs,h1,h2⟩=>⟨⟨_,he⟩,.inr ⟨vs,h1,by simpa using h2⟩⟩))
 rw [hW1] at hC2
 have HC:=hid hC2
 clear hC hC2 hY hJ h0 hl hS hW1 W1 ox
 refine callsIn_of_wp Tryz.func149 rfl trivial ?_ rfl
 simp only [Tryz.ntmps149,List.size_toArray,List.length_cons,List.length_nil,Nat.reduceAdd,Nat.reduceSub,Array.replicate_succ,Array.replicate_zero,List.push_toArray,List.append_toArray,List.nil_append,List.cons_append]
 gi_wp2_with (refine ⟨trivial,hdd _,?_⟩;gi_at_call 150;refine HC.out.mono ?_;rintro e W4 ⟨⟨v,rfl⟩,h4⟩)
 all_goals go_end0
 all_goals exact ⟨⟨_,rfl⟩,h4.out⟩
theorem all_stops (n:Nat) (S:Nat→Prop) (x:GV) (w:World) (Bt:Nat) (ma:Option Addr) (mc:Nat) (ox:okV x) (hsz:sizeV x≤1099511627776) (hS:∀b,w.heap.size≤b→¬S b) (hl:RVs w (fun b=>¬S b) x.l ma)
  (c0:w.cell? ⟨Bt,0,none⟩=some (.int .u8 x.k)) (c1:w.cell? ⟨Bt,1,none⟩=some (.int .i64 x.n)) (c2:w.cell? ⟨Bt,2,none⟩=some (.slice ma x.l.length mc)):
  SeqStopsK Fence.wide n Tryz.prog 149 #[.pointer (some ⟨Bt,0,none⟩)] encVis (KC S) (fun vs=>vs.map Vis.p=preV 1 x) (fun vs=>vs.map Vis.p <+: preV 1 x) (sizeV x) w:=fun l J Jx W hW hJ _ hY h0=>
 (all1_in n l S J Jx x W hJ (fun m pre v W h1 h2=>yieldAt_any rfl m (hY pre v W h1 h2)) Bt ma mc ox hsz (fun b hb=>hS b (by have:=hW.size;omega)) (RVs.ext (Agree.below hW) _ _ hl)
  ((hW.cell (World.block_lt_of_cell? _ _ c0)).trans c0) ((hW.cell (World.block_lt_of_cell? _ _ c1)).trans c1) ((hW.cell (World.block_lt_of_cell? _ _ c2)).trans c2) h0).mono fun e W' h=>h
theorem all_any (x:GV) (m:VA) (w:World):Calls Tryz.prog 123 #[VV x m] w fun e w'=>e=.returned (.func (.func 149) #[] #[.pointer (some ⟨w.heap.size,0,none⟩)])∧w'=w.alloc (.cells #[.int .u8 x.k,.int .i64 x.n,.slice m.a x.l.length m.c] 24):=by
 go_enter Tryz.func123,Tryz.ntmps123
 go_wp2_with fail
 go_ret
 exact ⟨rfl,rfl⟩
end
section
open Go Go.RowKit Go.Shelf
attribute [local go_sem] Oper.semAt_some

set_option maxRecDepth 100000 in
set_option maxHeartbeats 2000000 in
theorem size_any (x:GV) (A:Nat→Prop) (m:VA) (w:World) (ox:okV x) (hsz:sizeV x≤1099511627776) (hl:RVs w A x.l m.a):
  Calls Tryz.prog 84 #[VV x m] w fun e w'=>e=.returned (.int .i64 (sizeV x))∧Below w.heap.size w w':=by
 refine (callsIn_wide (n:=3)).1 ?_
 obtain ⟨ma,mc⟩:=m
 have HL:=hid hl
 have OX:=hid ox
 have hsp:=sizeV_pos x
 clear hl ox
 refine callsIn_of_wp_marks Tryz.func84 rfl trivial ?_ rfl
 simp only [Tryz.ntmps84,List.size_toArray,List.length_cons,List.length_nil,Nat.reduceAdd,Nat.reduceSub,Array.replicate_succ,Array.replicate_zero,List.push_toArray,List.append_toArray,List.nil_append,List.cons_append]
 gi_wp2_with fail
 refine ⟨trivial,?_⟩
 refine (callsIn_wide.2 (all_any x ⟨ma,mc⟩ _)).mono ?_
 rintro e w' ⟨rfl,rfl⟩
 gi_wp2
 obtain ⟨W0,hW0⟩:∃W0,W0=((w.alloc (.cells #[.int .u8 x.k,.int .i64 x.n,.slice ma x.l.length mc] 24)).alloc (.cells #[.int .i64 0] 3)).alloc (.cells #[.int .u8 x.k,.int .i64 x.n,.slice ma x.l.length mc] 24):=⟨_,rfl⟩
 have hb0:Below w.heap.size w W0:=by rw [hW0];exact Below.z
 have hs0:W0.heap.size=w.heap.size+3:=by rw [hW0];simp
 have hn0:W0.cell? ⟨w.heap.size+1,0,none⟩=some (.int .i64 0)∧W0.frozen? ⟨w.heap.size+1,0,none⟩=false:=by rw [hW0];constructor<;>go_simp
 have d0:W0.cell? ⟨w.heap.size+2,0,none⟩=some (.int .u8 x.k):=by rw [hW0];go_simp
 have d1:W0.cell? ⟨w.heap.size+2,1,none⟩=some (.int .i64 x.n):=by rw [hW0];go_simp
 have d2:W0.cell? ⟨w.heap.size+2,2,none⟩=some (.slice ma x.l.length mc):=by rw [hW0];go_simp
 rw [←hW0]
 clear hW0
 have hl0:RVs W0 (fun b=>¬(b=w.heap.size+1)) x.l ma:=RVs.ext (Agree.below hb0) _ _ (RVs.mono (fun b _ hb=>by omega) _ _ HL.out)
 refine wpIn_rangeFunc_ownF rfl (by omega) (gf:=149) (lb:=#[.pointer (some ⟨w.heap.size+2,0,none⟩)]) rfl trivial (enters_of Tryz.func149 (by kernel_rfl) rfl)
  (all_stops 2 (fun b=>b=w.heap.size+1) x W0 (w.heap.size+2) ma mc OX.out hsz (fun b hb=>by omega) hl0 d0 d1 d2) (fun h k=>KC.trans h k) (fun W l o o' _ h1 h2 _=>KC.putObj l o o' h1 h2) (Below.refl _ _) (fun _=>rfl)
  (fun pre W=>(W.cell? ⟨w.heap.size+1,0,none⟩=some (.int .i64 pre.length)∧W.frozen? ⟨w.heap.size+1,0,none⟩=false)∧Below w.heap.size w W)
  (fun _ _ _=>False)
  (OwnFrom.and (Own.from (fun s A B row hs hg hr=>⟨cell_kept hs.1 hg hr,(frozen_kept hs.1 hg hr).trans hs.2⟩) _) (ownFrom_below (Nat.le_refl _) (by omega)))
  (fun _ _ _ _ _ hs _ _=>hs) ⟨hn0,hb0⟩
  (fun v=>{ tmps:=#[VV x ⟨ma,mc⟩,.pointer (some ⟨w.heap.size,0,none⟩),.int .i64 0,.pointer (some ⟨w.heap.size+1,0,none⟩),.agg #[.int .u8 x.k,.int .i64 x.n,.slice ma x.l.length mc],.func (.func 149) #[] #[.pointer (some ⟨w.heap.size+2,0,none⟩)],.int .i64 v.d,VV v.x v.m,undef,undef,undef],defers:=[] }) ?assign ?body ?done ?stop
 case assign=>
  intro l v W K hK
  dsimp only [encVis]
  gi_wp2
  simp
  exact hK
 case body=>
  rintro l pre v W ⟨⟨hc,hf⟩,hB⟩ hlen
  have hpl:(pre.length:Int) < 1099511627776:=by omega
  have hW:=World.block_lt_of_cell? _ _ hc
  gi_wp2
  refine ⟨KeepsOthers.setCell _ _ _,(KC.refl _ _).setCell _ _ rfl,⟨?_,?_⟩,hB.setCell (by simp) _⟩
  ·rw [World.cell?_setCell_same' _ _ _ (by rw [hc];rfl)]
   simp
  ·rw [World.frozen?_setCell];exact hf
 case done=>
  rintro D vs W hD hvs ⟨⟨hc,hf⟩,hB⟩ hK
  gi_wp2
  have hlen:vs.length=sizeV x:=by
   have:=congrArg List.length hvs
   simpa [preV_length] using this
  refine ⟨by simp,.inl ⟨_,_,rfl,run_takeDeferred hK,?_⟩⟩
  refine ⟨_,results_tmp rfl _ _ _,by simp [hlen],?_⟩
  exact hB.trans (belowK_b (w:=w) (Nat.le_refl _) W D _ _ (by omega) hK rfl rfl)
 case stop=>
  rintro D c pre W _ _ h _
  exact h.elim
end
section
open Go Go.RowKit Go.Shelf
attribute [local go_sem] Oper.semAt_some
mutual
def deepV:GV→Nat
 | ⟨_,_,l⟩=>1+deepVs l
def deepVs:List GV→Nat
 | []=>0
 | x::l=>max (deepV x) (deepVs l)
end
theorem deepV_eq (x:GV):deepV x=1+deepVs x.l:=by cases x;simp only [deepV]
mutual
theorem deepV_le:∀(x:GV),deepV x≤sizeV x
 | ⟨_,_,l⟩=>by have:=deepVs_le l;simp only [deepV,sizeV];omega
theorem deepVs_le:∀(l:List GV),deepVs l≤sizeVs l
 | []=>by simp [deepVs]
 | x::l=>by have:=deepV_le x;have:=deepVs_le l;simp only [deepVs,sizeVs];omega
end
def maxd:List (Nat×GV)→Nat
 | []=>0
 | p::r=>max p.1 (maxd r)
theorem maxd_append (a b:List (Nat×GV)):maxd (a++b)=max (maxd a) (maxd b):=by
 induction a with
 | nil=>simp [maxd]
 | cons p a ih=>simp only [List.cons_append,maxd,ih];omega
mutual
theorem maxd_preV:∀(x:GV) (d:Nat),maxd (preV (d+1) x)=d+deepV x
 | ⟨k,n,l⟩,d=>by
  have:=maxd_preVs l (d+1)
  simp only [preV,maxd,deepV,this]
  cases l with
  | nil=>simp [deepVs]
  | cons y l=>simp only [reduceCtorEq,if_false];omega
theorem maxd_preVs:∀(l:List GV) (d:Nat),maxd (preVs (d+1) l)=if l=[] then 0 else d+deepVs l
 | [],d=>by simp [preVs,maxd]
 | x::l,d=>by
  have h1:=maxd_preV x d
  have h2:=maxd_preVs l d
  simp only [preVs,maxd_append,h1,h2,deepVs,reduceCtorEq,if_false]
  cases l with
  | nil=>simp [deepVs]
  | cons y l=>simp only [reduceCtorEq,if_false];omega
end
theorem maxd_le_bound (b:Nat):∀(l:List Vis),(∀v∈l,v.d≤b)→maxd (l.map Vis.p)≤b
 | [],_=>by simp [maxd]
 | v::l,h=>by
  have h1:=h v (by simp)
  have h2:=maxd_le_bound b l (fun v hv=>h v (by simp [hv]))
  simp only [List.map_cons,maxd,Vis.p];omega
def firstErr:List (Nat×GV)→Int
 | []=>0
 | p::r=>if nodeV p.2≠0 then nodeV p.2 else firstErr r
theorem firstErr_append (a b:List (Nat×GV)):firstErr (a++b)=if firstErr a≠0 then firstErr a else firstErr b:=by
 induction a with
 | nil=>simp [firstErr]
 | cons p a ih=>
  simp only [List.cons_append,firstErr,ih]
  by_cases h:nodeV p.2=0<;>simp [h]
def checkV (x:GV):Int:=
 if firstErr (preV 1 x)≠0 then firstErr (preV 1 x) else if 128 < (deepV x:Int) then 9 else if 4096 < (sizeV x:Int) then 5 else 0

theorem cellA {W:World} {a:Addr} {v:Value} (o:Obj) (h:W.cell? a=some v):(W.alloc o).cell? a=some v:=cell_kept h (World.grownBy_alloc W o none) (fun r e=>by cases e)
theorem frozenA {W:World} {a:Addr} {v:Value} (o:Obj) (h:W.cell? a=some v) (hf:W.frozen? a=false):(W.alloc o).frozen? a=false:=(frozen_kept h (World.grownBy_alloc W o none) (fun r e=>by cases e)).trans hf
theorem KO_below {A B C:World} (h:KeepsOthers A B) (k:Below B.heap.size B C):KeepsOthers A C:=
 h.trans ⟨k.size,fun n o h _=>by rw [k.block _ (Array.getElem?_eq_some_iff.1 h).1];exact h⟩
set_option maxRecDepth 100000 in
set_option maxHeartbeats 2000000 in
theorem deep_any (x:GV) (A:Nat→Prop) (m:VA) (w:World) (ox:okV x) (hsz:sizeV x≤1099511627776) (hl:RVs w A x.l m.a):
  Calls Tryz.prog 129 #[VV x m] w fun e w'=>e=.returned (.int .i64 (deepV x))∧Below w.heap.size w w':=by
 refine (callsIn_wide (n:=3)).1 ?_
 obtain ⟨ma,mc⟩:=m
 have HL:=hid hl
 have OX:=hid ox
 have hsp:=sizeV_pos x
 clear hl ox
 refine callsIn_of_wp_marks Tryz.func129 rfl trivial ?_ rfl
 simp only [Tryz.ntmps129,List.size_toArray,List.length_cons,List.length_nil,Nat.reduceAdd,Nat.reduceSub,Array.replicate_succ,Array.replicate_zero,List.push_toArray,List.append_toArray,List.nil_append,List.cons_append]
 gi_wp2_with fail
 refine ⟨trivial,?_⟩
 refine (callsIn_wide.2 (all_any x ⟨ma,mc⟩ _)).mono ?_
 rintro e w' ⟨rfl,rfl⟩
 gi_wp2
 obtain ⟨W0,hW0⟩:∃W0,W0=((w.alloc (.cells #[.int .u8 x.k,.int .i64 x.n,.slice ma x.l.length mc] 24)).alloc (.cells #[.int .i64 0] 3)).alloc (.cells #[.int .u8 x.k,.int .i64 x.n,.slice ma x.l.length mc] 24):=⟨_,rfl⟩
 have hb0:Below w.heap.size w W0:=by rw [hW0];exact Below.z
 have hs0:W0.heap.size=w.heap.size+3:=by rw [hW0];simp
 have hn0:W0.cell? ⟨w.heap.size+1,0,none⟩=some (.int .i64 0)∧W0.frozen? ⟨w.heap.size+1,0,none⟩=false:=by rw [hW0];constructor<;>go_simp
 have d0:W0.cell? ⟨w.heap.size+2,0,none⟩=some (.int .u8 x.k):=by rw [hW0];go_simp
 have d1:W0.cell? ⟨w.heap.size+2,1,none⟩=some (.int .i64 x.n):=by rw [hW0];go_simp
 have d2:W0.cell? ⟨w.heap.size+2,2,none⟩=some (.slice ma x.l.length mc):=by rw [hW0];go_simp
 rw [←hW0]
 clear hW0
 have hl0:RVs W0 (fun b=>¬(b=w.heap.size+1)) x.l ma:=RVs.ext (Agree.below hb0) _ _ (RVs.mono (fun b _ hb=>by omega) _ _ HL.out)
 refine wpIn_rangeFunc_ownF rfl (by omega) (gf:=149) (lb:=#[.pointer (some ⟨w.heap.size+2,0,none⟩)]) rfl trivial (enters_of Tryz.func149 (by kernel_rfl) rfl)
  (all_stops 2 (fun b=>b=w.heap.size+1) x W0 (w.heap.size+2) ma mc OX.out hsz (fun b hb=>by omega) hl0 d0 d1 d2) (fun h k=>KC.trans h k) (fun W l o o' _ h1 h2 _=>KC.putObj l o o' h1 h2) (Below.refl _ _) (fun _=>rfl)
  (fun pre W=>(W.cell? ⟨w.heap.size+1,0,none⟩=some (.int .i64 (maxd (pre.map Vis.p):Nat))∧W.frozen? ⟨w.heap.size+1,0,none⟩=false)∧Below w.heap.size w W)
  (fun _ _ _=>False)
  (OwnFrom.and (Own.from (fun s A B row hs hg hr=>⟨cell_kept hs.1 hg hr,(frozen_kept hs.1 hg hr).trans hs.2⟩) _) (ownFrom_below (Nat.le_refl _) (by omega)))
  (fun _ _ _ _ _ hs _ _=>hs) ⟨hn0,hb0⟩
  (fun v=>{ tmps:=#[VV x ⟨ma,mc⟩,.pointer (some ⟨w.heap.size,0,none⟩),.int .i64 0,.pointer (some ⟨w.heap.size+1,0,none⟩),.int .i64 v.d,.agg #[.int .u8 x.k,.int .i64 x.n,.slice ma x.l.length mc],.func (.func 149) #[] #[.pointer (some ⟨w.heap.size+2,0,none⟩)],.int .i64 v.d,VV v.x v.m,undef,undef,undef,undef],defers:=[] }) ?assign ?body ?done ?stop
 case assign=>
  intro l v W K hK
  dsimp only [encVis]
  gi_wp2
  (try simp)
  exact hK
 case body=>
  rintro l pre v W ⟨⟨hc,hf⟩,hB⟩ hlen
  have hpl:maxd (pre.map Vis.p)≤4611686018427387904:=maxd_le_bound _ _ (fun v _=>v.hd)
  have hvd:=v.hd
  have hW:=World.block_lt_of_cell? _ _ hc
  generalize hM:maxd (pre.map Vis.p)=M at *
  have HM:=hid hM
  clear hM
  gi_wp2
  all_goals refine ⟨KeepsOthers.setCell _ _ _,(KC.refl _ _).setCell _ _ rfl,⟨?_,(by rw [World.frozen?_setCell];exact hf)⟩,hB.setCell (by simp) _⟩
  all_goals rw [World.cell?_setCell_same' _ _ _ (by rw [hc];rfl)]
  all_goals simp only [List.map_append,maxd_append,HM.out,List.map_cons,List.map_nil,maxd,Vis.p]
  all_goals refine congrArg (fun z:Int=>some (Value.int IntKind.i64 z)) ?_
  all_goals omega
 case done=>
  rintro D vs W hD hvs ⟨⟨hc,hf⟩,hB⟩ hK
  have hlen:maxd (vs.map Vis.p)=deepV x:=by
   rw [hvs,maxd_preV];omega
  rw [hlen] at hc
  gi_wp2
  refine ⟨by simp,.inl ⟨_,_,rfl,run_takeDeferred hK,?_⟩⟩
  refine ⟨_,results_tmp rfl _ _ _,by simp,?_⟩
  exact hB.trans (belowK_b (w:=w) (Nat.le_refl _) W D _ _ (by omega) hK rfl rfl)
 case stop=>
  rintro D c pre W _ _ h _
  exact h.elim

theorem firstErr_prefix {a b:List (Nat×GV)} (h:a <+: b) (ha:firstErr a≠0):firstErr b=firstErr a:=by
 obtain ⟨r,rfl⟩:=h
 rw [firstErr_append,if_pos ha]
def CheckR (F:Int) (w:World):Ending→World→Prop:=fun e w'=>e=.returned (.int .i64 F)∧Below w.heap.size w w'
set_option maxRecDepth 100000 in
set_option maxHeartbeats 2000000 in
theorem checkV_any (x:GV) (A:Nat→Prop) (m:VA) (w:World) (ox:okV x) (hsz:sizeV x≤1099511627776) (hl:RVs w A x.l m.a):
  Calls Tryz.prog 119 #[VV x m] w (CheckR (checkV x) w):=by
 refine (callsIn_wide (n:=3)).1 ?_
 obtain ⟨ma,mc⟩:=m
 have HL:=hid hl
 have OX:=hid ox
 have hsp:=sizeV_pos x
 clear hl ox
 generalize hF:checkV x=F
 have HF:=hid hF
 clear hF
 refine callsIn_of_wp_marks Tryz.func119 rfl trivial ?_ rfl
 simp only [Tryz.ntmps119,List.size_toArray,List.length_cons,List.length_nil,Nat.reduceAdd,Nat.reduceSub,Array.replicate_succ,Array.replicate_zero,List.push_toArray,List.append_toArray,List.nil_append,List.cons_append]
 gi_wp2_with fail
 refine ⟨trivial,?_⟩
 refine (callsIn_wide.2 (all_any x ⟨ma,mc⟩ _)).mono ?_
 rintro e w' ⟨rfl,rfl⟩
 gi_wp2
 obtain ⟨W0,hW0⟩:∃W0,W0=((((w.alloc (.cells #[.int .u8 x.k,.int .i64 x.n,.slice ma x.l.length mc] 24)).alloc (.cells #[.int .i64 0] 35)).alloc (.cells #[.int .i64 0] 3)).alloc (.cells #[.int .i64 0] 3)).alloc
   (.cells #[.int .u8 x.k,.int .i64 x.n,.slice ma x.l.length mc] 24):=⟨_,rfl⟩
 have hb0:Below w.heap.size w W0:=by rw [hW0];exact Below.z
 have hs0:W0.heap.size=w.heap.size+5:=by rw [hW0];simp
 have hn1:W0.cell? ⟨w.heap.size+1,0,none⟩=some (.int .i64 0)∧W0.frozen? ⟨w.heap.size+1,0,none⟩=false:=by rw [hW0];constructor<;>go_simp
 have hn2:W0.cell? ⟨w.heap.size+2,0,none⟩=some (.int .i64 0)∧W0.frozen? ⟨w.heap.size+2,0,none⟩=false:=by rw [hW0];constructor<;>go_simp
 have hn3:W0.cell? ⟨w.heap.size+3,0,none⟩=some (.int .i64 0)∧W0.frozen? ⟨w.heap.size+3,0,none⟩=false:=by rw [hW0];constructor<;>go_simp
 have d0:W0.cell? ⟨w.heap.size+4,0,none⟩=some (.int .u8 x.k):=by rw [hW0];go_simp
 have d1:W0.cell? ⟨w.heap.size+4,1,none⟩=some (.int .i64 x.n):=by rw [hW0];go_simp
 have d2:W0.cell? ⟨w.heap.size+4,2,none⟩=some (.slice ma x.l.length mc):=by rw [hW0];go_simp
 rw [←hW0]
 clear hW0
 have hl0:RVs W0 (fun b=>¬(b=w.heap.size+1∨b=w.heap.size+2∨b=w.heap.size+3)) x.l ma:=RVs.ext (Agree.below hb0) _ _ (RVs.mono (fun b _ hb=>by omega) _ _ HL.out)
 refine wpIn_rangeFunc_ownH rfl (by omega) (gf:=149) (lb:=#[.pointer (some ⟨w.heap.size+4,0,none⟩)]) rfl trivial (enters_of Tryz.func149 (by kernel_rfl) rfl)
  (all_stops 2 (fun b=>b=w.heap.size+1∨b=w.heap.size+2∨b=w.heap.size+3) x W0 (w.heap.size+4) ma mc OX.out hsz (fun b hb=>by omega) hl0 d0 d1 d2) (fun h k=>KC.trans h k) (fun W l o o' _ h1 h2 _=>KC.putObj l o o' h1 h2) (Below.refl _ _) (fun _=>rfl)
  (fun pre W=>((W.cell? ⟨w.heap.size+1,0,none⟩=some (.int .i64 0)∧W.frozen? ⟨w.heap.size+1,0,none⟩=false) ∧
    (W.cell? ⟨w.heap.size+2,0,none⟩=some (.int .i64 pre.length)∧W.frozen? ⟨w.heap.size+2,0,none⟩=false) ∧
    (W.cell? ⟨w.heap.size+3,0,none⟩=some (.int .i64 (maxd (pre.map Vis.p):Nat))∧W.frozen? ⟨w.heap.size+3,0,none⟩=false)∧Hid (firstErr (pre.map Vis.p)=0))∧Below w.heap.size w W∧w.heap.size+5≤W.heap.size)
  (fun c pre W=>((W.cell? ⟨w.heap.size+1,0,none⟩=some (.int .i64 (firstErr (pre.map Vis.p)))∧W.frozen? ⟨w.heap.size+1,0,none⟩=false)∧Hid (c=.ret∧firstErr (pre.map Vis.p)≠0))∧Below w.heap.size w W)
  (OwnFrom.and (Own.from (fun s A B row hs hg hr=>⟨⟨cell_kept hs.1.1 hg hr,(frozen_kept hs.1.1 hg hr).trans hs.1.2⟩,⟨cell_kept hs.2.1.1 hg hr,(frozen_kept hs.2.1.1 hg hr).trans hs.2.1.2⟩,⟨cell_kept hs.2.2.1.1 hg hr,(frozen_kept hs.2.2.1.1 hg hr).trans hs.2.2.1.2⟩,hs.2.2.2⟩) _) (OwnFrom.and (ownFrom_below (Nat.le_refl _) (by omega)) (fun s A B row hs hg hr=>Nat.le_trans hs hg.size)))
  (fun c=>OwnFrom.and (Own.from (fun s A B row hs hg hr=>⟨⟨cell_kept hs.1.1 hg hr,(frozen_kept hs.1.1 hg hr).trans hs.1.2⟩,hs.2⟩) _) (ownFrom_below (Nat.le_refl _) (by omega))) ⟨⟨hn1,hn2,hn3,rfl⟩,hb0,by omega⟩
  (fun v a' W=>∃Bx,w.heap.size+5≤Bx∧W.cell? ⟨Bx,0,none⟩=some (.int .u8 v.x.k)∧W.cell? ⟨Bx,1,none⟩=some (.int .i64 v.x.n)∧W.cell? ⟨Bx,2,none⟩=some (.slice v.m.a v.x.l.length v.m.c) ∧
   a'={ tmps:=#[VV x ⟨ma,mc⟩,.pointer (some ⟨w.heap.size,0,none⟩),.pointer (some ⟨w.heap.size+1,0,none⟩),.pointer (some ⟨w.heap.size+2,0,none⟩),.pointer (some ⟨w.heap.size+3,0,none⟩),.int .i64 v.d,.pointer (some ⟨Bx,0,none⟩),undef,
    .agg #[.int .u8 x.k,.int .i64 x.n,.slice ma x.l.length mc],.func (.func 149) #[] #[.pointer (some ⟨w.heap.size+4,0,none⟩)],.int .i64 v.d,VV v.x v.m,undef,undef,undef,undef,undef,undef,undef,undef,undef,undef,undef,undef,undef,undef,undef,undef],defers:=[] })
  (fun v a' s A B row hs hg hr=>by
   obtain ⟨Bx,h1,c0,c1,c2,e⟩:=hs
   exact ⟨Bx,h1,cell_kept c0 hg (fun r e=>(hr r e).2),cell_kept c1 hg (fun r e=>(hr r e).2),cell_kept c2 hg (fun r e=>(hr r e).2),e⟩) ?assign ?body ?done ?stop
 case assign=>
  rintro l pre v W K ⟨⟨⟨h1,f1⟩,⟨h2,f2⟩,⟨h3,f3⟩,h4⟩,hB,hz⟩ hK
  dsimp only [encVis]
  gi_wp2
  exact hK _ _ ((KeepsOthers.alloc _ _).from _) ((KC.refl _ _).alloc _) ⟨⟨⟨cellA _ h1,frozenA _ h1 f1⟩,⟨cellA _ h2,frozenA _ h2 f2⟩,⟨cellA _ h3,frozenA _ h3 f3⟩,h4⟩,hB.alloc (by omega) _,by simp;omega⟩
   ⟨W.heap.size,hz,by go_simp,by go_simp,by go_simp,rfl⟩
 case body=>
  rintro l pre v a' W hlt ⟨r,hr⟩ ⟨⟨⟨h1,f1⟩,⟨h2,f2⟩,⟨h3,f3⟩,h4⟩,hB,hz⟩ ⟨Bx,hBx,c0,c1,c2,rfl⟩ hlen
  obtain ⟨hv1,hv2,hv3,_⟩:=okV_iff.1 v.ok
  have hc:=wrong_any v.x v.m W ⟨hv1,hv2,hv3⟩
  have HC:=hid hc
  have hpl:maxd (pre.map Vis.p)≤4611686018427387904:=maxd_le_bound _ _ (fun v _=>v.hd)
  have hpl2:(pre.length:Int) < 1099511627776:=by omega
  have hvd:=v.hd
  generalize hM:maxd (pre.map Vis.p)=M at *
  have HM:=hid hM
  clear hM hc
  gi_wp2_with fail
  refine ⟨trivial,(CallsIn.inRound l (callsIn_wide.2 HC.out)).mono ?_⟩
  rintro e W1 ⟨rfl,hb⟩
  have g1:=(hb.cell (p:=⟨w.heap.size+1,0,none⟩) (World.block_lt_of_cell? _ _ h1)).trans h1
  have g2:=(hb.cell (p:=⟨w.heap.size+2,0,none⟩) (World.block_lt_of_cell? _ _ h2)).trans h2
  have g3:=(hb.cell (p:=⟨w.heap.size+3,0,none⟩) (World.block_lt_of_cell? _ _ h3)).trans h3
  have e1:=(hb.frozen (p:=⟨w.heap.size+1,0,none⟩) (World.block_lt_of_cell? _ _ h1)).trans f1
  have e2:=(hb.frozen (p:=⟨w.heap.size+2,0,none⟩) (World.block_lt_of_cell? _ _ h2)).trans f2
  have e3:=(hb.frozen (p:=⟨w.heap.size+3,0,none⟩) (World.block_lt_of_cell? _ _ h3)).trans f3
  have hB1:Below w.heap.size w W1:=hB.trans (hb.mono (by omega))
  have hz1:w.heap.size+5≤W1.heap.size:=Nat.le_trans hz hb.size
  clear h1 h2 h3 f1 f2 f3 HC
  by_cases hn:nodeV v.x=0
  ·have hn':(nodeV v.x != 0)=false:=by simp [hn]
   have HN:=hid hn
   clear hn
   gi_wp2
   have hmx:Tryz.prog.follows .mixedOrders=true:=by kernel_rfl
   have hfe:firstErr ((pre++[v]).map Vis.p)=0:=by
    rw [List.map_append,firstErr_append,if_neg (by rw [h4.out];simp)]
    simp [firstErr,Vis.p,HN.out]
   have hmd:maxd ((pre++[v]).map Vis.p)=max M v.d:=by
    simp only [List.map_append,maxd_append,HM.out,List.map_cons,List.map_nil,maxd,Vis.p];omega
   have hpl3:(pre++[v]).length=pre.length+1:=by simp
   have HFE:=hid hfe
   have HMD:=hid hmd
   have HPL:=hid hpl3
   clear hfe hmd hpl3
   have hwr:IntKind.i64.wrap ((pre.length:Int)+1)=((pre.length+1:Nat):Int):=by rw [IntWalk.i64_in _ (by omega)];omega
   have HWR:=hid hwr
   clear hwr
   gi_region_o
   all_goals refine ⟨KeepsOthers.from (by (repeat (first|exact KeepsOthers.refl _|refine KeepsOthers.trans ?_ (KeepsOthers.setCell _ _ _)|refine KeepsOthers.trans ?_ (KeepsOthers.drew _)|refine KO_below ?_ hb))) _,
    (by (repeat (first|exact KC.refl _ _|refine KC.setCell ?_ _ _ (by simp)|refine KC.drew ?_|refine KC.below ?_ hb))),
    ⟨⟨?_,?_⟩,⟨?_,?_⟩,⟨?_,?_⟩,HFE.out⟩,Below.z,by simp;omega⟩
   all_goals (try rw [HMD.out])
   all_goals (try rw [HPL.out])
   all_goals (try rw [HWR.out])
   all_goals (try go_simp)
   all_goals (try (split<;>first|omega|(refine congrArg (fun z:Int=>some (Value.int IntKind.i64 z)) ?_;omega)))
   all_goals (try omega)
  ·have hn':(nodeV v.x != 0)=true:=by simp [hn]
   have HN:=hid hn
   clear hn
   gi_wp2
   refine ⟨((KO_below (KeepsOthers.refl _) hb).trans (KeepsOthers.setCell _ _ _)).from _,⟨⟨?_,?_⟩,rfl,?_⟩,hB1.setCell (by simp) _⟩
   ·rw [World.cell?_setCell_same' _ _ _ (by rw [g1];rfl)]
    rw [List.map_append,firstErr_append,if_neg (by rw [h4.out];simp)]
    simp [firstErr,Vis.p,HN.out]
   ·rw [World.frozen?_setCell];exact e1
   ·rw [List.map_append,firstErr_append,if_neg (by rw [h4.out];simp)]
    simp [firstErr,Vis.p,HN.out]
 case done=>
  rintro D vs W hD hvs ⟨⟨⟨h1,f1⟩,⟨h2,f2⟩,⟨h3,f3⟩,h4⟩,hB,hz⟩ hK
  rw [hvs] at h3 h4
  rw [maxd_preV] at h3
  have hlen:vs.length=sizeV x:=by
   have:=congrArg List.length hvs
   simpa [preV_length] using this
  rw [hlen] at h2
  have hdl:=deepV_le x
  have hDz:D≠w.heap.size+1:=by omega
  gi_wp2
  all_goals refine ⟨by simp,.inl ⟨_,_,rfl,run_takeDeferred (by rw [Below.heap_setCell _ _ _ _ (by simpa using hDz)];exact hK),?_⟩⟩
  all_goals simp only [LeavesInM,LeavesIn]
  ·have hC:=cell_kept (World.cell?_setCell_same' W ⟨w.heap.size+1,0,none⟩ (.int .i64 9) (by rw [h1];rfl)) (grownBy_putObj' _ D (.deferred none)) (fun r e=>by cases e;exact ⟨_,by rw [Below.heap_setCell _ _ _ _ (by simpa using hDz)];exact hK,rfl⟩)
   refine ⟨.int .i64 9,by simp [results,Tryz.f119,go_sem,hC],by rw [←HF.out,checkV,if_neg (by rw [h4.out];simp),if_pos (by assumption)],?_⟩
   exact (hB.setCell (by simp) _).trans (belowK_b (w:=w) (Nat.le_refl _) _ D _ _ (by omega) (by rw [Below.heap_setCell _ _ _ _ (by simpa using hDz)];exact hK) rfl rfl)
  ·have hC:=cell_kept (World.cell?_setCell_same' W ⟨w.heap.size+1,0,none⟩ (.int .i64 5) (by rw [h1];rfl)) (grownBy_putObj' _ D (.deferred none)) (fun r e=>by cases e;exact ⟨_,by rw [Below.heap_setCell _ _ _ _ (by simpa using hDz)];exact hK,rfl⟩)
   refine ⟨.int .i64 5,by simp [results,Tryz.f119,go_sem,hC],by rw [←HF.out,checkV,if_neg (by rw [h4.out];simp),if_neg (by omega),if_pos (by assumption)],?_⟩
   exact (hB.setCell (by simp) _).trans (belowK_b (w:=w) (Nat.le_refl _) _ D _ _ (by omega) (by rw [Below.heap_setCell _ _ _ _ (by simpa using hDz)];exact hK) rfl rfl)
  ·have hC:=cell_kept (World.cell?_setCell_same' W ⟨w.heap.size+1,0,none⟩ (.int .i64 0) (by rw [h1];rfl)) (grownBy_putObj' _ D (.deferred none)) (fun r e=>by cases e;exact ⟨_,by rw [Below.heap_setCell _ _ _ _ (by simpa using hDz)];exact hK,rfl⟩)
   refine ⟨.int .i64 0,by simp [results,Tryz.f119,go_sem,hC],by rw [←HF.out,checkV,if_neg (by rw [h4.out];simp),if_neg (by omega),if_neg (by omega)],?_⟩
   exact (hB.setCell (by simp) _).trans (belowK_b (w:=w) (Nat.le_refl _) _ D _ _ (by omega) (by rw [Below.heap_setCell _ _ _ _ (by simpa using hDz)];exact hK) rfl rfl)
 case stop=>
  rintro D c pre W hD hvs ⟨⟨⟨h1,f1⟩,h4⟩,hB⟩ hK
  obtain ⟨rfl,hne⟩:=h4
  gi_wp2
  refine ⟨by simp,.inl ⟨_,_,rfl,run_takeDeferred hK,?_⟩⟩
  simp only [LeavesInM,LeavesIn]
  have hC:=cell_kept h1 (grownBy_putObj' _ D (.deferred none)) (fun r e=>by cases e;exact ⟨_,hK,rfl⟩)
  refine ⟨.int .i64 _,by simp [results,Tryz.f119,go_sem,hC];rfl,?_,?_⟩
  ·rw [←HF.out,checkV,firstErr_prefix hvs hne,if_pos hne]
  ·exact hB.trans (belowK_b (w:=w) (Nat.le_refl _) W D _ _ (by omega) hK rfl rfl)
end
def numberE (p:GP):Int:=if p.k=8∧(p.n < 0∨64 < p.n) then 1 else if p.k≠8∧p.n≠0 then 3 else 0
set_option maxRecDepth 100000 in
theorem number_any (p:GP) (m:PA) (w:World) (ox:isU8 p.k∧isI64 p.n):
  Calls Tryz.prog 121 #[PV p m] w fun e w'=>e=.returned (.int .i64 (numberE p))∧Below w.heap.size w w':=by
 obtain ⟨⟨x1,x2⟩,⟨x3,x4⟩⟩:=ox
 obtain ⟨ma,mc,mb,md⟩:=m
 generalize hF:numberE p=F
 have HF:=hid hF
 clear hF
 go_enter Tryz.func121,Tryz.ntmps121
 go_wp2_with fail
 all_goals go_ret
 all_goals refine ⟨ret_int ?_,Below.z⟩
 all_goals rw [←HF.out]
 all_goals unfold numberE
 all_goals (first|rfl|omega|((try simp only [beq_iff_eq,beq_eq_false_iff_ne,bne_iff_ne,bne_eq_false_iff_eq,decide_eq_true_eq,decide_eq_false_iff_not,ne_eq,Bool.and_eq_true,Bool.or_eq_true,Bool.and_eq_false_iff,Bool.or_eq_false_iff,Bool.not_eq_true',Bool.not_eq_false'] at *);(repeat' split)<;>first|rfl|omega|contradiction|(simp_all;done)|(simp_all;omega)))
def roomL (k:Int):Int:=if k=1∨k=2∨k=3∨k=4 then 0 else if k=6∨k=7 then 0 else 1
def roomM (k:Int):Int:=if k=1∨k=2∨k=3∨k=4 then 0 else if k=6∨k=7 then 64 else 1
theorem room_any (k:Int) (w:World) (hk:isU8 k):Calls Tryz.prog 122 #[.int .u8 k] w fun e w'=>e=.returned (.tuple #[.int .i64 (roomL k),.int .i64 (roomM k)])∧Below w.heap.size w w':=by
 obtain ⟨h0,h1⟩:=hk
 generalize hF:roomL k=F
 have HF:=hid hF
 clear hF
 generalize hG:roomM k=G
 have HG:=hid hG
 clear hG
 go_enter Tryz.func122,Tryz.ntmps122
 go_wp2_with fail
 all_goals go_ret2
 all_goals refine ⟨ret_ii ?_ ?_,Below.z⟩
 all_goals first|rw [←HF.out]|rw [←HG.out]
 all_goals first|unfold roomL|unfold roomM
 all_goals (first|rfl|omega|((try simp only [beq_iff_eq,beq_eq_false_iff_ne,bne_iff_ne,bne_eq_false_iff_eq,decide_eq_true_eq,decide_eq_false_iff_not,ne_eq,Bool.and_eq_true,Bool.or_eq_true,Bool.and_eq_false_iff,Bool.or_eq_false_iff,Bool.not_eq_true',Bool.not_eq_false'] at *);(repeat' split)<;>first|rfl|omega|contradiction|(simp_all;done)|(simp_all;omega)))
theorem roomL_in (k:Int):0≤roomL k∧roomL k≤1:=by unfold roomL;(repeat' split)<;>omega
theorem roomM_in (k:Int):0≤roomM k∧roomM k≤64:=by unfold roomM;(repeat' split)<;>omega
def nodePrest (p:GP):Int:=if numberE p≠0 then numberE p else if (p.a.length:Int) < roomL p.k then 4 else if roomM p.k < (p.a.length:Int) then 5 else 0
def nodeP (p:GP):Int:=
 if p.k < 1∨11 < p.k then 11
 else if hasValueB p.k=true then (if checkV p.v≠0 then checkV p.v else nodePrest p)
 else if noneV p.v=true then nodePrest p else 3
set_option maxRecDepth 100000 in
set_option maxHeartbeats 1000000 in
theorem node_any (p:GP) (A:Nat→Prop) (m:PA) (w:World) (ox:okP p) (hsz:sizeP p≤1099511627776) (hl:RP w A p m):
  Calls Tryz.prog 82 #[PV p m] w fun e w'=>e=.returned (.int .i64 (nodeP p))∧Below w.heap.size w w':=by
 obtain ⟨⟨x1,x2⟩,ov,⟨x3,x4⟩,x5,oa⟩:=okP_iff.1 ox
 obtain ⟨⟨v1,v2⟩,⟨v3,v4⟩,v5,_⟩:=okV_iff.1 ov
 obtain ⟨ma,mc,mb,md⟩:=m
 have hvs:sizeV p.v≤1099511627776:=by have:=sizeP_eq p;omega
 have OV:=hid ov
 have HL:=hid (RV_iff.1 (RP_iff.1 hl).1)
 have HU:=hid (show isU8 p.k from ⟨x1,x2⟩)
 have HN:=hid (show isI64 p.n from ⟨x3,x4⟩)
 have HV:=hid (show isU8 p.v.k∧isI64 p.v.n∧p.v.l.length≤1048576 from ⟨⟨v1,v2⟩,⟨v3,v4⟩,v5⟩)
 obtain ⟨r1,r2⟩:=roomL_in p.k
 obtain ⟨r3,r4⟩:=roomM_in p.k
 clear hl ov ox oa
 generalize hF:nodeP p=F
 have HF:=hid hF
 clear hF
 go_enter Tryz.func82,Tryz.ntmps82
 go_wp2_with (first
  | (go_at_call 83;refine (hasValue_any _ _ HU.out).mono ?_;rintro e w1 ⟨rfl,hb⟩;have hB1:=hb;clear hb;obtain ⟨hc1,hf1⟩:=bcells hB1)
  | (go_at_call 119;refine (checkV_any p.v A ⟨ma,mc⟩ _ OV.out hvs (by exact RVs.ext (Agree.below Below.z) _ _ HL.out)).mono ?_;rintro e w2 ⟨rfl,hb⟩;have hB2:=Below.trans hB1 (Below.mono hb (Below.size hB1));clear hb;obtain ⟨hc2,hf2⟩:=bcells hB2)
  | (go_at_call 120;refine (none_any p.v ⟨ma,mc⟩ _ HV.out).mono ?_;rintro e w2 ⟨rfl,hb⟩;have hB2:=Below.trans hB1 (Below.mono hb (Below.size hB1));clear hb;obtain ⟨hc2,hf2⟩:=bcells hB2)
  | (go_at_call 121;refine (number_any p ⟨ma,mc,mb,md⟩ _ ⟨HU.out,HN.out⟩).mono ?_;rintro e w3 ⟨rfl,hb⟩;have hB3:=Below.trans hB2 (Below.mono hb (Below.size hB2));clear hb;obtain ⟨hc3,hf3⟩:=bcells hB3)
  | (go_at_call 122;refine (room_any _ _ HU.out).mono ?_;rintro e w4 ⟨rfl,hb⟩;have hB4:=Below.trans hB3 (Below.mono hb (Below.size hB3));clear hb;obtain ⟨hc4,hf4⟩:=bcells hB4))
 all_goals go_ret
 all_goals refine ⟨ret_int ?_,Below.z⟩
 all_goals rw [←HF.out]
 all_goals unfold nodeP nodePrest
 all_goals (first|rfl|omega|((try simp only [beq_iff_eq,beq_eq_false_iff_ne,bne_iff_ne,bne_eq_false_iff_eq,decide_eq_true_eq,decide_eq_false_iff_not,ne_eq,Bool.and_eq_true,Bool.or_eq_true,Bool.and_eq_false_iff,Bool.or_eq_false_iff,Bool.not_eq_true',Bool.not_eq_false'] at *);(repeat' split)<;>first|rfl|omega|contradiction|(simp_all;done)|(simp_all;omega)))
mutual
def chkP (place deep:Int):GP→Int×Int
 | ⟨k,v,n,l⟩=>if 12 < deep then (place,9) else if nodeP ⟨k,v,n,l⟩≠0 then (place,nodeP ⟨k,v,n,l⟩) else chkPs (place+1) (deep+1) l
def chkPs (place deep:Int):List GP→Int×Int
 | []=>(place,0)
 | x::l=>if (chkP place deep x).2≠0 then chkP place deep x else chkPs (chkP place deep x).1 deep l
end
theorem chkP_eq (place deep:Int) (p:GP):chkP place deep p=if 12 < deep then (place,9) else if nodeP p≠0 then (place,nodeP p) else chkPs (place+1) (deep+1) p.a:=by cases p;simp only [chkP]
theorem chkPs_append (d:Int):∀(a b:List GP) (pl:Int),chkPs pl d (a++b)=if (chkPs pl d a).2≠0 then chkPs pl d a else chkPs (chkPs pl d a).1 d b
 | [],b,pl=>by simp [chkPs]
 | x::a,b,pl=>by
  simp only [List.cons_append,chkPs]
  split
  ·rename_i h;simp [h]
  ·rename_i h;exact chkPs_append d a b _
mutual
theorem chkP_place:∀(p:GP) (pl d:Int),pl≤(chkP pl d p).1∧(chkP pl d p).1≤pl+sizeP p
 | ⟨k,v,n,l⟩,pl,d=>by
  have:=chkPs_place l (pl+1) (d+1)
  simp only [chkP,sizeP]
  split
  ·simp;omega
  ·split
   ·simp;omega
   ·omega
theorem chkPs_place:∀(l:List GP) (pl d:Int),pl≤(chkPs pl d l).1∧(chkPs pl d l).1≤pl+sizePs l
 | [],pl,d=>by simp [chkPs,sizePs]
 | x::l,pl,d=>by
  have h1:=chkP_place x pl d
  have h2:=chkPs_place l (chkP pl d x).1 d
  simp only [chkPs,sizePs]
  split<;>omega
end
theorem chkPs_take (pl d:Int) (l:List GP) (j:Nat) (h:j < l.length) (h0:(chkPs pl d (l.take j)).2=0):chkPs pl d (l.take (j+1))=chkP (chkPs pl d (l.take j)).1 d l[j]:=by
 rw [List.take_succ_eq_append_getElem h,chkPs_append,if_neg (by simp [h0])]
 simp only [chkPs]
 split
 ·rfl
 ·rename_i h;ext<;>simp_all
theorem chkPs_stop (pl d:Int) (l:List GP) (j:Nat) (h0:(chkPs pl d (l.take j)).2≠0):chkPs pl d l=chkPs pl d (l.take j):=by
 conv=>lhs;rw [←List.take_append_drop j l]
 rw [chkPs_append,if_pos h0]
theorem sizePs_take:∀(l:List GP) (j:Nat),sizePs (l.take j)≤sizePs l
 | [],j=>by simp
 | x::l,0=>by simp [sizePs]
 | x::l,j+1=>by have:=sizePs_take l j;simp only [List.take_succ_cons,sizePs];omega
theorem sizePs_take_succ:∀(l:List GP) (j:Nat) (h:j < l.length),sizePs (l.take (j+1))=sizePs (l.take j)+sizeP l[j]
 | x::l,0,_=>by simp [sizePs]
 | x::l,j+1,h=>by have:=sizePs_take_succ l j (by simpa using h);simp only [List.take_succ_cons,sizePs,List.getElem_cons_succ] at this ⊢;omega
set_option maxRecDepth 100000 in
set_option maxHeartbeats 1000000 in
theorem check_any (N:Nat):∀(p:GP) (w:World) (A:Nat→Prop) (m:PA) (pl d:Int),sizeP p≤N→okP p→0≤pl→pl+sizeP p≤1099511627776→0≤d→d≤13→RP w A p m →
  Calls Tryz.prog 56 #[PV p m,.int .i64 pl,.int .i64 d] w fun e w'=>e=.returned (.tuple #[.int .i64 (chkP pl d p).1,.int .i64 (chkP pl d p).2])∧Below w.heap.size w w':=by
 induction N with
 | zero=>intro p;have:=sizeP_pos p;intros;omega
 | succ N ih=>
  rintro p w A ⟨ma,mc,mb,md⟩ pl d hN ox hp0 hp1 hd0 hd1 hl
  have IH:=hid ih
  have HL:=hid (RP_iff.1 hl).2
  have HP:=hid hl
  have OX:=hid ox
  obtain ⟨⟨x1,x2⟩,ov,⟨x3,x4⟩,x5,oa⟩:=okP_iff.1 ox
  have O:=hid oa
  have hse:=sizeP_eq p
  have hsv:=sizeV_pos p.v
  clear ih hl ox oa ov
  rw [chkP_eq]
  by_cases hd:12 < d
  ·rw [if_pos hd]
   go_enter Tryz.func56,Tryz.ntmps56
   go_wp2_with fail
   go_ret2
   exact ⟨rfl,Below.z⟩
  rw [if_neg hd]
  have hsz:sizeP p≤1099511627776:=by omega
  by_cases hn:nodeP p=0
  case neg=>
   rw [if_pos hn]
   have hn':(nodeP p != 0)=true:=by simp [hn]
   clear hn
   go_enter Tryz.func56,Tryz.ntmps56
   go_wp2_with (go_at_call 82;refine (node_any p A ⟨ma,mc,mb,md⟩ _ OX.out hsz (by exact RP.ext (Agree.below Below.z) _ _ HP.out)).mono ?_;rintro e w1 ⟨rfl,hb⟩;have hB1:=hb;clear hb;obtain ⟨hc1,hf1⟩:=bcells hB1)
   go_ret2
   exact ⟨rfl,Below.z⟩
  rw [if_neg (by simp [hn])]
  have HN:=hid hn
  have hn':(nodeP p != 0)=false:=by simp [hn]
  clear hn
  generalize hF:chkPs (pl+1) (d+1) p.a=F
  have HF:=hid hF
  clear hF
  go_enter Tryz.func56,Tryz.ntmps56
  go_wp2_with (go_at_call 82;refine (node_any p A ⟨ma,mc,mb,md⟩ _ OX.out hsz (by exact RP.ext (Agree.below Below.z) _ _ HP.out)).mono ?_;rintro e w1 ⟨rfl,hb⟩;have hB1:=hb;clear hb;obtain ⟨hc1,hf1⟩:=bcells hB1)
  go_loopg [1,8,25] (p.a.length) (fun gk t1 t8 i wr=>∃j:Nat,gk+j=p.a.length∧i=.int .i64 j∧t1=.int .i64 (chkPs (pl+1) (d+1) (p.a.take j)).1∧t8=.int .i64 0∧Hid ((chkPs (pl+1) (d+1) (p.a.take j)).2=0)∧Below w.heap.size w wr∧w.heap.size < wr.heap.size)
  case atStart=>exact ⟨0,by omega,rfl,by simp [chkPs],by rw [HN.out],by simp [chkPs,Hid],Below.z,by have:=hB1.size;simp at this;omega⟩
  case round=>
   obtain ⟨j,hj,rfl,rfl,rfl,HZ,hb,hz⟩:=hrel
   by_cases hlt:j < p.a.length
   ·obtain ⟨b,o,mj,rfl,hA,hbs,g0,gx⟩:=HL.out.get j hlt
    obtain ⟨k0,k1,k2,k3,k4,k5⟩:=At6.1 (g0.ext (Agree.below hb) (A:=fun _=>True) trivial)
    have hs1:b < wr.heap.size:=by omega
    have hq:=chkPs_place (p.a.take j) (pl+1) (d+1)
    have hq1:=sizePs_take p.a j
    have hq2:=sizePs_take_succ p.a j hlt
    have hq3:=sizePs_take p.a (j+1)
    have hst:=chkPs_take (pl+1) (d+1) p.a j hlt HZ.out
    have HST:=hid hst
    clear hst g0
    generalize hQ:(chkPs (pl+1) (d+1) (p.a.take j)).1=Q at *
    have HQ:=hid hQ
    clear hQ
    go_wp2_with (go_at_call 56;refine (IH.out p.a[j] _ A mj Q (d+1) (by omega) (O.out.get j hlt) (by omega) (by omega) (by omega) (by omega) (by exact RP.ext (Agree.below Below.z) _ _ gx)).mono ?_;rintro e w2 ⟨rfl,hb2⟩)
    all_goals have hbb:Below w.heap.size w w2:=(hb.alloc (by omega) _).trans (hb2.mono (by simp;omega))
    ·have hne:(chkP Q (d+1) p.a[j]).2≠0:=by simpa using ‹((chkP Q (d+1) p.a[j]).2 != 0)=true›
     go_ret2
     have h1:chkP Q (d+1) p.a[j]=F:=by
      rw [←HF.out,←HST.out];exact (chkPs_stop _ _ _ _ (by rw [HST.out];exact hne)).symm
     exact ⟨ret_ii (congrArg Prod.fst h1) (congrArg Prod.snd h1),hbb⟩
    ·have hne:(chkP Q (d+1) p.a[j]).2=0:=by simpa using ‹((chkP Q (d+1) p.a[j]).2 != 0)=false›
     go_roundg (gk - 1)
     case measure=>omega
     case rel=>exact ⟨j+1,by omega,by go_num,by rw [HST.out],by rw [hne],by rw [HST.out];exact hne,hbb,by have:=hb2.size;simp at this;omega⟩
   ·have hjl:j=p.a.length:=by omega
    go_wp2_with fail
    go_ret2
    have h1:chkPs (pl+1) (d+1) (p.a.take j)=F:=by rw [hjl,List.take_length];exact HF.out
    exact ⟨ret_ii (by rw [h1]) (by rw [←h1,HZ.out]),hb⟩
mutual
def nodesP:GP→Nat
 | ⟨k,v,_,l⟩=>1+(if hasValueB k=true then sizeV v else 0)+nodesPs l
def nodesPs:List GP→Nat
 | []=>0
 | x::l=>nodesP x+nodesPs l
end
theorem nodesP_eq (p:GP):nodesP p=1+(if hasValueB p.k=true then sizeV p.v else 0)+nodesPs p.a:=by cases p;simp only [nodesP]
mutual
theorem nodesP_le:∀(p:GP),nodesP p≤sizeP p
 | ⟨k,v,n,l⟩=>by have:=nodesPs_le l;simp only [nodesP,sizeP];split<;>omega
theorem nodesPs_le:∀(l:List GP),nodesPs l≤sizePs l
 | []=>by simp [nodesPs]
 | x::l=>by have:=nodesP_le x;have:=nodesPs_le l;simp only [nodesPs,sizePs];omega
end
theorem nodesPs_take_succ:∀(l:List GP) (j:Nat) (h:j < l.length),nodesPs (l.take (j+1))=nodesPs (l.take j)+nodesP l[j]
 | x::l,0,_=>by simp [nodesPs]
 | x::l,j+1,h=>by have:=nodesPs_take_succ l j (by simpa using h);simp only [List.take_succ_cons,nodesPs,List.getElem_cons_succ] at this ⊢;omega
theorem nodesPs_take_le (l:List GP) (j:Nat):nodesPs (l.take j)≤sizePs l:=Nat.le_trans (nodesPs_le _) (sizePs_take l j)
set_option maxRecDepth 100000 in
set_option maxHeartbeats 1000000 in
theorem nodes_any (N:Nat):∀(p:GP) (w:World) (A:Nat→Prop) (m:PA),sizeP p≤N→okP p→sizeP p≤1099511627776→RP w A p m →
  Calls Tryz.prog 57 #[PV p m] w fun e w'=>e=.returned (.int .i64 (nodesP p))∧Below w.heap.size w w':=by
 induction N with
 | zero=>intro p;have:=sizeP_pos p;intros;omega
 | succ N ih=>
  rintro p w A ⟨ma,mc,mb,md⟩ hN ox hs hl
  have IH:=hid ih
  have HL:=hid (RP_iff.1 hl).2
  have HLV:=hid (RV_iff.1 (RP_iff.1 hl).1)
  obtain ⟨⟨x1,x2⟩,ov,⟨x3,x4⟩,x5,oa⟩:=okP_iff.1 ox
  have O:=hid oa
  have OV:=hid ov
  have HU:=hid (show isU8 p.k from ⟨x1,x2⟩)
  have hse:=sizeP_eq p
  have hsv:sizeV p.v≤1099511627776:=by omega
  clear ih hl ox oa ov
  rw [nodesP_eq]
  generalize hG:(if hasValueB p.k=true then sizeV p.v else 0)=G
  have hGl:G≤sizeV p.v:=by rw [←hG];split<;>omega
  have hpos:=sizeV_pos p.v
  cases hv:hasValueB p.k
  all_goals rw [hv] at hG
  all_goals simp only [if_true,if_false,Bool.false_eq_true,reduceIte] at hG
  all_goals subst hG
  all_goals have HVV:=hid hv
  all_goals clear hv
  all_goals go_enter Tryz.func57,Tryz.ntmps57
  all_goals go_wp2_with (first
   | (go_at_call 83;refine (hasValue_any _ _ HU.out).mono ?_;rw [HVV.out];rintro e w1 ⟨rfl,hb⟩;have hB1:=hb;clear hb;obtain ⟨hc1,hf1⟩:=bcells hB1)
   | (go_at_call 84;refine (size_any p.v A ⟨ma,mc⟩ _ OV.out hsv (by exact RVs.ext (Agree.below Below.z) _ _ HLV.out)).mono ?_;rintro e w2 ⟨rfl,hb⟩;have hB2:=Below.trans hB1 (Below.mono hb (Below.size hB1));clear hb;obtain ⟨hc2,hf2⟩:=bcells hB2))
  ·go_loopg [3,17] (p.a.length) (fun gk t3 i wr=>∃j:Nat,gk+j=p.a.length∧i=.int .i64 j∧t3=.int .i64 ((1+0+nodesPs (p.a.take j):Nat):Int)∧Below w.heap.size w wr∧w.heap.size < wr.heap.size)
   case atStart=>exact ⟨0,by omega,rfl,by simp [nodesPs],Below.z,by have:=hB1.size;simp at this;omega⟩
   case round=>
    obtain ⟨j,hj,rfl,rfl,hb,hz⟩:=hrel
    by_cases hlt:j < p.a.length
    ·obtain ⟨b,o,mj,rfl,hA,hbs,g0,gx⟩:=HL.out.get j hlt
     obtain ⟨k0,k1,k2,k3,k4,k5⟩:=At6.1 (g0.ext (Agree.below hb) (A:=fun _=>True) trivial)
     have hs1:b < wr.heap.size:=by omega
     have hq1:=sizePs_get p.a j hlt
     have hq2:=nodesPs_take_succ p.a j hlt
     have hq3:=nodesPs_take_le p.a j
     have hq4:=nodesP_le p.a[j]
     have HQ:=hid hq2
     clear hq2 g0
     go_wp2_with (go_at_call 57;refine (IH.out p.a[j] _ A mj (by omega) (O.out.get j hlt) (by omega) (by exact RP.ext (Agree.below Below.z) _ _ gx)).mono ?_;rintro e w2 ⟨rfl,hb2⟩)
     have hbb:Below w.heap.size w w2:=(hb.alloc (by omega) _).trans (hb2.mono (by simp;omega))
     go_roundg (gk - 1)
     case measure=>omega
     case rel=>exact ⟨j+1,by omega,by go_num,by rw [HQ.out];go_num,hbb,by have:=hb2.size;simp at this;omega⟩
    ·have hjl:j=p.a.length:=by omega
     go_wp2_with fail
     go_ret
     exact ⟨ret_int (by rw [hjl,List.take_length]),hb⟩
  ·go_loopg [3,17] (p.a.length) (fun gk t3 i wr=>∃j:Nat,gk+j=p.a.length∧i=.int .i64 j∧t3=.int .i64 ((1+sizeV p.v+nodesPs (p.a.take j):Nat):Int)∧Below w.heap.size w wr∧w.heap.size < wr.heap.size)
   case atStart=>exact ⟨0,by omega,rfl,by simp [nodesPs],Below.z,by have:=hB2.size;simp at this;omega⟩
   case round=>
    obtain ⟨j,hj,rfl,rfl,hb,hz⟩:=hrel
    by_cases hlt:j < p.a.length
    ·obtain ⟨b,o,mj,rfl,hA,hbs,g0,gx⟩:=HL.out.get j hlt
     obtain ⟨k0,k1,k2,k3,k4,k5⟩:=At6.1 (g0.ext (Agree.below hb) (A:=fun _=>True) trivial)
     have hs1:b < wr.heap.size:=by omega
     have hq1:=sizePs_get p.a j hlt
     have hq2:=nodesPs_take_succ p.a j hlt
     have hq3:=nodesPs_take_le p.a j
     have hq4:=nodesP_le p.a[j]
     have HQ:=hid hq2
     clear hq2 g0
     go_wp2_with (go_at_call 57;refine (IH.out p.a[j] _ A mj (by omega) (O.out.get j hlt) (by omega) (by exact RP.ext (Agree.below Below.z) _ _ gx)).mono ?_;rintro e w2 ⟨rfl,hb2⟩)
     have hbb:Below w.heap.size w w2:=(hb.alloc (by omega) _).trans (hb2.mono (by simp;omega))
     go_roundg (gk - 1)
     case measure=>omega
     case rel=>exact ⟨j+1,by omega,by go_num,by rw [HQ.out];go_num,hbb,by have:=hb2.size;simp at this;omega⟩
    ·have hjl:j=p.a.length:=by omega
     go_wp2_with fail
     go_ret
     exact ⟨ret_int (by rw [hjl,List.take_length]),hb⟩
end Go.Proofs.YtclphfojkggcpaaGreat
