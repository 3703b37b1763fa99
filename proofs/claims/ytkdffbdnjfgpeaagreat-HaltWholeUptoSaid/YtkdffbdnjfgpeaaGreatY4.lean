/- Part 5. -/
import Derived.LoopIn
import Derived.LoopNIn
import Derived.OwnWalkIn
import Derived.RangeFuncBound
import Derived.RangeFuncBox
import Derived.RangeFuncCalls
import Derived.RangeFuncLeaves
import Derived.RangeFuncNested
import Derived.Shelf.Abstract
import Derived.Shelf.RegionOpen
import Derived.Sort.LoopGhostIn
import Derived.TacticsInMore
import Derived.Test.YtkdffbdnjfgpeaaGreatY3
set_option linter.all false
namespace Go.Proofs.YtkdffbdnjfgpeaaGreat
open Go.Lib (hid)
open Go Go.RowKit Go.Proofs.Tryz
section
open Go Go.RowKit Go.Shelf
attribute [local go_sem] Oper.semAt_some
theorem Jz {P:Program} {a:Addr} {f:Fn} {x y:Array Value} {w:World} {v:Value} (h:w.cell? a=some v) (hf:w.frozen? a=false):(store a (.func f x y)).run P w=.ok () (w.setCell a (.func f x y)):=by
 simp [store,Sem.run,h,hf]
attribute [local go_sem] Jz

theorem Zdx {F:Fence} (hd:F.depth=none) (k:Nat):F.room k:=fun d h=>by rw [hd] at h;cases h
theorem Zex {F:Fence} (hd:F.depth=none) {m m':Nat} {P:Program} {l:Nat} {f:FuncId} {tmps:Array Value} {assign body:Code} {w:World} {R:Ending→World→Prop}
  (h:RoundIn F m P l f tmps assign body w R):RoundIn F m' P l f tmps assign body w R:=⟨h.1,fun c cs _=>h.2 c cs (Zdx hd _)⟩
theorem ZaE {F:Fence} (hd:F.depth=none) {m:Nat} (m':Nat) {P:Program} {l:Nat} {args:Array Value} {W:World} {R:Ending→World→Prop} (h:YieldAt F m P l args W R):YieldAt F m' P l args W R:=by
 obtain ⟨fn,tmps,assign,body,hy,hR⟩:=h
 exact ⟨fn,tmps,assign,body,hy,Zex hd hR⟩

structure KC (S:Nat→Prop) (W W':World):Prop where
 size:W.heap.size≤W'.heap.size
 same:∀k c t f,W.heap[k]? =some (.cells c t f)→¬S k→W'.heap[k]? =some (.cells c t f)
theorem KC.refl (S:Nat→Prop) (W:World):KC S W W:=⟨Nat.le_refl _,fun _ _ _ _ h _=>h⟩
theorem KC.trans {S:Nat→Prop} {A B C:World} (h:KC S A B) (k:KC S B C):KC S A C:=⟨Nat.le_trans h.size k.size,fun n c t f h1 h2=>k.same n c t f (h.same n c t f h1 h2) h2⟩
theorem KC.alloc {S:Nat→Prop} {A B:World} (h:KC S A B) (o:Obj):KC S A (B.alloc o):=
 ⟨by have:=h.size;simp;omega,fun n c t f h1 h2=>by have h3:=h.same n c t f h1 h2;rw [Below.heap_alloc _ _ _ (Array.getElem?_eq_some_iff.1 h3).1];exact h3⟩
theorem KC.putObj {S:Nat→Prop} {A:World} (l:Nat) (o o':Obj) (h:A.heap[l]? =some o) (ho:o.isCells=false):KC S A (A.putObj l o'):=
 ⟨by have:=(World.grownBy.size (grownBy_putObj' A l o'));omega,fun n c t f h1 _=>by
  by_cases e:n=l
  ·subst e;rw [h] at h1;cases h1;cases ho
  rw [World.putObj_heap_other (by first|exact e|exact fun x=>e x.symm)];exact h1⟩
theorem KC.drew {S:Nat→Prop} {A B:World} (h:KC S A B):KC S A B.drew:=⟨h.size,h.same⟩
theorem KC.below {S:Nat→Prop} {A B C:World} (h:KC S A B) (k:Below B.heap.size B C):KC S A C:=
 ⟨Nat.le_trans h.size k.size,fun n c t f h1 h2=>by have h3:=h.same n c t f h1 h2;rw [k.block _ (Array.getElem?_eq_some_iff.1 h3).1];exact h3⟩
theorem KC.setCell {S:Nat→Prop} {A B:World} (h:KC S A B) (a:Addr) (v:Value) (ha:S a.block):KC S A (B.setCell a v):=
 ⟨by simpa using h.size,fun n c t f h1 h2=>by rw [Below.heap_setCell _ _ _ n (fun e=>h2 (by rw [e];exact ha))];exact h.same n c t f h1 h2⟩
theorem KC.cell {S:Nat→Prop} {A B:World} (h:KC S A B) {p:Addr} {v:Value} (hS:¬S p.block) (hc:A.cell? p=some v):B.cell? p=some v:=by
 unfold World.cell? at hc ⊢
 cases ho:A.heap[p.block]? with
 | none=>rw [ho] at hc;cases hc
 | some o=>
  cases o with
  | cells c t f=>rw [ho] at hc;rw [h.same _ c t f ho hS];exact hc
  | _=>rw [ho] at hc;cases hc
theorem KC.frozen {S:Nat→Prop} {A B:World} (h:KC S A B) {p:Addr} {v:Value} (hS:¬S p.block) (hc:A.cell? p=some v):B.frozen? p=A.frozen? p:=by
 unfold World.cell? at hc
 cases ho:A.heap[p.block]? with
 | none=>rw [ho] at hc;cases hc
 | some o=>
  cases o with
  | cells c t f=>exact World.frozen?_of_block ((h.same _ c t f ho hS).trans ho.symm)
  | _=>rw [ho] at hc;cases hc
theorem KC.agree {S A:Nat→Prop} {W W':World} (h:KC S W W') (hA:∀b,A b→¬S b):Agree A W W':=fun _ _ ha hc=>⟨h.cell (hA _ ha) hc,h.frozen (hA _ ha) hc⟩

structure Vis where
 d:Nat
 x:GV
 m:VA
 ok:okV x
 hd:d≤4611686018427387904
def Vis.p (v:Vis):Nat×GV:=(v.d,v.x)
def Kt (v:Vis):Array Value:=#[.int .i64 v.d,VV v.x v.m]
mutual
def V8 (d:Nat):GV→List (Nat×GV)
 | ⟨k,n,l⟩=>(d,⟨k,n,l⟩)::XE (d+1) l
def XE (d:Nat):List GV→List (Nat×GV)
 | []=>[]
 | x::l=>V8 d x++XE d l
end
theorem Zdk (d:Nat) (x:GV):V8 d x=(d,x)::XE (d+1) x.l:=by cases x;simp only [V8]
mutual
theorem Ui:∀(x:GV) (d:Nat),(V8 d x).length=Zg x
 | ⟨k,n,l⟩,d=>by simp only [V8,Zg,List.length_cons,Vv l (d+1)];omega
theorem Vv:∀(l:List GV) (d:Nat),(XE d l).length=Zi l
 | [],d=>by simp [XE,Zi]
 | x::l,d=>by simp only [XE,Zi,List.length_append,Ui x d,Vv l d]
end
theorem U0 (d:Nat):∀(l:List GV) (j:Nat) (h:j < l.length),XE d (l.take (j+1))=XE d (l.take j)++V8 d l[j]
 | x::l,0,_=>by simp [XE]
 | x::l,j+1,h=>by
  have:=U0 d l j (by simpa using h)
  simp only [List.take_succ_cons,XE,List.getElem_cons_succ,List.append_assoc] at this ⊢
  rw [this]
theorem Zec (d:Nat) (l:List GV) (j:Nat):XE d l=XE d (l.take j)++XE d (l.drop j):=by
 induction l generalizing j with
 | nil=>simp [XE]
 | cons x l ih=>cases j with
  | zero=>simp [XE]
  | succ j=>simp only [List.take_succ_cons,List.drop_succ_cons,XE,List.append_assoc];rw [ih j]
theorem Un:∀(l:List GV) (j:Nat),Zi (l.take j)≤Zi l
 | [],j=>sm
 | x::l,0=>by simp [Zi]
 | x::l,j+1=>by have:=Un l j;simp only [List.take_succ_cons,Zi];omega

def Zlp (S:Nat→Prop) (J Jx:List Vis→World→Prop) (pre:List Vis) (d:Nat) (x:GV) (W:World):Ending→World→Prop:=fun e W'=>
 (e=.returned (.bool true)∧(∃vs,vs.map Vis.p=V8 d x∧J (pre++vs) W')∧KC S W W')∨(e=.returned (.bool false)∧∃vs,vs.map Vis.p <+: V8 d x∧Jx (pre++vs) W')
set_option maxRecDepth 100000
set_option maxHeartbeats 2000000
theorem ZiM (l:Nat) (S:Nat→Prop) (N B0:Nat) (J Jx:List Vis→World→Prop) (hJ:AbidesFrom B0 J)
  (hY:∀m pre (v:Vis) W,J pre W→pre.length < N→YieldAt Fence.wide m prog l (Kt v) W fun e W'=>
   (e=.returned (.bool true)∧J (pre++[v]) W'∧KC S W W')∨(e=.returned (.bool false)∧Jx (pre++[v]) W'))
  (By Bv:Nat) (hBy:¬S By) (hBv:¬S Bv) (k:Nat):
  ∀(x:GV),Zg x≤k→∀(n d:Nat) (ma:Option Addr) (mc:Nat) (pre:List Vis) (W:World),okV x→(d+k≤4611686018427387904)→(∀b,W.heap.size≤b→¬S b)→RVs W (fun b=>¬S b) x.l ma →
   W.heap[By]? =some (.cells #[.func (.yield l) #[] #[]] 153 (0,0))→W.heap[Bv]? =some (.cells #[.func (.func 97) #[] #[.pointer (some ⟨By,0,none⟩),.pointer (some ⟨Bv,0,none⟩)]] 153 (0,0)) →
   J pre W→pre.length+Zg x≤N →
   CallsIn Fence.wide n prog 97 #[.int .i64 d,VV x ⟨ma,mc⟩,.pointer (some ⟨By,0,none⟩),.pointer (some ⟨Bv,0,none⟩)] W (Zlp S J Jx pre d x W):=by
 induction k with
 | zero=>intro x h;have:=Zr x;omega
 | succ k ih=>
  intro x hk n d ma mc pre W ox hdk hS hl hy hv hj hN
  have IH:=hid ih
  clear ih
  have hdd:∀k:Nat,(Fence.wide.depth.isSome=true→1≤k):=fun k h=>by cases h
  obtain ⟨⟨x1,x2⟩,⟨x3,x4⟩,x5,ox'⟩:=ZA.1 ox
  have HL:=hid hl
  have O:=hid ox'
  have HS:=hid hS
  clear hl ox' hS
  have OX:=hid ox
  clear ox
  -- the round at this value, in the world behind its box
  have hj1:J pre (W.alloc (.cells #[.int .u8 x.k,.int .i64 x.n,.slice ma x.l.length mc] 24)):=hJ pre W _ none hj (World.grownBy_alloc W _ none) (fun r e=>by cases e)
  obtain ⟨fn,tmps,assign,body,hyy,hR⟩:=hY (n - 1) pre ⟨d,x,⟨ma,mc⟩,OX.out,om⟩ _ hj1 (by have:=Zr x;omega)
  dsimp only [Kt] at hyy
  clear hj1
  have cy:=(show W.cell? ⟨By,0,none⟩=some (.func (.yield l) #[] #[]) by simp [World.cell?,hy])
  have cv:=(show W.cell? ⟨Bv,0,none⟩=some (.func (.func 97) #[] #[.pointer (some ⟨By,0,none⟩),.pointer (some ⟨Bv,0,none⟩)]) by simp [World.cell?,hv])
  have ly:By < W.heap.size:=(Array.getElem?_eq_some_iff.1 hy).1
  have lv:Bv < W.heap.size:=(Array.getElem?_eq_some_iff.1 hv).1
  have HY:=hid hy
  have HV:=hid hv
  clear hy hv
  have hR2:=RoundIn.mono hR (R':=fun e W2=>(e=.returned (.bool true)∧Hid (J (pre++[⟨d,x,⟨ma,mc⟩,OX.out,om⟩]) W2)∧KC S W W2∧W2.cell? ⟨W.heap.size,2,none⟩=some (.slice ma x.l.length mc))∨(e=.returned (.bool false)∧Hid (Jx (pre++[⟨d,x,⟨ma,mc⟩,OX.out,om⟩]) W2)))
   (fun e W2 h=>h.elim (fun ⟨he,hj,hk⟩=>.inl ⟨he,hid hj,((KC.refl S W).alloc _).trans hk,hk.cell (p:=⟨W.heap.size,2,none⟩) (HS.out _ (Nat.le_refl _)) gs⟩) (fun ⟨he,hj⟩=>.inr ⟨he,hid hj⟩))
  clear hR
  refine callsIn_of_wp func97 rfl trivial ?_ rfl
  simp only [ntmps97,List.size_toArray,List.length_cons,List.length_nil,Nat.reduceAdd,Nat.reduceSub,Array.replicate_succ,Array.replicate_zero,List.push_toArray,List.append_toArray,List.nil_append,List.cons_append]
  gi_wp2_with ((try refine ⟨hdd _,?_⟩);refine hR2.mono ?_;clear hR2;rintro e W2 (⟨rfl,hJ2,hk2,hc2⟩|⟨rfl,hx2⟩))
  ·gi_loopg [17] (x.l.length) (fun gk i wr=>∃j:Nat,gk+j=x.l.length∧i=.int .i64 j∧KC S W wr∧Hid (∃vs,vs.map Vis.p=(d,x)::XE (d+1) (x.l.take j)∧J (pre++vs) wr))
   case atStart=>exact ⟨0,om,rfl,hk2,⟨_,by simp [Vis.p,XE],hJ2.out⟩⟩
   case round=>
    obtain ⟨j,hj,rfl,hk,HJ⟩:=hrel
    by_cases hlt:j < x.l.length
    ·obtain ⟨b,o,mj,rfl,hA,hbs,g0,gx⟩:=HL.out.get j hlt
     obtain ⟨k0,k1,k2⟩:=At3.1 (g0.ext (hk.agree (A:=fun b=>¬S b) (fun _ h=>h)) hA)
     have cy':=hk.cell (p:=⟨By,0,none⟩) hBy cy
     have cv':=hk.cell (p:=⟨Bv,0,none⟩) hBv cv
     have ks:=hk.size
     have ly':By < wr.heap.size:=om
     have lv':Bv < wr.heap.size:=om
     clear g0 cy cv ly lv
     obtain ⟨vs,hvs,hjv⟩:=HJ.out
     have hvl:vs.length=1+Zi (x.l.take j):=by
      have:=congrArg List.length hvs
      simp only [List.length_map,List.length_cons,Vv] at this
      omega
     have hsz:Zi (x.l.take j)+Zg x.l[j]≤Zi x.l:=by
      have h1:=congrArg List.length (U0 0 x.l j hlt)
      simp only [List.length_append,Vv,Ui] at h1
      have:=Un x.l (j+1)
      omega
     have hsx:=XZ x
     have C:∀W3,KC S W W3→J (pre++vs) W3→CallsIn Fence.wide (n - 1) prog 97 #[.int .i64 (d+1),.agg #[.int .u8 x.l[j].k,.int .i64 x.l[j].n,.slice mj.a x.l[j].l.length mj.c],.pointer (some ⟨By,0,none⟩),.pointer (some ⟨Bv,0,none⟩)] W3 fun e W'=>
       (e=.returned (.bool true)∧Hid (∃vs',vs'.map Vis.p=V8 (d+1) x.l[j]∧J (pre++vs++vs') W')∧KC S W W')∨(e=.returned (.bool false)∧Hid (∃vs',vs'.map Vis.p <+: V8 (d+1) x.l[j]∧Jx (pre++vs++vs') W')):=fun W3 hk3 hj3=>by
      have:=IH.out x.l[j] om (n - 1) (d+1) mj.a mj.c (pre++vs) W3 (O.out.get j hlt) om (fun b hb=>HS.out b (by have:=hk3.size;omega)) (Zl.1 (Zt5 (hk3.agree fun _ h=>h) _ _ gx)) (hk3.same _ _ _ _ HY.out hBy) (hk3.same _ _ _ _ HV.out hBv) hj3
       (by simp only [List.length_append];omega)
      rw [show ((d+1:Nat):Int)=(d:Int)+1 by omega] at this
      exact this.mono fun e W' h=>h.elim (fun ⟨he,h1,h2⟩=>.inl ⟨he,hid h1,hk3.trans h2⟩) (fun ⟨he,h1⟩=>.inr ⟨he,hid h1⟩)
     have hja:J (pre++vs) (wr.alloc (.cells #[.int .u8 x.l[j].k,.int .i64 x.l[j].n,.slice mj.a x.l[j].l.length mj.c] 24)):=hJ _ wr _ none hjv (World.grownBy_alloc wr _ none) (fun r e=>by cases e)
     have HC:=hid C
     have HVS:=hid hvs
     have HJA:=hid hja
     clear C hvs hja hjv HJ gx hvl hsz hsx
     gi_wp2_with (refine ⟨trivial,hdd _,?_⟩;gi_at_call 97;refine (HC.out _ (hk.alloc _) HJA.out).mono ?_;clear HC HJA;rintro e W4 (⟨rfl,hJ4,hk4⟩|⟨rfl,hx4⟩))
     ·go_roundg (gk - 1)
      case measure=>omega
      case rel=>
       obtain ⟨vs',hvs',hj'⟩:=hJ4.out
       exact ⟨j+1,om,by go_num,hk4,⟨vs++vs',by rw [List.map_append,HVS.out,hvs',U0 _ _ _ hlt];simp,by rw [←List.append_assoc];exact hj'⟩⟩
     go_ret
     obtain ⟨vs',hvs',hj'⟩:=hx4.out
     refine .inr ⟨rfl,vs++vs',?_,by rw [←List.append_assoc];exact hj'⟩
     rw [List.map_append,HVS.out,Zdk,Zec (d+1) x.l (j+1),U0 _ _ _ hlt]
     simp only [List.cons_append,List.append_assoc]
     exact List.cons_prefix_cons.2 ⟨rfl,(List.prefix_append_right_inj _).2 (hvs'.trans (List.prefix_append _ _))⟩
    have hjl:j=x.l.length:=om
    gi_wp2
    go_ret
    obtain ⟨vs,hvs,hjv⟩:=HJ.out
    exact .inl ⟨rfl,⟨vs,by rw [hvs,hjl,List.take_length,Zdk],hjv⟩,hk⟩
  go_ret
  exact .inr ⟨rfl,_,by rw [Zdk];simp only [List.map_cons,List.map_nil,Vis.p];exact List.cons_prefix_cons.2 ⟨rfl,List.nil_prefix⟩,hx2.out⟩

set_option maxRecDepth 512
def Zlj (J Jx:List Vis→World→Prop) (x:GV):Ending→World→Prop:=fun e W'=>
 (∃v,e=.returned v)∧((∃vs,vs.map Vis.p=V8 1 x∧J vs W')∨(∃vs,vs.map Vis.p <+: V8 1 x∧Jx vs W'))
set_option maxRecDepth 100000
theorem ZiY (n l:Nat) (S:Nat→Prop) (J Jx:List Vis→World→Prop) (x:GV) (W:World) (hJ:AbidesFrom W.heap.size J)
  (hY:∀m pre (v:Vis) W,J pre W→pre.length < Zg x→YieldAt Fence.wide m prog l (Kt v) W fun e W'=>
   (e=.returned (.bool true)∧J (pre++[v]) W'∧KC S W W')∨(e=.returned (.bool false)∧Jx (pre++[v]) W'))
  (Bt:Nat) (ma:Option Addr) (mc:Nat) (ox:okV x) (hsz:Zg x≤1099511627776) (hS:∀b,W.heap.size≤b→¬S b) (hl:RVs W (fun b=>¬S b) x.l ma)
  (c0:W.cell? ⟨Bt,0,none⟩=some (.int .u8 x.k)) (c1:W.cell? ⟨Bt,1,none⟩=some (.int .i64 x.n)) (c2:W.cell? ⟨Bt,2,none⟩=some (.slice ma x.l.length mc)) (h0:J [] W):
  CallsIn Fence.wide n prog 96 #[.func (.yield l) #[] #[],.pointer (some ⟨Bt,0,none⟩)] W (Zlj J Jx x):=by
 have hdd:∀k:Nat,(Fence.wide.depth.isSome=true→1≤k):=fun k h=>by cases h
 have hBt:=World.block_lt_of_cell? _ _ c0
 obtain ⟨W1,hW1⟩:∃W1,W1=(W.alloc (.cells #[.func (.yield l) #[] #[]] 153)).alloc (.cells #[.func (.func 97) #[] #[.pointer (some ⟨W.heap.size,0,none⟩),.pointer (some ⟨W.heap.size+1,0,none⟩)]] 153):=⟨_,rfl⟩
 have hC:=ZiM l S (Zg x) W.heap.size J Jx hJ hY W.heap.size (W.heap.size+1) (hS _ om) (hS _ om) (Zg x) x om (n - 1) 1 ma mc [] W1 ox om
  (fun b hb=>hS b (by rw [hW1] at hb;simp at hb;omega)) (by rw [hW1];exact Zt8 (ZtY (((Below.refl _ _).alloc sm _).alloc sm _)) _ _ hl)
  (by rw [hW1,Below.heap_alloc _ _ _ sm];exact World.alloc_heap_new W _) (by rw [hW1];have:=World.alloc_heap_new (W.alloc (.cells #[.func (.yield l) #[] #[]] 153)) (.cells #[.func (.func 97) #[] #[.pointer (some ⟨W.heap.size,0,none⟩),.pointer (some ⟨W.heap.size+1,0,none⟩)]] 153);rwa [World.size_alloc] at this)
  (by rw [hW1];exact hJ _ _ _ none (hJ _ W _ none h0 (World.grownBy_alloc W _ none) (fun r e=>by cases e)) (World.grownBy_alloc _ _ none) (fun r e=>by cases e)) sm
 have hC2:=hC.mono (R':=fun e W'=>(∃v,e=.returned (.bool v))∧Hid ((∃vs,vs.map Vis.p=V8 1 x∧J vs W')∨(∃vs,vs.map Vis.p <+: V8 1 x∧Jx vs W')))
  (fun e W' h=>h.elim (fun ⟨he,⟨vs,h1,h2⟩,_⟩=>⟨⟨_,he⟩,.inl ⟨vs,h1,by simpa using h2⟩⟩) (fun ⟨he,vs,h1,h2⟩=>⟨⟨_,he⟩,.inr ⟨vs,h1,by simpa using h2⟩⟩))
 rw [hW1] at hC2
 have HC:=hid hC2
 clear hC hC2 hY hJ h0 hl hS hW1 W1 ox
 refine callsIn_of_wp func96 rfl trivial ?_ rfl
 simp only [ntmps96,List.size_toArray,List.length_cons,List.length_nil,Nat.reduceAdd,Nat.reduceSub,Array.replicate_succ,Array.replicate_zero,List.push_toArray,List.append_toArray,List.nil_append,List.cons_append]
 gi_wp2_with (refine ⟨trivial,hdd _,?_⟩;gi_at_call 97;refine HC.out.mono ?_;rintro e W4 ⟨⟨v,rfl⟩,h4⟩)
 all_goals go_end0
 all_goals exact ⟨⟨_,rfl⟩,h4.out⟩
set_option maxRecDepth 512
theorem JL (n:Nat) (S:Nat→Prop) (x:GV) (w:World) (Bt:Nat) (ma:Option Addr) (mc:Nat) (ox:okV x) (hsz:Zg x≤1099511627776) (hS:∀b,w.heap.size≤b→¬S b) (hl:RVs w (fun b=>¬S b) x.l ma)
  (c0:w.cell? ⟨Bt,0,none⟩=some (.int .u8 x.k)) (c1:w.cell? ⟨Bt,1,none⟩=some (.int .i64 x.n)) (c2:w.cell? ⟨Bt,2,none⟩=some (.slice ma x.l.length mc)):
  SeqStopsK Fence.wide n prog 96 #[.pointer (some ⟨Bt,0,none⟩)] Kt (KC S) (fun vs=>vs.map Vis.p=V8 1 x) (fun vs=>vs.map Vis.p <+: V8 1 x) (Zg x) w:=fun l J Jx W hW hJ _ hY h0=>
 (ZiY n l S J Jx x W hJ (fun m pre v W h1 h2=>ZaE rfl m (hY pre v W h1 h2)) Bt ma mc ox hsz (fun b hb=>hS b (by have:=hW.size;omega)) (Zt8 (ZtY hW) _ _ hl)
  ((hW.cell (World.block_lt_of_cell? _ _ c0)).trans c0) ((hW.cell (World.block_lt_of_cell? _ _ c1)).trans c1) ((hW.cell (World.block_lt_of_cell? _ _ c2)).trans c2) h0).mono fun e W' h=>h
theorem Zc5 (x:GV) (m:VA) (w:World):Calls prog 64 #[VV x m] w fun e w'=>e=.returned (.func (.func 96) #[] #[.pointer (some ⟨w.heap.size,0,none⟩)])∧w'=w.alloc (.cells #[.int .u8 x.k,.int .i64 x.n,.slice m.a x.l.length m.c] 24):=by
 go_enter func64,ntmps64
 go_wp2_with fail
 go_ret
 exact ⟨rfl,rfl⟩
end
section
open Go Go.RowKit Go.Shelf
attribute [local go_sem] Oper.semAt_some

theorem q44 {p:Prop} (h:p:=by exact hB.trans (belowK_b (w:=w) (Nat.le_refl _) W D _ _ om hK rfl rfl)):p:=h
set_option maxRecDepth 100000
set_option maxHeartbeats 2000000
theorem V3 (x:GV) (A:Nat→Prop) (m:VA) (w:World) (ox:okV x) (hsz:Zg x≤1099511627776) (hl:RVs w A x.l m.a):
  Calls prog 39 #[VV x m] w fun e w'=>e=.returned (.int .i64 (Zg x))∧Below w.heap.size w w':=by
 refine (callsIn_wide (n:=3)).1 ?_
 obtain ⟨ma,mc⟩:=m
 have HL:=hid hl
 have OX:=hid ox
 have hsp:=Zr x
 clear hl ox
 refine callsIn_of_wp_marks func39 rfl trivial ?_ rfl
 simp only [ntmps39,List.size_toArray,List.length_cons,List.length_nil,Nat.reduceAdd,Nat.reduceSub,Array.replicate_succ,Array.replicate_zero,List.push_toArray,List.append_toArray,List.nil_append,List.cons_append]
 gi_wp2_with fail
 refine ⟨trivial,?_⟩
 refine (callsIn_wide.2 (Zc5 x ⟨ma,mc⟩ _)).mono ?_
 rintro e w' ⟨rfl,rfl⟩
 gi_wp2
 obtain ⟨W0,hW0⟩:∃W0,W0=((w.alloc (.cells #[.int .u8 x.k,.int .i64 x.n,.slice ma x.l.length mc] 24)).alloc (.cells #[.int .i64 0] 3)).alloc (.cells #[.int .u8 x.k,.int .i64 x.n,.slice ma x.l.length mc] 24):=⟨_,rfl⟩
 have hb0:Below w.heap.size w W0:=by rw [hW0];exact ZtX
 have hs0:W0.heap.size=w.heap.size+3:=by rw [hW0];simp
 have hn0:W0.cell? ⟨w.heap.size+1,0,none⟩=some (.int .i64 0)∧W0.frozen? ⟨w.heap.size+1,0,none⟩=false:=by rw [hW0];constructor<;>go_simp
 have d0:W0.cell? ⟨w.heap.size+2,0,none⟩=some (.int .u8 x.k):=by rw [hW0];go_simp
 have d1:W0.cell? ⟨w.heap.size+2,1,none⟩=some (.int .i64 x.n):=by rw [hW0];go_simp
 have d2:W0.cell? ⟨w.heap.size+2,2,none⟩=some (.slice ma x.l.length mc):=by rw [hW0];go_simp
 rw [←hW0]
 clear hW0
 have hl0:RVs W0 (fun b=>¬(b=w.heap.size+1)) x.l ma:=Zt8 (ZtY hb0) _ _ (Zug (fun b _ hb=>om) _ _ HL.out)
 refine wpIn_rangeFunc_ownF rfl om (gf:=96) (lb:=#[.pointer (some ⟨w.heap.size+2,0,none⟩)]) rfl trivial (enters_of func96 kr rfl)
  (JL 2 (fun b=>b=w.heap.size+1) x W0 (w.heap.size+2) ma mc OX.out hsz (fun b hb=>om) hl0 d0 d1 d2) (fun h k=>KC.trans h k) (fun W l o o' _ h1 h2 _=>KC.putObj l o o' h1 h2) (Below.refl _ _) (fun _=>rfl)
  (fun pre W=>(W.cell? ⟨w.heap.size+1,0,none⟩=some (.int .i64 pre.length)∧W.frozen? ⟨w.heap.size+1,0,none⟩=false)∧Below w.heap.size w W)
  (fun _ _ _=>False)
  (OwnFrom.and (Own.from (fun s A B row hs hg hr=>⟨cell_kept hs.1 hg hr,(frozen_kept hs.1 hg hr).trans hs.2⟩) _) (ownFrom_below (Nat.le_refl _) om))
  (fun _ _ _ _ _ hs _ _=>hs) ⟨hn0,hb0⟩
  (fun v=>{ tmps:=#[VV x ⟨ma,mc⟩,.pointer (some ⟨w.heap.size,0,none⟩),.int .i64 0,.pointer (some ⟨w.heap.size+1,0,none⟩),.agg #[.int .u8 x.k,.int .i64 x.n,.slice ma x.l.length mc],.func (.func 96) #[] #[.pointer (some ⟨w.heap.size+2,0,none⟩)],.int .i64 v.d,VV v.x v.m,undef,undef,undef],defers:=[] }) ?assign ?body ?done ?stop
 case assign=>
  intro l v W K hK
  dsimp only [Kt]
  gi_wp2
  simp
  exact hK
 case body=>
  rintro l pre v W ⟨⟨hc,hf⟩,hB⟩ hlen
  have hpl:(pre.length:Int) < 1099511627776:=om
  have hW:=World.block_lt_of_cell? _ _ hc
  gi_wp2
  refine ⟨KeepsOthers.setCell _ _ _,(KC.refl _ _).setCell _ _ rfl,⟨?_,?_⟩,hB.setCell sm _⟩
  ·rw [World.cell?_setCell_same' _ _ _ (by rw [hc];rfl)]
   simp
  rw [World.frozen?_setCell];exact hf
 case done=>
  rintro D vs W hD hvs ⟨⟨hc,hf⟩,hB⟩ hK
  gi_wp2
  have hlen:vs.length=Zg x:=by
   have:=congrArg List.length hvs
   simpa [Ui] using this
  refine ⟨sm,.inl ⟨_,_,rfl,run_takeDeferred hK,?_⟩⟩
  refine ⟨_,results_tmp rfl _ _ _,by simp [hlen],?_⟩
  exact q44
 case stop=>
  rintro D c pre W _ _ h _
  exact h.elim
end
section
open Go Go.RowKit Go.Shelf
attribute [local go_sem] Oper.semAt_some
mutual
def Yx:GV→Nat
 | ⟨_,_,l⟩=>1+YW l
def YW:List GV→Nat
 | []=>0
 | x::l=>max (Yx x) (YW l)
end
theorem ZhX (x:GV):Yx x=1+YW x.l:=by cases x;simp only [Yx]
mutual
theorem Vb:∀(x:GV),Yx x≤Zg x
 | ⟨_,_,l⟩=>by have:=Zcm l;simp only [Yx,Zg];omega
theorem Zcm:∀(l:List GV),YW l≤Zi l
 | []=>by simp [YW]
 | x::l=>by have:=Vb x;have:=Zcm l;simp only [YW,Zi];omega
end
def VY:List (Nat×GV)→Nat
 | []=>0
 | p::r=>max p.1 (VY r)
theorem Qr (a b:List (Nat×GV)):VY (a++b)=max (VY a) (VY b):=by
 induction a with
 | nil=>simp [VY]
 | cons p a ih=>simp only [List.cons_append,VY,ih];omega
mutual
theorem JT:∀(x:GV) (d:Nat),VY (V8 (d+1) x)=d+Yx x
 | ⟨k,n,l⟩,d=>by
  have:=Zbx l (d+1)
  simp only [V8,VY,Yx,this]
  cases l with
  | nil=>simp [YW]
  | cons y l=>simp only [reduceCtorEq,if_false];omega
theorem Zbx:∀(l:List GV) (d:Nat),VY (XE (d+1) l)=if l=[] then 0 else d+YW l
 | [],d=>by simp [XE,VY]
 | x::l,d=>by
  have h1:=JT x d
  have h2:=Zbx l d
  simp only [XE,Qr,h1,h2,YW,reduceCtorEq,if_false]
  cases l with
  | nil=>simp [YW]
  | cons y l=>simp only [reduceCtorEq,if_false];omega
end
theorem Ur (b:Nat):∀(l:List Vis),(∀v∈l,v.d≤b)→VY (l.map Vis.p)≤b
 | [],_=>by simp [VY]
 | v::l,h=>by
  have h1:=h v sm
  have h2:=Ur b l (fun v hv=>h v (by simp [hv]))
  simp only [List.map_cons,VY,Vis.p];omega
def Z1:List (Nat×GV)→Int
 | []=>0
 | p::r=>if Wh p.2≠0 then Wh p.2 else Z1 r
theorem Xv (a b:List (Nat×GV)):Z1 (a++b)=if Z1 a≠0 then Z1 a else Z1 b:=by
 induction a with
 | nil=>simp [Z1]
 | cons p a ih=>
  simp only [List.cons_append,Z1,ih]
  by_cases h:Wh p.2=0<;>simp [h]
def ZQ (x:GV):Int:=
 if Z1 (V8 1 x)≠0 then Z1 (V8 1 x) else if 128 < (Yx x:Int) then 9 else if 4096 < (Zg x:Int) then 5 else 0

theorem ZhO {W:World} {a:Addr} {v:Value} (o:Obj) (h:W.cell? a=some v):(W.alloc o).cell? a=some v:=cell_kept h (World.grownBy_alloc W o none) (fun r e=>by cases e)
theorem Zdd {W:World} {a:Addr} {v:Value} (o:Obj) (h:W.cell? a=some v) (hf:W.frozen? a=false):(W.alloc o).frozen? a=false:=(frozen_kept h (World.grownBy_alloc W o none) (fun r e=>by cases e)).trans hf
theorem KS {A B C:World} (h:KeepsOthers A B) (k:Below B.heap.size B C):KeepsOthers A C:=
 h.trans ⟨k.size,fun n o h _=>by rw [k.block _ (Array.getElem?_eq_some_iff.1 h).1];exact h⟩
set_option maxRecDepth 100000
set_option maxHeartbeats 2000000
theorem ZdQ (x:GV) (A:Nat→Prop) (m:VA) (w:World) (ox:okV x) (hsz:Zg x≤1099511627776) (hl:RVs w A x.l m.a):
  Calls prog 216 #[VV x m] w fun e w'=>e=.returned (.int .i64 (Yx x))∧Below w.heap.size w w':=by
 refine (callsIn_wide (n:=3)).1 ?_
 obtain ⟨ma,mc⟩:=m
 have HL:=hid hl
 have OX:=hid ox
 have hsp:=Zr x
 clear hl ox
 refine callsIn_of_wp_marks func216 rfl trivial ?_ rfl
 simp only [ntmps216,List.size_toArray,List.length_cons,List.length_nil,Nat.reduceAdd,Nat.reduceSub,Array.replicate_succ,Array.replicate_zero,List.push_toArray,List.append_toArray,List.nil_append,List.cons_append]
 gi_wp2_with fail
 refine ⟨trivial,?_⟩
 refine (callsIn_wide.2 (Zc5 x ⟨ma,mc⟩ _)).mono ?_
 rintro e w' ⟨rfl,rfl⟩
 gi_wp2
 obtain ⟨W0,hW0⟩:∃W0,W0=((w.alloc (.cells #[.int .u8 x.k,.int .i64 x.n,.slice ma x.l.length mc] 24)).alloc (.cells #[.int .i64 0] 3)).alloc (.cells #[.int .u8 x.k,.int .i64 x.n,.slice ma x.l.length mc] 24):=⟨_,rfl⟩
 have hb0:Below w.heap.size w W0:=by rw [hW0];exact ZtX
 have hs0:W0.heap.size=w.heap.size+3:=by rw [hW0];simp
 have hn0:W0.cell? ⟨w.heap.size+1,0,none⟩=some (.int .i64 0)∧W0.frozen? ⟨w.heap.size+1,0,none⟩=false:=by rw [hW0];constructor<;>go_simp
 have d0:W0.cell? ⟨w.heap.size+2,0,none⟩=some (.int .u8 x.k):=by rw [hW0];go_simp
 have d1:W0.cell? ⟨w.heap.size+2,1,none⟩=some (.int .i64 x.n):=by rw [hW0];go_simp
 have d2:W0.cell? ⟨w.heap.size+2,2,none⟩=some (.slice ma x.l.length mc):=by rw [hW0];go_simp
 rw [←hW0]
 clear hW0
 have hl0:RVs W0 (fun b=>¬(b=w.heap.size+1)) x.l ma:=Zt8 (ZtY hb0) _ _ (Zug (fun b _ hb=>om) _ _ HL.out)
 refine wpIn_rangeFunc_ownF rfl om (gf:=96) (lb:=#[.pointer (some ⟨w.heap.size+2,0,none⟩)]) rfl trivial (enters_of func96 kr rfl)
  (JL 2 (fun b=>b=w.heap.size+1) x W0 (w.heap.size+2) ma mc OX.out hsz (fun b hb=>om) hl0 d0 d1 d2) (fun h k=>KC.trans h k) (fun W l o o' _ h1 h2 _=>KC.putObj l o o' h1 h2) (Below.refl _ _) (fun _=>rfl)
  (fun pre W=>(W.cell? ⟨w.heap.size+1,0,none⟩=some (.int .i64 (VY (pre.map Vis.p):Nat))∧W.frozen? ⟨w.heap.size+1,0,none⟩=false)∧Below w.heap.size w W)
  (fun _ _ _=>False)
  (OwnFrom.and (Own.from (fun s A B row hs hg hr=>⟨cell_kept hs.1 hg hr,(frozen_kept hs.1 hg hr).trans hs.2⟩) _) (ownFrom_below (Nat.le_refl _) om))
  (fun _ _ _ _ _ hs _ _=>hs) ⟨hn0,hb0⟩
  (fun v=>{ tmps:=#[VV x ⟨ma,mc⟩,.pointer (some ⟨w.heap.size,0,none⟩),.int .i64 0,.pointer (some ⟨w.heap.size+1,0,none⟩),.int .i64 v.d,.agg #[.int .u8 x.k,.int .i64 x.n,.slice ma x.l.length mc],.func (.func 96) #[] #[.pointer (some ⟨w.heap.size+2,0,none⟩)],.int .i64 v.d,VV v.x v.m,undef,undef,undef,undef],defers:=[] }) ?assign ?body ?done ?stop
 case assign=>
  intro l v W K hK
  dsimp only [Kt]
  gi_wp2
  (try simp)
  exact hK
 case body=>
  rintro l pre v W ⟨⟨hc,hf⟩,hB⟩ hlen
  have hpl:VY (pre.map Vis.p)≤4611686018427387904:=Ur _ _ (fun v _=>v.hd)
  have hvd:=v.hd
  have hW:=World.block_lt_of_cell? _ _ hc
  generalize hM:VY (pre.map Vis.p)=M at *
  have HM:=hid hM
  clear hM
  gi_wp2
  all_goals refine ⟨KeepsOthers.setCell _ _ _,(KC.refl _ _).setCell _ _ rfl,⟨?_,(by rw [World.frozen?_setCell];exact hf)⟩,hB.setCell sm _⟩
  all_goals rw [World.cell?_setCell_same' _ _ _ (by rw [hc];rfl)]
  all_goals simp only [List.map_append,Qr,HM.out,List.map_cons,List.map_nil,VY,Vis.p]
  all_goals refine congrArg (fun z:Int=>some (Value.int IntKind.i64 z)) ?_
  all_goals omega
 case done=>
  rintro D vs W hD hvs ⟨⟨hc,hf⟩,hB⟩ hK
  have hlen:VY (vs.map Vis.p)=Yx x:=by
   rw [hvs,JT];omega
  rw [hlen] at hc
  gi_wp2
  refine ⟨sm,.inl ⟨_,_,rfl,run_takeDeferred hK,?_⟩⟩
  refine ⟨_,results_tmp rfl _ _ _,sm,?_⟩
  exact q44
 case stop=>
  rintro D c pre W _ _ h _
  exact h.elim

set_option maxRecDepth 512
theorem ZaG {a b:List (Nat×GV)} (h:a <+: b) (ha:Z1 a≠0):Z1 b=Z1 a:=by
 obtain ⟨r,rfl⟩:=h
 rw [Xv,if_pos ha]
def ZjZ (F:Int) (w:World):Ending→World→Prop:=fun e w'=>e=.returned (.int .i64 F)∧Below w.heap.size w w'
theorem q42 {p:Prop} (h:p:=by exact (hB.setCell sm _).trans (belowK_b (w:=w) (Nat.le_refl _) _ D _ _ om (by rw [Below.heap_setCell _ _ _ _ (by simpa using hDz)];exact hK) rfl rfl)):p:=h
theorem q43 {p:Prop} (h:p:=by
 rw [List.map_append,Xv,if_neg (by rw [h4.out];simp)]
 simp [Z1,Vis.p,HN.out]):p:=h
set_option maxRecDepth 100000
theorem VO (x:GV) (A:Nat→Prop) (m:VA) (w:World) (ox:okV x) (hsz:Zg x≤1099511627776) (hl:RVs w A x.l m.a):
  Calls prog 257 #[VV x m] w (ZjZ (ZQ x) w):=by
 refine (callsIn_wide (n:=3)).1 ?_
 obtain ⟨ma,mc⟩:=m
 have HL:=hid hl
 have OX:=hid ox
 have hsp:=Zr x
 clear hl ox
 generalize hF:ZQ x=F
 have HF:=hid hF
 clear hF
 refine callsIn_of_wp_marks func257 rfl trivial ?_ rfl
 simp only [ntmps257,List.size_toArray,List.length_cons,List.length_nil,Nat.reduceAdd,Nat.reduceSub,Array.replicate_succ,Array.replicate_zero,List.push_toArray,List.append_toArray,List.nil_append,List.cons_append]
 gi_wp2_with fail
 refine ⟨trivial,?_⟩
 refine (callsIn_wide.2 (Zc5 x ⟨ma,mc⟩ _)).mono ?_
 rintro e w' ⟨rfl,rfl⟩
 gi_wp2
 obtain ⟨W0,hW0⟩:∃W0,W0=((((w.alloc (.cells #[.int .u8 x.k,.int .i64 x.n,.slice ma x.l.length mc] 24)).alloc (.cells #[.int .i64 0] 35)).alloc (.cells #[.int .i64 0] 3)).alloc (.cells #[.int .i64 0] 3)).alloc
   (.cells #[.int .u8 x.k,.int .i64 x.n,.slice ma x.l.length mc] 24):=⟨_,rfl⟩
 have hb0:Below w.heap.size w W0:=by rw [hW0];exact ZtX
 have hs0:W0.heap.size=w.heap.size+5:=by rw [hW0];simp
 have hn1:W0.cell? ⟨w.heap.size+1,0,none⟩=some (.int .i64 0)∧W0.frozen? ⟨w.heap.size+1,0,none⟩=false:=by rw [hW0];constructor<;>go_simp
 have hn2:W0.cell? ⟨w.heap.size+2,0,none⟩=some (.int .i64 0)∧W0.frozen? ⟨w.heap.size+2,0,none⟩=false:=by rw [hW0];constructor<;>go_simp
 have hn3:W0.cell? ⟨w.heap.size+3,0,none⟩=some (.int .i64 0)∧W0.frozen? ⟨w.heap.size+3,0,none⟩=false:=by rw [hW0];constructor<;>go_simp
 have d0:W0.cell? ⟨w.heap.size+4,0,none⟩=some (.int .u8 x.k):=by rw [hW0];go_simp
 have d1:W0.cell? ⟨w.heap.size+4,1,none⟩=some (.int .i64 x.n):=by rw [hW0];go_simp
 have d2:W0.cell? ⟨w.heap.size+4,2,none⟩=some (.slice ma x.l.length mc):=by rw [hW0];go_simp
 rw [←hW0]
 clear hW0
 have hl0:RVs W0 (fun b=>¬(b=w.heap.size+1∨b=w.heap.size+2∨b=w.heap.size+3)) x.l ma:=Zt8 (ZtY hb0) _ _ (Zug (fun b _ hb=>om) _ _ HL.out)
 refine wpIn_rangeFunc_ownH rfl om (gf:=96) (lb:=#[.pointer (some ⟨w.heap.size+4,0,none⟩)]) rfl trivial (enters_of func96 kr rfl)
  (JL 2 (fun b=>b=w.heap.size+1∨b=w.heap.size+2∨b=w.heap.size+3) x W0 (w.heap.size+4) ma mc OX.out hsz (fun b hb=>om) hl0 d0 d1 d2) (fun h k=>KC.trans h k) (fun W l o o' _ h1 h2 _=>KC.putObj l o o' h1 h2) (Below.refl _ _) (fun _=>rfl)
  (fun pre W=>((W.cell? ⟨w.heap.size+1,0,none⟩=some (.int .i64 0)∧W.frozen? ⟨w.heap.size+1,0,none⟩=false) ∧
    (W.cell? ⟨w.heap.size+2,0,none⟩=some (.int .i64 pre.length)∧W.frozen? ⟨w.heap.size+2,0,none⟩=false) ∧
    (W.cell? ⟨w.heap.size+3,0,none⟩=some (.int .i64 (VY (pre.map Vis.p):Nat))∧W.frozen? ⟨w.heap.size+3,0,none⟩=false)∧Hid (Z1 (pre.map Vis.p)=0))∧Below w.heap.size w W∧w.heap.size+5≤W.heap.size)
  (fun c pre W=>((W.cell? ⟨w.heap.size+1,0,none⟩=some (.int .i64 (Z1 (pre.map Vis.p)))∧W.frozen? ⟨w.heap.size+1,0,none⟩=false)∧Hid (c=.ret∧Z1 (pre.map Vis.p)≠0))∧Below w.heap.size w W)
  (OwnFrom.and (Own.from (fun s A B row hs hg hr=>⟨⟨cell_kept hs.1.1 hg hr,(frozen_kept hs.1.1 hg hr).trans hs.1.2⟩,⟨cell_kept hs.2.1.1 hg hr,(frozen_kept hs.2.1.1 hg hr).trans hs.2.1.2⟩,⟨cell_kept hs.2.2.1.1 hg hr,(frozen_kept hs.2.2.1.1 hg hr).trans hs.2.2.1.2⟩,hs.2.2.2⟩) _) (OwnFrom.and (ownFrom_below (Nat.le_refl _) om) (fun s A B row hs hg hr=>Nat.le_trans hs hg.size)))
  (fun c=>OwnFrom.and (Own.from (fun s A B row hs hg hr=>⟨⟨cell_kept hs.1.1 hg hr,(frozen_kept hs.1.1 hg hr).trans hs.1.2⟩,hs.2⟩) _) (ownFrom_below (Nat.le_refl _) om)) ⟨⟨hn1,hn2,hn3,rfl⟩,hb0,om⟩
  (fun v a' W=>∃Bx,w.heap.size+5≤Bx∧W.cell? ⟨Bx,0,none⟩=some (.int .u8 v.x.k)∧W.cell? ⟨Bx,1,none⟩=some (.int .i64 v.x.n)∧W.cell? ⟨Bx,2,none⟩=some (.slice v.m.a v.x.l.length v.m.c) ∧
   a'={ tmps:=#[VV x ⟨ma,mc⟩,.pointer (some ⟨w.heap.size,0,none⟩),.pointer (some ⟨w.heap.size+1,0,none⟩),.pointer (some ⟨w.heap.size+2,0,none⟩),.pointer (some ⟨w.heap.size+3,0,none⟩),.int .i64 v.d,.pointer (some ⟨Bx,0,none⟩),undef,
    .agg #[.int .u8 x.k,.int .i64 x.n,.slice ma x.l.length mc],.func (.func 96) #[] #[.pointer (some ⟨w.heap.size+4,0,none⟩)],.int .i64 v.d,VV v.x v.m,undef,undef,undef,undef,undef,undef,undef,undef,undef,undef,undef,undef,undef,undef,undef,undef],defers:=[] })
  (fun v a' s A B row hs hg hr=>by
   obtain ⟨Bx,h1,c0,c1,c2,e⟩:=hs
   exact ⟨Bx,h1,cell_kept c0 hg (fun r e=>(hr r e).2),cell_kept c1 hg (fun r e=>(hr r e).2),cell_kept c2 hg (fun r e=>(hr r e).2),e⟩) ?assign ?body ?done ?stop
 case assign=>
  rintro l pre v W K ⟨⟨⟨h1,f1⟩,⟨h2,f2⟩,⟨h3,f3⟩,h4⟩,hB,hz⟩ hK
  dsimp only [Kt]
  gi_wp2
  exact hK _ _ ((KeepsOthers.alloc _ _).from _) ((KC.refl _ _).alloc _) ⟨⟨⟨ZhO _ h1,Zdd _ h1 f1⟩,⟨ZhO _ h2,Zdd _ h2 f2⟩,⟨ZhO _ h3,Zdd _ h3 f3⟩,h4⟩,hB.alloc om _,by simp;omega⟩
   ⟨W.heap.size,hz,gs,gs,gs,rfl⟩
 case body=>
  rintro l pre v a' W hlt ⟨r,hr⟩ ⟨⟨⟨h1,f1⟩,⟨h2,f2⟩,⟨h3,f3⟩,h4⟩,hB,hz⟩ ⟨Bx,hBx,c0,c1,c2,rfl⟩ hlen
  obtain ⟨hv1,hv2,hv3,_⟩:=ZA.1 v.ok
  have hc:=ZhA v.x v.m W ⟨hv1,hv2,hv3⟩
  have HC:=hid hc
  have hpl:VY (pre.map Vis.p)≤4611686018427387904:=Ur _ _ (fun v _=>v.hd)
  have hpl2:(pre.length:Int) < 1099511627776:=om
  have hvd:=v.hd
  generalize hM:VY (pre.map Vis.p)=M at *
  have HM:=hid hM
  clear hM hc
  gi_wp2_with fail
  refine ⟨trivial,(CallsIn.inRound l (callsIn_wide.2 HC.out)).mono ?_⟩
  rintro e W1 ⟨rfl,hb⟩
  have g1:=(hb.cell (p:=⟨w.heap.size+1,0,none⟩) (World.block_lt_of_cell? _ _ h1)).trans h1
  have g2:=(hb.cell (p:=⟨w.heap.size+2,0,none⟩) (World.block_lt_of_cell? _ _ h2)).trans h2
  have g3:=(hb.cell (p:=⟨w.heap.size+3,0,none⟩) (World.block_lt_of_cell? _ _ h3)).trans h3
  have e1:=(hb.frozen (p:=⟨w.heap.size+1,0,none⟩) (World.block_lt_of_cell? _ _ h1)).trans f1
  have e2:=(hb.frozen (p:=⟨w.heap.size+2,0,none⟩) (World.block_lt_of_cell? _ _ h2)).trans f2
  have e3:=(hb.frozen (p:=⟨w.heap.size+3,0,none⟩) (World.block_lt_of_cell? _ _ h3)).trans f3
  have hB1:Below w.heap.size w W1:=hB.trans (hb.mono om)
  have hz1:w.heap.size+5≤W1.heap.size:=Nat.le_trans hz hb.size
  clear h1 h2 h3 f1 f2 f3 HC
  by_cases hn:Wh v.x=0
  ·have hn':(Wh v.x != 0)=false:=by simp [hn]
   have HN:=hid hn
   clear hn
   gi_wp2
   have hmx:prog.follows .mixedOrders=true:=kr
   have hfe:Z1 ((pre++[v]).map Vis.p)=0:=by
    exact q43
   have hmd:VY ((pre++[v]).map Vis.p)=max M v.d:=by
    simp only [List.map_append,Qr,HM.out,List.map_cons,List.map_nil,VY,Vis.p];omega
   have hpl3:(pre++[v]).length=pre.length+1:=sm
   have HFE:=hid hfe
   have HMD:=hid hmd
   have HPL:=hid hpl3
   clear hfe hmd hpl3
   have hwr:IntKind.i64.wrap ((pre.length:Int)+1)=((pre.length+1:Nat):Int):=by rw [IntWalk.i64_in _ om];omega
   have HWR:=hid hwr
   clear hwr
   gi_region_o
   all_goals refine ⟨KeepsOthers.from (by (repeat (first|exact KeepsOthers.refl _|refine KeepsOthers.trans ?_ (KeepsOthers.setCell _ _ _)|refine KeepsOthers.trans ?_ (KeepsOthers.drew _)|refine KS ?_ hb))) _,
    (by (repeat (first|exact KC.refl _ _|refine KC.setCell ?_ _ _ sm|refine KC.drew ?_|refine KC.below ?_ hb))),
    ⟨⟨?_,?_⟩,⟨?_,?_⟩,⟨?_,?_⟩,HFE.out⟩,ZtX,by simp;omega⟩
   all_goals (try rw [HMD.out])
   all_goals (try rw [HPL.out])
   all_goals (try rw [HWR.out])
   all_goals (try go_simp)
   all_goals (try (split<;>first|omega|(refine congrArg (fun z:Int=>some (Value.int IntKind.i64 z)) ?_;omega)))
   all_goals (try omega)
  have hn':(Wh v.x != 0)=true:=by simp [hn]
  have HN:=hid hn
  clear hn
  gi_wp2
  refine ⟨((KS (KeepsOthers.refl _) hb).trans (KeepsOthers.setCell _ _ _)).from _,⟨⟨?_,?_⟩,rfl,?_⟩,hB1.setCell sm _⟩
  ·rw [World.cell?_setCell_same' _ _ _ (by rw [g1];rfl)]
   exact q43
  ·rw [World.frozen?_setCell];exact e1
  exact q43
 case done=>
  rintro D vs W hD hvs ⟨⟨⟨h1,f1⟩,⟨h2,f2⟩,⟨h3,f3⟩,h4⟩,hB,hz⟩ hK
  rw [hvs] at h3 h4
  rw [JT] at h3
  have hlen:vs.length=Zg x:=by
   have:=congrArg List.length hvs
   simpa [Ui] using this
  rw [hlen] at h2
  have hdl:=Vb x
  have hDz:D≠w.heap.size+1:=om
  gi_wp2
  all_goals refine ⟨sm,.inl ⟨_,_,rfl,run_takeDeferred (by rw [Below.heap_setCell _ _ _ _ (by simpa using hDz)];exact hK),?_⟩⟩
  all_goals simp only [LeavesInM,LeavesIn]
  ·have hC:=cell_kept (World.cell?_setCell_same' W ⟨w.heap.size+1,0,none⟩ (.int .i64 9) (by rw [h1];rfl)) (grownBy_putObj' _ D (.deferred none)) (fun r e=>by cases e;exact ⟨_,by rw [Below.heap_setCell _ _ _ _ (by simpa using hDz)];exact hK,rfl⟩)
   refine ⟨.int .i64 9,by simp [results,Tryz.f257,go_sem,hC],by rw [←HF.out,ZQ,if_neg (by rw [h4.out];simp),if_pos (by assumption)],?_⟩
   exact q42
  ·have hC:=cell_kept (World.cell?_setCell_same' W ⟨w.heap.size+1,0,none⟩ (.int .i64 5) (by rw [h1];rfl)) (grownBy_putObj' _ D (.deferred none)) (fun r e=>by cases e;exact ⟨_,by rw [Below.heap_setCell _ _ _ _ (by simpa using hDz)];exact hK,rfl⟩)
   refine ⟨.int .i64 5,by simp [results,Tryz.f257,go_sem,hC],by rw [←HF.out,ZQ,if_neg (by rw [h4.out];simp),if_neg om,if_pos (by assumption)],?_⟩
   exact q42
  have hC:=cell_kept (World.cell?_setCell_same' W ⟨w.heap.size+1,0,none⟩ (.int .i64 0) (by rw [h1];rfl)) (grownBy_putObj' _ D (.deferred none)) (fun r e=>by cases e;exact ⟨_,by rw [Below.heap_setCell _ _ _ _ (by simpa using hDz)];exact hK,rfl⟩)
  refine ⟨.int .i64 0,by simp [results,Tryz.f257,go_sem,hC],by rw [←HF.out,ZQ,if_neg (by rw [h4.out];simp),if_neg om,if_neg om],?_⟩
  exact q42
 case stop=>
  rintro D c pre W hD hvs ⟨⟨⟨h1,f1⟩,h4⟩,hB⟩ hK
  obtain ⟨rfl,hne⟩:=h4
  gi_wp2
  refine ⟨sm,.inl ⟨_,_,rfl,run_takeDeferred hK,?_⟩⟩
  simp only [LeavesInM,LeavesIn]
  have hC:=cell_kept h1 (grownBy_putObj' _ D (.deferred none)) (fun r e=>by cases e;exact ⟨_,hK,rfl⟩)
  refine ⟨.int .i64 _,by simp [results,Tryz.f257,go_sem,hC];rfl,?_,?_⟩
  ·rw [←HF.out,ZQ,ZaG hvs hne,if_pos hne]
  exact q44
end
def UY (p:GP):Int:=if p.k=8∧(p.n < 0∨64 < p.n) then 1 else if p.k≠8∧p.n≠0 then 3 else 0
theorem q40 {p:Prop} (h:p:=by (first|rfl|omega|((try simp only [beq_iff_eq,beq_eq_false_iff_ne,bne_iff_ne,bne_eq_false_iff_eq,decide_eq_true_eq,decide_eq_false_iff_not,ne_eq,Bool.and_eq_true,Bool.or_eq_true,Bool.and_eq_false_iff,Bool.or_eq_false_iff,Bool.not_eq_true',Bool.not_eq_false'] at *);(repeat' split)<;>first|rfl|omega|contradiction|(simp_all;done)|(simp_all;omega)))):p:=h
set_option maxRecDepth 100000
theorem Zfk (p:GP) (m:PA) (w:World) (ox:Yg p.k∧Zv p.n):
  Calls prog 302 #[PV p m] w fun e w'=>e=.returned (.int .i64 (UY p))∧Below w.heap.size w w':=by
 obtain ⟨⟨x1,x2⟩,⟨x3,x4⟩⟩:=ox
 obtain ⟨ma,mc,mb,md⟩:=m
 generalize hF:UY p=F
 have HF:=hid hF
 clear hF
 go_enter func302,ntmps302
 go_wp2_with fail
 all_goals go_ret
 all_goals refine ⟨Zf ?_,ZtX⟩
 all_goals rw [←HF.out]
 all_goals unfold UY
 all_goals exact q40
set_option maxRecDepth 512
def Jw (k:Int):Int:=if k=1∨k=2∨k=3∨k=4 then 0 else if k=6∨k=7 then 0 else 1
def Jy (k:Int):Int:=if k=1∨k=2∨k=3∨k=4 then 0 else if k=6∨k=7 then 64 else 1
theorem ZiD (k:Int) (w:World) (hk:Yg k):Calls prog 303 #[.int .u8 k] w fun e w'=>e=.returned (.tuple #[.int .i64 (Jw k),.int .i64 (Jy k)])∧Below w.heap.size w w':=by
 obtain ⟨h0,h1⟩:=hk
 generalize hF:Jw k=F
 have HF:=hid hF
 clear hF
 generalize hG:Jy k=G
 have HG:=hid hG
 clear hG
 go_enter func303,ntmps303
 go_wp2_with fail
 all_goals go_ret2
 all_goals refine ⟨YS ?_ ?_,ZtX⟩
 all_goals first|rw [←HF.out]|rw [←HG.out]
 all_goals first|unfold Jw|unfold Jy
 all_goals exact q40
theorem ZiB (k:Int):0≤Jw k∧Jw k≤1:=by unfold Jw;(repeat' split)<;>omega
theorem ZiC (k:Int):0≤Jy k∧Jy k≤64:=by unfold Jy;(repeat' split)<;>omega
def VF (p:GP):Int:=if UY p≠0 then UY p else if (p.a.length:Int) < Jw p.k then 4 else if Jy p.k < (p.a.length:Int) then 5 else 0
def XC (p:GP):Int:=
 if p.k < 1∨11 < p.k then 11
 else if Xe p.k=true then (if ZQ p.v≠0 then ZQ p.v else VF p)
 else if Xw p.v=true then VF p else 3
set_option maxRecDepth 100000
set_option maxHeartbeats 1000000
theorem Zd3 (p:GP) (A:Nat→Prop) (m:PA) (w:World) (ox:okP p) (hsz:Zm p≤1099511627776) (hl:RP w A p m):
  Calls prog 291 #[PV p m] w fun e w'=>e=.returned (.int .i64 (XC p))∧Below w.heap.size w w':=by
 obtain ⟨⟨x1,x2⟩,ov,⟨x3,x4⟩,x5,oa⟩:=Y3.1 ox
 obtain ⟨⟨v1,v2⟩,⟨v3,v4⟩,v5,_⟩:=ZA.1 ov
 obtain ⟨ma,mc,mb,md⟩:=m
 have hvs:Zg p.v≤1099511627776:=by have:=Wk p;omega
 have OV:=hid ov
 have HL:=hid (Zl.1 (Wn.1 hl).1)
 have HU:=hid (show Yg p.k from ⟨x1,x2⟩)
 have HN:=hid (show Zv p.n from ⟨x3,x4⟩)
 have HV:=hid (show Yg p.v.k∧Zv p.v.n∧p.v.l.length≤1048576 from ⟨⟨v1,v2⟩,⟨v3,v4⟩,v5⟩)
 obtain ⟨r1,r2⟩:=ZiB p.k
 obtain ⟨r3,r4⟩:=ZiC p.k
 clear hl ov ox oa
 generalize hF:XC p=F
 have HF:=hid hF
 clear hF
 go_enter func291,ntmps291
 go_wp2_with (first
  | (go_at_call 219;refine (Jg _ _ HU.out).mono ?_;rintro e w1 ⟨rfl,hb⟩;have hB1:=hb;clear hb;obtain ⟨hc1,hf1⟩:=Za hB1)
  | (go_at_call 257;refine (VO p.v A ⟨ma,mc⟩ _ OV.out hvs (by exact Zt8 az _ _ HL.out)).mono ?_;rintro e w2 ⟨rfl,hb⟩;have hB2:=Below.trans hB1 (Below.mono hb (Below.size hB1));clear hb;obtain ⟨hc2,hf2⟩:=Za hB2)
  | (go_at_call 283;refine (Zd4 p.v ⟨ma,mc⟩ _ HV.out).mono ?_;rintro e w2 ⟨rfl,hb⟩;have hB2:=Below.trans hB1 (Below.mono hb (Below.size hB1));clear hb;obtain ⟨hc2,hf2⟩:=Za hB2)
  | (go_at_call 302;refine (Zfk p ⟨ma,mc,mb,md⟩ _ ⟨HU.out,HN.out⟩).mono ?_;rintro e w3 ⟨rfl,hb⟩;have hB3:=Below.trans hB2 (Below.mono hb (Below.size hB2));clear hb;obtain ⟨hc3,hf3⟩:=Za hB3)
  | (go_at_call 303;refine (ZiD _ _ HU.out).mono ?_;rintro e w4 ⟨rfl,hb⟩;have hB4:=Below.trans hB3 (Below.mono hb (Below.size hB3));clear hb;obtain ⟨hc4,hf4⟩:=Za hB4))
 all_goals go_ret
 all_goals refine ⟨Zf ?_,ZtX⟩
 all_goals rw [←HF.out]
 all_goals unfold XC VF
 all_goals exact q40
set_option maxRecDepth 512
mutual
def XF (place deep:Int):GP→Int×Int
 | ⟨k,v,n,l⟩=>if 12 < deep then (place,9) else if XC ⟨k,v,n,l⟩≠0 then (place,XC ⟨k,v,n,l⟩) else Yj (place+1) (deep+1) l
def Yj (place deep:Int):List GP→Int×Int
 | []=>(place,0)
 | x::l=>if (XF place deep x).2≠0 then XF place deep x else Yj (XF place deep x).1 deep l
end
theorem Zgf (place deep:Int) (p:GP):XF place deep p=if 12 < deep then (place,9) else if XC p≠0 then (place,XC p) else Yj (place+1) (deep+1) p.a:=by cases p;simp only [XF]
theorem UL (d:Int):∀(a b:List GP) (pl:Int),Yj pl d (a++b)=if (Yj pl d a).2≠0 then Yj pl d a else Yj (Yj pl d a).1 d b
 | [],b,pl=>by simp [Yj]
 | x::a,b,pl=>by
  simp only [List.cons_append,Yj]
  split
  ·rename_i h;simp [h]
  rename_i h;exact UL d a b _
mutual
theorem ZeZ:∀(p:GP) (pl d:Int),pl≤(XF pl d p).1∧(XF pl d p).1≤pl+Zm p
 | ⟨k,v,n,l⟩,pl,d=>by
  have:=Uc l (pl+1) (d+1)
  simp only [XF,Zm]
  split
  ·simp;omega
  split
  ·simp;omega
  omega
theorem Uc:∀(l:List GP) (pl d:Int),pl≤(Yj pl d l).1∧(Yj pl d l).1≤pl+ZY l
 | [],pl,d=>by simp [Yj,ZY]
 | x::l,pl,d=>by
  have h1:=ZeZ x pl d
  have h2:=Uc l (XF pl d x).1 d
  simp only [Yj,ZY]
  split<;>omega
end
theorem Za7 (pl d:Int) (l:List GP) (j:Nat) (h:j < l.length) (h0:(Yj pl d (l.take j)).2=0):Yj pl d (l.take (j+1))=XF (Yj pl d (l.take j)).1 d l[j]:=by
 rw [List.take_succ_eq_append_getElem h,UL,if_neg (by simp [h0])]
 simp only [Yj]
 split
 ·rfl
 rename_i h;ext<;>simp_all
theorem Za6 (pl d:Int) (l:List GP) (j:Nat) (h0:(Yj pl d (l.take j)).2≠0):Yj pl d l=Yj pl d (l.take j):=by
 conv=>lhs;rw [←List.take_append_drop j l]
 rw [UL,if_pos h0]
theorem Wy:∀(l:List GP) (j:Nat),ZY (l.take j)≤ZY l
 | [],j=>sm
 | x::l,0=>by simp [ZY]
 | x::l,j+1=>by have:=Wy l j;simp only [List.take_succ_cons,ZY];omega
theorem WP:∀(l:List GP) (j:Nat) (h:j < l.length),ZY (l.take (j+1))=ZY (l.take j)+Zm l[j]
 | x::l,0,_=>by simp [ZY]
 | x::l,j+1,h=>by have:=WP l j (by simpa using h);simp only [List.take_succ_cons,ZY,List.getElem_cons_succ] at this ⊢;omega
set_option maxRecDepth 100000
theorem Zci (N:Nat):∀(p:GP) (w:World) (A:Nat→Prop) (m:PA) (pl d:Int),Zm p≤N→okP p→0≤pl→pl+Zm p≤1099511627776→0≤d→d≤13→RP w A p m →
  Calls prog 282 #[PV p m,.int .i64 pl,.int .i64 d] w fun e w'=>e=.returned (.tuple #[.int .i64 (XF pl d p).1,.int .i64 (XF pl d p).2])∧Below w.heap.size w w':=by
 induction N with
 | zero=>intro p;have:=ZS p;intros;omega
 | succ N ih=>
  rintro p w A ⟨ma,mc,mb,md⟩ pl d hN ox hp0 hp1 hd0 hd1 hl
  have IH:=hid ih
  have HL:=hid (Wn.1 hl).2
  have HP:=hid hl
  have OX:=hid ox
  obtain ⟨⟨x1,x2⟩,ov,⟨x3,x4⟩,x5,oa⟩:=Y3.1 ox
  have O:=hid oa
  have hse:=Wk p
  have hsv:=Zr p.v
  clear ih hl ox oa ov
  rw [Zgf]
  by_cases hd:12 < d
  ·rw [if_pos hd]
   go_enter func282,ntmps282
   go_wp2_with fail
   go_ret2
   exact ⟨rfl,ZtX⟩
  rw [if_neg hd]
  have hsz:Zm p≤1099511627776:=om
  by_cases hn:XC p=0
  case neg=>
   rw [if_pos hn]
   have hn':(XC p != 0)=true:=by simp [hn]
   clear hn
   go_enter func282,ntmps282
   go_wp2_with (go_at_call 291;refine (Zd3 p A ⟨ma,mc,mb,md⟩ _ OX.out hsz (by exact Zub az _ _ HP.out)).mono ?_;rintro e w1 ⟨rfl,hb⟩;have hB1:=hb;clear hb;obtain ⟨hc1,hf1⟩:=Za hB1)
   go_ret2
   exact ⟨rfl,ZtX⟩
  rw [if_neg (by simp [hn])]
  have HN:=hid hn
  have hn':(XC p != 0)=false:=by simp [hn]
  clear hn
  generalize hF:Yj (pl+1) (d+1) p.a=F
  have HF:=hid hF
  clear hF
  go_enter func282,ntmps282
  go_wp2_with (go_at_call 291;refine (Zd3 p A ⟨ma,mc,mb,md⟩ _ OX.out hsz (by exact Zub az _ _ HP.out)).mono ?_;rintro e w1 ⟨rfl,hb⟩;have hB1:=hb;clear hb;obtain ⟨hc1,hf1⟩:=Za hB1)
  go_loopg [1,8,25] (p.a.length) (fun gk t1 t8 i wr=>∃j:Nat,gk+j=p.a.length∧i=.int .i64 j∧t1=.int .i64 (Yj (pl+1) (d+1) (p.a.take j)).1∧t8=.int .i64 0∧Hid ((Yj (pl+1) (d+1) (p.a.take j)).2=0)∧Below w.heap.size w wr∧w.heap.size < wr.heap.size)
  case atStart=>exact ⟨0,om,rfl,by simp [Yj],by rw [HN.out],by simp [Yj,Hid],ZtX,by have:=hB1.size;simp at this;omega⟩
  case round=>
   obtain ⟨j,hj,rfl,rfl,rfl,HZ,hb,hz⟩:=hrel
   by_cases hlt:j < p.a.length
   ·obtain ⟨b,o,mj,rfl,hA,hbs,g0,gx⟩:=HL.out.get j hlt
    obtain ⟨k0,k1,k2,k3,k4,k5⟩:=At6.1 (g0.ext (ZtY hb) (A:=fun _=>True) trivial)
    have hs1:b < wr.heap.size:=om
    have hq:=Uc (p.a.take j) (pl+1) (d+1)
    have hq1:=Wy p.a j
    have hq2:=WP p.a j hlt
    have hq3:=Wy p.a (j+1)
    have hst:=Za7 (pl+1) (d+1) p.a j hlt HZ.out
    have HST:=hid hst
    clear hst g0
    generalize hQ:(Yj (pl+1) (d+1) (p.a.take j)).1=Q at *
    have HQ:=hid hQ
    clear hQ
    go_wp2_with (go_at_call 282;refine (IH.out p.a[j] _ A mj Q (d+1) om (O.out.get j hlt) om om om om (by exact Zub az _ _ gx)).mono ?_;rintro e w2 ⟨rfl,hb2⟩)
    all_goals have hbb:Below w.heap.size w w2:=(hb.alloc om _).trans (hb2.mono (by simp;omega))
    ·have hne:(XF Q (d+1) p.a[j]).2≠0:=by simpa using ‹((XF Q (d+1) p.a[j]).2 != 0)=true›
     go_ret2
     have h1:XF Q (d+1) p.a[j]=F:=by
      rw [←HF.out,←HST.out];exact (Za6 _ _ _ _ (by rw [HST.out];exact hne)).symm
     exact ⟨YS (congrArg Prod.fst h1) (congrArg Prod.snd h1),hbb⟩
    have hne:(XF Q (d+1) p.a[j]).2=0:=by simpa using ‹((XF Q (d+1) p.a[j]).2 != 0)=false›
    go_roundg (gk - 1)
    case measure=>omega
    case rel=>exact ⟨j+1,om,by go_num,by rw [HST.out],by rw [hne],by rw [HST.out];exact hne,hbb,by have:=hb2.size;simp at this;omega⟩
   have hjl:j=p.a.length:=om
   go_wp2_with fail
   go_ret2
   have h1:Yj (pl+1) (d+1) (p.a.take j)=F:=by rw [hjl,List.take_length];exact HF.out
   exact ⟨YS (by rw [h1]) (by rw [←h1,HZ.out]),hb⟩
set_option maxRecDepth 512
mutual
def Xg:GP→Nat
 | ⟨k,v,_,l⟩=>1+(if Xe k=true then Zg v else 0)+YR l
def YR:List GP→Nat
 | []=>0
 | x::l=>Xg x+YR l
end
theorem ZcA (p:GP):Xg p=1+(if Xe p.k=true then Zg p.v else 0)+YR p.a:=by cases p;simp only [Xg]
mutual
theorem Yv:∀(p:GP),Xg p≤Zm p
 | ⟨k,v,n,l⟩=>by have:=Kx l;simp only [Xg,Zm];split<;>omega
theorem Kx:∀(l:List GP),YR l≤ZY l
 | []=>by simp [YR]
 | x::l=>by have:=Yv x;have:=Kx l;simp only [YR,ZY];omega
end
theorem XD:∀(l:List GP) (j:Nat) (h:j < l.length),YR (l.take (j+1))=YR (l.take j)+Xg l[j]
 | x::l,0,_=>by simp [YR]
 | x::l,j+1,h=>by have:=XD l j (by simpa using h);simp only [List.take_succ_cons,YR,List.getElem_cons_succ] at this ⊢;omega
theorem Vl (l:List GP) (j:Nat):YR (l.take j)≤ZY l:=Nat.le_trans (Kx _) (Wy l j)
theorem q41 {p:Prop} (h:p:=by
 obtain ⟨j,hj,rfl,rfl,hb,hz⟩:=hrel
 by_cases hlt:j < p.a.length
 ·obtain ⟨b,o,mj,rfl,hA,hbs,g0,gx⟩:=HL.out.get j hlt
  obtain ⟨k0,k1,k2,k3,k4,k5⟩:=At6.1 (g0.ext (ZtY hb) (A:=fun _=>True) trivial)
  have hs1:b < wr.heap.size:=om
  have hq1:=Xq p.a j hlt
  have hq2:=XD p.a j hlt
  have hq3:=Vl p.a j
  have hq4:=Yv p.a[j]
  have HQ:=hid hq2
  clear hq2 g0
  go_wp2_with (go_at_call 140;refine (IH.out p.a[j] _ A mj om (O.out.get j hlt) om (by exact Zub az _ _ gx)).mono ?_;rintro e w2 ⟨rfl,hb2⟩)
  have hbb:Below w.heap.size w w2:=(hb.alloc om _).trans (hb2.mono (by simp;omega))
  go_roundg (gk - 1)
  case measure=>omega
  case rel=>exact ⟨j+1,om,by go_num,by rw [HQ.out];go_num,hbb,by have:=hb2.size;simp at this;omega⟩
 have hjl:j=p.a.length:=om
 go_wp2_with fail
 go_ret
 exact ⟨Zf (by rw [hjl,List.take_length]),hb⟩):p:=h
set_option maxRecDepth 100000
theorem ZcB (N:Nat):∀(p:GP) (w:World) (A:Nat→Prop) (m:PA),Zm p≤N→okP p→Zm p≤1099511627776→RP w A p m →
  Calls prog 140 #[PV p m] w fun e w'=>e=.returned (.int .i64 (Xg p))∧Below w.heap.size w w':=by
 induction N with
 | zero=>intro p;have:=ZS p;intros;omega
 | succ N ih=>
  rintro p w A ⟨ma,mc,mb,md⟩ hN ox hs hl
  have IH:=hid ih
  have HL:=hid (Wn.1 hl).2
  have HLV:=hid (Zl.1 (Wn.1 hl).1)
  obtain ⟨⟨x1,x2⟩,ov,⟨x3,x4⟩,x5,oa⟩:=Y3.1 ox
  have O:=hid oa
  have OV:=hid ov
  have HU:=hid (show Yg p.k from ⟨x1,x2⟩)
  have hse:=Wk p
  have hsv:Zg p.v≤1099511627776:=om
  clear ih hl ox oa ov
  rw [ZcA]
  generalize hG:(if Xe p.k=true then Zg p.v else 0)=G
  have hGl:G≤Zg p.v:=by rw [←hG];split<;>omega
  have hpos:=Zr p.v
  cases hv:Xe p.k
  all_goals rw [hv] at hG
  all_goals simp only [if_true,if_false,Bool.false_eq_true,reduceIte] at hG
  all_goals subst hG
  all_goals have HVV:=hid hv
  all_goals clear hv
  all_goals go_enter func140,ntmps140
  all_goals go_wp2_with (first
   | (go_at_call 219;refine (Jg _ _ HU.out).mono ?_;rw [HVV.out];rintro e w1 ⟨rfl,hb⟩;have hB1:=hb;clear hb;obtain ⟨hc1,hf1⟩:=Za hB1)
   | (go_at_call 39;refine (V3 p.v A ⟨ma,mc⟩ _ OV.out hsv (by exact Zt8 az _ _ HLV.out)).mono ?_;rintro e w2 ⟨rfl,hb⟩;have hB2:=Below.trans hB1 (Below.mono hb (Below.size hB1));clear hb;obtain ⟨hc2,hf2⟩:=Za hB2))
  ·go_loopg [3,17] (p.a.length) (fun gk t3 i wr=>∃j:Nat,gk+j=p.a.length∧i=.int .i64 j∧t3=.int .i64 ((1+0+YR (p.a.take j):Nat):Int)∧Below w.heap.size w wr∧w.heap.size < wr.heap.size)
   case atStart=>exact ⟨0,om,rfl,by simp [YR],ZtX,by have:=hB1.size;simp at this;omega⟩
   case round=>
    exact q41
  go_loopg [3,17] (p.a.length) (fun gk t3 i wr=>∃j:Nat,gk+j=p.a.length∧i=.int .i64 j∧t3=.int .i64 ((1+Zg p.v+YR (p.a.take j):Nat):Int)∧Below w.heap.size w wr∧w.heap.size < wr.heap.size)
  case atStart=>exact ⟨0,om,rfl,by simp [YR],ZtX,by have:=hB2.size;simp at this;omega⟩
  case round=>
   exact q41
theorem Zem (x:GV) (m:VA) (w:World) (ox:Yg x.k∧Zv x.n∧x.l.length≤1048576):
  Calls prog 288 #[VV x m] w fun e w'=>e=.returned (.int .i64 (Wh x))∧Below w.heap.size w w':=by
 obtain ⟨⟨x1,x2⟩,⟨x3,x4⟩,x5⟩:=ox
 obtain ⟨ma,mc⟩:=m
 generalize hF:Wh x=F
 have HF:=hid hF
 clear hF
 go_enter func288,ntmps288
 go_wp2_with fail
 all_goals go_ret
 all_goals refine ⟨Zf ?_,ZtZ⟩
 all_goals rw [←HF.out]
 all_goals unfold Wh
 all_goals exact q40
set_option maxRecDepth 512
mutual
def K3:GV→Int
 | ⟨k,n,l⟩=>if Wh ⟨k,n,l⟩≠0 then Wh ⟨k,n,l⟩ else Wc l
def Wc:List GV→Int
 | []=>0
 | x::l=>if K3 x≠0 then K3 x else Wc l
end
theorem ZiZ (x:GV):K3 x=if Wh x≠0 then Wh x else Wc x.l:=by cases x;simp only [K3]
mutual
theorem ZdJ:∀(x:GV) (d:Nat),K3 x=Z1 (V8 d x)
 | ⟨k,n,l⟩,d=>by simp only [K3,V8,Z1,Zcb l (d+1)]
theorem Zcb:∀(l:List GV) (d:Nat),Wc l=Z1 (XE d l)
 | [],d=>by simp only [Wc,XE,Z1]
 | x::l,d=>by simp only [Wc,XE,Xv,ZdJ x d,Zcb l d]
end
theorem UJ:∀(a b:List GV),Wc (a++b)=if Wc a≠0 then Wc a else Wc b
 | [],b=>by simp [Wc]
 | x::a,b=>by
  simp only [List.cons_append,Wc,UJ a b]
  by_cases h:K3 x=0<;>simp [h]
theorem ZeX (l:List GV) (j:Nat) (h:j < l.length) (h0:Wc (l.take j)=0):Wc (l.take (j+1))=K3 l[j]:=by
 rw [List.take_succ_eq_append_getElem h,UJ,h0,if_neg sm]
 simp only [Wc]
 split
 ·rfl
 rename_i h1;exact (Decidable.not_not.1 h1).symm
theorem ZeW (l:List GV) (j:Nat) (h0:Wc (l.take j)≠0):Wc l=Wc (l.take j):=by
 conv=>lhs;rw [←List.take_append_drop j l]
 rw [UJ,if_pos h0]
set_option maxRecDepth 100000
theorem ZbO (N:Nat):∀(x:GV) (w:World) (A:Nat→Prop) (m:VA),Zg x≤N→okV x→RVs w A x.l m.a →
  Calls prog 273 #[VV x m] w fun e w'=>e=.returned (.int .i64 (K3 x))∧Below w.heap.size w w':=by
 induction N with
 | zero=>intro x;have:=Zr x;intros;omega
 | succ N ih=>
  rintro x w A ⟨ma,mc⟩ hN ox hl
  have IH:=hid ih
  have HL:=hid hl
  obtain ⟨x1,x2,hlen,oa⟩:=ZA.1 ox
  have O:=hid oa
  have HU:=hid (And.intro x1 (And.intro x2 hlen))
  have hse:=XZ x
  rw [ZiZ]
  generalize hF:(if Wh x≠0 then Wh x else Wc x.l)=F
  have HF:=hid hF
  clear hF
  clear ih hl ox oa x1 x2
  go_enter func273,ntmps273
  go_wp2_with (go_at_call 288;refine (Zem x ⟨ma,mc⟩ _ HU.out).mono ?_;rintro e w1 ⟨rfl,hb⟩;have hB1:=hb;clear hb;obtain ⟨hc1,hf1⟩:=Za hB1)
  have hz1:=hB1.size
  simp at hz1
  have q2:w1.cell? ⟨w.heap.size,2,none⟩=some (.slice ma x.l.length mc):=(hB1.cell so).trans gs
  have hbw1:Below w.heap.size w w1:=ZtZ
  go_loopg [3,4] (x.l.length) (fun gk t3 i wr=>∃(j:Nat) (E:Int),gk+j=x.l.length∧i=.int .i64 j∧t3=.int .i64 E∧Hid (E=if Wh x≠0 then Wh x else Wc (x.l.take j))∧Below w.heap.size w wr∧w.heap.size < wr.heap.size∧wr.cell? ⟨w.heap.size,2,none⟩=some (.slice ma x.l.length mc))
  case atStart=>exact ⟨0,_,om,rfl,rfl,hid (by simp [Wc]),hbw1,om,q2⟩
  case round=>
   obtain ⟨j,E,hj,rfl,rfl,HE,hb,hz,hcell⟩:=hrel
   by_cases hE:E=0
   ·have hE':(E==0)=true:=by simp [hE]
    have h0:Wh x=0∧Wc (x.l.take j)=0:=by
     have:=HE.out
     rw [hE] at this
     split at this
     ·rename_i h1;exact absurd this.symm h1
     rename_i h1;exact ⟨by simpa using h1,this.symm⟩
    have H0:=hid h0
    clear h0 hE
    by_cases hlt:j < x.l.length
    ·obtain ⟨b,o,mj,rfl,hA,hbs,g0,gx⟩:=HL.out.get j hlt
     obtain ⟨k0,k1,k2⟩:=At3.1 (g0.ext (ZtY hb) (A:=fun _=>True) trivial)
     have hs1:b < wr.heap.size:=om
     have hq1:=ZX x.l j hlt
     clear g0
     go_wp2_with (go_at_call 273;refine (IH.out x.l[j] _ A mj om (O.out.get j hlt) (by exact Zt8 az _ _ (Zl.1 gx))).mono ?_;rintro e w2 ⟨rfl,hb2⟩)
     have hbb:Below w.heap.size w w2:=hb.trans (hb2.mono om)
     go_roundg (gk - 1)
     case measure=>omega
     case rel=>exact ⟨j+1,_,om,by go_num,rfl,hid (by rw [ZeX _ _ hlt H0.out.2,if_neg (by simp [H0.out.1])]),hbb,by have:=hb2.size;omega,(hb2.cell (by simp;omega)).trans hcell⟩
    have hjl:j=x.l.length:=om
    go_wp2_with fail
    go_ret
    exact ⟨Zf (by rw [HE.out,←HF.out,hjl,List.take_length]),hb⟩
   have hE':(E==0)=false:=by simp [hE]
   have hfin:E=F:=by
    rw [←HF.out]
    have:=HE.out
    split at this
    ·rename_i h1;rw [if_pos h1];exact this
    rename_i h1;rw [if_neg h1,this];exact (ZeW _ _ (by rw [←this];exact hE)).symm
   have HFI:=hid hfin
   clear hE hfin
   by_cases hlt:j < x.l.length
   all_goals
    go_wp2_with fail
    go_ret
    exact ⟨Zf HFI.out,hb⟩
set_option maxRecDepth 512
theorem JC:∀(l:List GV) (j:Nat) (h:j < l.length),Zi (l.take (j+1))=Zi (l.take j)+Zg l[j]
 | x::l,0,_=>by simp [Zi]
 | x::l,j+1,h=>by have:=JC l j (by simpa using h);simp only [List.take_succ_cons,Zi,List.getElem_cons_succ] at this ⊢;omega
theorem JB:∀(l:List GV) (j:Nat),Zi (l.take j)≤Zi l
 | [],j=>sm
 | x::l,0=>by simp [Zi]
 | x::l,j+1=>by have:=JB l j;simp only [List.take_succ_cons,Zi];omega
set_option maxRecDepth 100000
theorem XQ (N:Nat):∀(x:GV) (w:World) (A:Nat→Prop) (m:VA),Zg x≤N→Zg x≤1099511627776→okV x→RVs w A x.l m.a →
  Calls prog 113 #[VV x m] w fun e w'=>e=.returned (.int .i64 (Zg x))∧Below w.heap.size w w':=by
 induction N with
 | zero=>intro x;have:=Zr x;intros;omega
 | succ N ih=>
  rintro x w A ⟨ma,mc⟩ hN h40 ox hl
  have IH:=hid ih
  have HL:=hid hl
  obtain ⟨_,_,hlen,oa⟩:=ZA.1 ox
  have O:=hid oa
  have hse:=XZ x
  clear ih hl ox oa
  go_enter func113,ntmps113
  go_wp2_with fail
  go_loopg [3,4] (x.l.length) (fun gk t3 i wr=>∃(j n:Nat),gk+j=x.l.length∧i=.int .i64 j∧t3=.int .i64 n∧Hid (n=1+Zi (x.l.take j))∧n≤1099511627776∧Below w.heap.size w wr∧w.heap.size < wr.heap.size∧wr.cell? ⟨w.heap.size,2,none⟩=some (.slice ma x.l.length mc))
  case atStart=>exact ⟨0,1,om,rfl,rfl,hid (by simp [Zi]),om,ZtZ,sm,gs⟩
  case round=>
   obtain ⟨j,n,hj,rfl,rfl,HE,hn,hb,hz,hcell⟩:=hrel
   by_cases hlt:j < x.l.length
   ·obtain ⟨b,o,mj,rfl,hA,hbs,g0,gx⟩:=HL.out.get j hlt
    obtain ⟨k0,k1,k2⟩:=At3.1 (g0.ext (ZtY hb) (A:=fun _=>True) trivial)
    have hs1:b < wr.heap.size:=om
    have hq1:=ZX x.l j hlt
    have hq2:Zi (x.l.take (j+1))=Zi (x.l.take j)+Zg x.l[j]∧Zi (x.l.take (j+1))≤Zi x.l:=⟨JC _ _ hlt,JB _ _⟩
    have hn2:n+Zg x.l[j]≤1099511627776:=by have:=HE.out;omega
    have HQ:=hid hq2
    clear g0 hq2
    go_wp2_with (go_at_call 113;refine (IH.out x.l[j] _ A mj om om (O.out.get j hlt) (by exact Zt8 az _ _ (Zl.1 gx))).mono ?_;rintro e w2 ⟨rfl,hb2⟩)
    have hbb:Below w.heap.size w w2:=hb.trans (hb2.mono om)
    go_roundg (gk - 1)
    case measure=>omega
    case rel=>exact ⟨j+1,n+Zg x.l[j],om,by go_num,by go_num,hid (by have:=HE.out;have:=HQ.out.1;omega),hn2,hbb,by have:=hb2.size;omega,(hb2.cell (by simp;omega)).trans hcell⟩
   have hjl:j=x.l.length:=om
   go_wp2_with fail
   go_ret
   exact ⟨Zf (by have:=HE.out;rw [hjl,List.take_length] at this;omega),hb⟩
set_option maxRecDepth 512
theorem K7:∀(l:List GV) (j:Nat) (h:j < l.length),YW (l.take (j+1))=max (YW (l.take j)) (Yx l[j])
 | x::l,0,_=>by simp [YW]
 | x::l,j+1,h=>by have:=K7 l j (by simpa using h);simp only [List.take_succ_cons,YW,List.getElem_cons_succ] at this ⊢;omega
theorem K6:∀(l:List GV) (j:Nat),YW (l.take j)≤YW l
 | [],j=>sm
 | x::l,0=>by simp [YW]
 | x::l,j+1=>by have:=K6 l j;simp only [List.take_succ_cons,YW];omega
theorem Za9:∀(l:List GV) (j:Nat) (h:j < l.length),Yx l[j]≤YW l
 | x::l,0,_=>by simp only [List.getElem_cons_zero,YW];omega
 | x::l,j+1,h=>by have:=Za9 l j (by simpa using h);simp only [YW,List.getElem_cons_succ] at this ⊢;omega
set_option maxRecDepth 100000
theorem Qz (N:Nat):∀(x:GV) (w:World) (A:Nat→Prop) (m:VA),Zg x≤N→Zg x≤1099511627776→okV x→RVs w A x.l m.a →
  Calls prog 201 #[VV x m] w fun e w'=>e=.returned (.int .i64 (Yx x))∧Below w.heap.size w w':=by
 induction N with
 | zero=>intro x;have:=Zr x;intros;omega
 | succ N ih=>
  rintro x w A ⟨ma,mc⟩ hN h40 ox hl
  have IH:=hid ih
  have HL:=hid hl
  obtain ⟨_,_,hlen,oa⟩:=ZA.1 ox
  have O:=hid oa
  have hse:=XZ x
  have hd1:=Vb x
  have hd2:=ZhX x
  have HD:=hid hd2
  clear ih hl ox oa hd2
  go_enter func201,ntmps201
  go_wp2_with fail
  go_loopg [3,4] (x.l.length) (fun gk t3 i wr=>∃(j n:Nat),gk+j=x.l.length∧i=.int .i64 j∧t3=.int .i64 n∧Hid (n=YW (x.l.take j))∧n≤1099511627775∧Below w.heap.size w wr∧w.heap.size < wr.heap.size∧wr.cell? ⟨w.heap.size,2,none⟩=some (.slice ma x.l.length mc))
  case atStart=>exact ⟨0,0,om,rfl,rfl,hid (by simp [YW]),om,ZtZ,sm,gs⟩
  case round=>
   obtain ⟨j,n,hj,rfl,rfl,HE,hn,hb,hz,hcell⟩:=hrel
   by_cases hlt:j < x.l.length
   ·obtain ⟨b,o,mj,rfl,hA,hbs,g0,gx⟩:=HL.out.get j hlt
    obtain ⟨k0,k1,k2⟩:=At3.1 (g0.ext (ZtY hb) (A:=fun _=>True) trivial)
    have hs1:b < wr.heap.size:=om
    have hq1:=ZX x.l j hlt
    have hq3:=K6 x.l (j+1)
    have hq4:=K7 x.l j hlt
    have hq5:Yx x.l[j]≤1099511627775:=by have:=Za9 x.l j hlt;have:=HD.out;omega
    have HQ:=hid hq4
    clear g0 hq4 hq3
    by_cases hmx:n < Yx x.l[j]
    all_goals
     go_wp2_with (go_at_call 201;refine (IH.out x.l[j] _ A mj om om (O.out.get j hlt) (by exact Zt8 az _ _ (Zl.1 gx))).mono ?_;rintro e w2 ⟨rfl,hb2⟩)
     have hbb:Below w.heap.size w w2:=hb.trans (hb2.mono om)
     go_roundg (gk - 1)
     case measure=>omega
     case rel=>exact ⟨j+1,max n (Yx x.l[j]),om,by go_num,by first|(rw [Nat.max_eq_right om];done)|(rw [Nat.max_eq_left om];done)|go_num,hid (by rw [HQ.out,HE.out]),om,hbb,by have:=hb2.size;omega,(hb2.cell (by simp;omega)).trans hcell⟩
   have hjl:j=x.l.length:=om
   go_wp2_with fail
   go_ret
   exact ⟨Zf (by have:=HE.out;rw [hjl,List.take_length] at this;have:=HD.out;omega),hb⟩
theorem X7 (x:GV) (w:World) (A:Nat→Prop) (m:VA) (ox:okV x) (h40:Zg x≤1099511627776) (hl:RVs w A x.l m.a):
  Calls prog 237 #[VV x m] w fun e w'=>e=.returned (.int .i64 (ZQ x))∧Below w.heap.size w w':=by
 obtain ⟨ma,mc⟩:=m
 have HL:=hid hl
 have OX:=hid ox
 have hF:ZQ x=if K3 x≠0 then K3 x else if 128 < (Yx x:Int) then 9 else if 4096 < (Zg x:Int) then 5 else 0:=by
  unfold ZQ;rw [←ZdJ]
 rw [hF]
 clear hl ox hF
 by_cases h1:K3 x=0
 case neg=>
  rw [if_pos h1]
  have h1':(K3 x==0)=false:=by simp [h1]
  clear h1
  go_enter func237,ntmps237
  go_wp2_with (go_at_call 273;refine (ZbO _ x _ A ⟨ma,mc⟩ (Nat.le_refl _) OX.out (by exact Zt8 az _ _ HL.out)).mono ?_;rintro e w1 ⟨rfl,hb⟩;have hB1:=hb;clear hb;obtain ⟨hc1,hf1⟩:=Za hB1)
  go_ret
  exact ⟨rfl,ZtZ⟩
 rw [if_neg (by simp [h1])]
 have h1':(K3 x==0)=true:=by simp [h1]
 generalize hF:(if 128 < (Yx x:Int) then (9:Int) else if 4096 < (Zg x:Int) then 5 else 0)=F
 have HF:=hid hF
 clear hF
 have HA:=hid h1
 clear h1 h1'
 go_enter func237,ntmps237
 go_wp2_with (first
  | (go_at_call 273;refine (ZbO _ x _ A ⟨ma,mc⟩ (Nat.le_refl _) OX.out (by exact Zt8 az _ _ HL.out)).mono ?_;rw [HA.out];rintro e w1 ⟨rfl,hb⟩;have hB1:=hb;clear hb;obtain ⟨hc1,hf1⟩:=Za hB1)
  | (go_at_call 201;refine (Qz _ x _ A ⟨ma,mc⟩ (Nat.le_refl _) h40 OX.out (by exact Zt8 az _ _ HL.out)).mono ?_;rintro e w2 ⟨rfl,hb⟩;have hB2:=Below.trans hB1 (Below.mono hb (Below.size hB1));clear hb;obtain ⟨hc2,hf2⟩:=Za hB2)
  | (go_at_call 113;refine (XQ _ x _ A ⟨ma,mc⟩ (Nat.le_refl _) h40 OX.out (by exact Zt8 az _ _ HL.out)).mono ?_;rintro e w3 ⟨rfl,hb⟩;have hB3:=Below.trans hB2 (Below.mono hb (Below.size hB2));clear hb;obtain ⟨hc3,hf3⟩:=Za hB3))
 all_goals go_ret
 all_goals refine ⟨Zf ?_,ZtX⟩
 all_goals rw [←HF.out]
 all_goals exact q40
end Go.Proofs.YtkdffbdnjfgpeaaGreat
