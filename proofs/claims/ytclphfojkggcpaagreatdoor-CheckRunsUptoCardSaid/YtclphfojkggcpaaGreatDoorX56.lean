/- Part 57. -/
import Derived.Deep.MidRow
import Derived.Deep.WholeRow
import Derived.Test.YtclphfojkggcpaaGreatDoorX2
import Derived.Test.YtclphfojkggcpaaGreatDoorX3
set_option linter.all false
namespace Go.Proofs.YtclphfojkggcpaaGreatDoor
open Go Go.RowKit
abbrev avL (x:GT) (m:TA) (p:GP) (q:PA):List Value:=[.int .u8 x.k,.int .u8 x.v.k,.int .i64 x.v.n,.slice m.va x.v.l.length m.vc,.slice m.vsa x.vs.length m.vsc,.int .i64 x.lo,.int .i64 x.hi,.slice m.wa x.w.length m.wc,
 .int .u8 x.p.k,.int .u8 x.p.v.k,.int .i64 x.p.v.n,.slice m.pva x.p.v.l.length m.pvc,.int .i64 x.p.n,.slice m.pa x.p.a.length m.pc,.slice m.a x.a.length m.c,.int .u8 p.k,.int .u8 p.v.k,.int .i64 p.v.n,.slice q.va p.v.l.length q.vc,.int .i64 p.n,.slice q.a p.a.length q.c]
theorem Znl {p:Prop} (h:p:=by simp only [At,Nat.add_assoc,Nat.reduceAdd,and_true,Nat.zero_add]):p:=h
theorem Zlk {w b c0 c1 c2 c3 c4 c5 c6 c7 c8 c9 ca cb cc cd ce cf cg ch ci cj ck}:At w b 0 [c0,c1,c2,c3,c4,c5,c6,c7,c8,c9,ca,cb,cc,cd,ce,cf,cg,ch,ci,cj,ck]↔w.cell? ⟨b,0,none⟩=some c0∧w.cell? ⟨b,1,none⟩=some c1∧w.cell? ⟨b,2,none⟩=some c2 ∧
  w.cell? ⟨b,3,none⟩=some c3∧w.cell? ⟨b,4,none⟩=some c4∧w.cell? ⟨b,5,none⟩=some c5∧w.cell? ⟨b,6,none⟩=some c6∧w.cell? ⟨b,7,none⟩=some c7∧w.cell? ⟨b,8,none⟩=some c8 ∧
  w.cell? ⟨b,9,none⟩=some c9∧w.cell? ⟨b,10,none⟩=some ca∧w.cell? ⟨b,11,none⟩=some cb∧w.cell? ⟨b,12,none⟩=some cc∧w.cell? ⟨b,13,none⟩=some cd∧w.cell? ⟨b,14,none⟩=some ce∧w.cell? ⟨b,15,none⟩=some cf ∧
  w.cell? ⟨b,16,none⟩=some cg∧w.cell? ⟨b,17,none⟩=some ch∧w.cell? ⟨b,18,none⟩=some ci∧w.cell? ⟨b,19,none⟩=some cj∧w.cell? ⟨b,20,none⟩=some ck:=by
 exact Znl
theorem Q9 {w b c0 c1 c2}:At w b 0 [c0,c1,c2]↔w.cell? ⟨b,0,none⟩=some c0∧w.cell? ⟨b,1,none⟩=some c1∧w.cell? ⟨b,2,none⟩=some c2:=by
 exact Znl
theorem Xb {w:World} {b:Nat}:∀{l:List Value} {o:Nat},At w b o l→∀j v,l[j]? =some v→w.cell? ⟨b,o+j,none⟩=some v
 | [],_,_,j,v,h=>by simp at h
 | x::l,o,h,0,v,e=>by simp at e;rw [←e];exact h.1
 | x::l,o,h,j+1,v,e=>by
  have:=Xb h.2 j v (by simpa using e)
  rwa [show o+1+j=o+(j+1) by omega] at this
theorem JG {F:Fence} {n:Nat} {P:Program} {ops:Array Oper} {rest:List Oper} {op:Oper} {a:Act} {w:World} {Q:Exit→Act→World→Prop} (l:Nat) (hgd:op.guard=none) (hro:F.round=some l) (hfn:∀f,F.fn f) (ty:TypeId) (x:Operand) (ho:op.op=.load ty x)
  (b o:Nat) (hx:a.eval x=.pointer (some ⟨b,o,none⟩)) (cs:List Value) (d:TypeDesc) (hc:w.rangeAt b o cs) (hu:P.underlying ty=some d) (hd:d.isRow=true) (hi:(P.info? ty).map (·.size)=some cs.length)
  (h:wpListIn F n P ops Q rest (a.put op.dst (.agg cs.toArray)) w):wpListIn F n P ops Q (op::rest) a w:=
 wpListIn_plain hgd fun K hK=>⟨fun f _=>hfn f,by
  rw [hro,Oper.semAt_some _ _ _ (fun c e=>by rw [ho] at e;cases e)]
  have:(execOp a.eval op).run P w=.ok (.value (.agg cs.toArray)) w:=by
   unfold execOp
   simp only [ho,hx,Instr.loadAt,Instr.sureAddr,Sem.run_bind,Sem.run_pure,Result.andThen_ok,run_loadVar_mid w b o ty cs d hc hu hd hi]
  rw [this,Oper.uponIn_value]
  exact hK _ _ h⟩
theorem Y6 {P:Program} {ops:Array Oper} {rest:List Oper} {op:Oper} {a:Act} {w:World} {Q:Exit→Act→World→Prop} (hgd:op.guard=none) (ty:TypeId) (x y:Operand) (ho:op.op=.store ty x y)
  (c c':Array Value) (hx:a.eval x=.pointer (some ⟨w.heap.size,0,none⟩)) (hy:a.eval y=.agg c') (hi:(P.info? ty).map (·.size)=some c'.size) (hs:c.size=c'.size) (h1:c'.all (·.oneCell')=true)
  (h:wpList P ops Q rest (a.put op.dst undef) (w.alloc (.cells c' ty))):wpList P ops Q (op::rest) a (w.alloc (.cells c ty)):=
 wpList_plain hgd fun _ hK=>by
  unfold Oper.wp execOp
  simp only [ho,hx,hy,Instr.storeAt,Instr.sureAddr,Sem.run_bind,Sem.run_pure,Result.andThen_ok,run_storeVar_new w ty c c' hi hs h1]
  exact hK _ _ h
theorem WY {P:Program} {ops:Array Oper} {rest:List Oper} {op:Oper} {a:Act} {w:World} {Q:Exit→Act→World→Prop} {ty:TypeId} {parts:Array (Nat×Operand)} {ps:Array (Nat×Value)} {v:Value} (hg:op.guard=none) (ho:op.op=.build ty parts)
  (hb:∀w,(Instr.build ty ps).run P w=.ok v w) (hp:(parts.map fun (i,x)=>(i,a.eval x))=ps) (h:wpList P ops Q rest (a.put op.dst v) w):wpList P ops Q (op::rest) a w:=
 wpList_plain hg fun _ hK=>by
  unfold Oper.wp execOp
  simp only [ho,Sem.run_bind,hp,hb,Result.andThen_ok]
  exact hK _ _ h
def ZjT (D:Nat):Deferred:={ target:=.collected D,args:=#[] }
theorem ZgD {W:World} {D:Nat} {o:Obj} (o':Obj) (h:W.heap[D]? =some o) (ho:o.isCells=false):Agree (fun _=>True) W (W.putObj D o'):=fun _ _ _ hc=>
 ⟨cell_kept hc (grownBy_putObj' W D o') (fun r e=>by cases e;exact ⟨_,h,ho⟩),frozen_kept hc (grownBy_putObj' W D o') (fun r e=>by cases e;exact ⟨_,h,ho⟩)⟩
theorem ZgE {W:World} {D B:Nat} {o:Obj} (o':Obj) (h:W.heap[D]? =some o) (hB:B≤D):Below B W (W.putObj D o'):=
 (Below.refl B W).grown (grownBy_putObj' W D o') (by have:=(Array.getElem?_eq_some_iff.1 h).1;omega) (fun k e=>by cases e;omega)
theorem UV {F:Fence} {n:Nat} {P:Program} {fn:Func} {tmps:Array Value} {R:Ending→World→Prop} (B:Nat):∀(Ds:List Nat) (W:World),Ds.Nodup→(∀D∈Ds,B≤D∧W.heap[D]? =some (.deferred (some []))) →
  (∀W',Below B W W'→Agree (fun _=>True) W W'→LeavesIn F n P fn tmps R [] .returning W')→LeavesInM F n P fn tmps R (Ds.map ZjT) .returning W
 | [],W,_,_,h=>h W (Below.refl _ _) (Agree.refl _ _)
 | D::Ds,W,hn,hK,h=>by
  obtain ⟨hB,hk⟩:=hK D sm
  obtain ⟨hn1,hn2⟩:=List.nodup_cons.1 hn
  refine ⟨sm,.inl ⟨D,_,rfl,run_takeDeferred hk,?_⟩⟩
  refine UV B Ds _ hn2 (fun D' h'=>?_) (fun W' hb ha=>h W' ((ZgE _ hk hB).trans hb) ((ZgD _ hk rfl).trans ha))
  obtain ⟨h1,h2⟩:=hK D' (by simp [h'])
  exact ⟨h1,(World.putObj_heap_other (fun e=>hn1 (by first|(rw [e];exact h')|(rw [←e];exact h')))).trans h2⟩
structure SMem (w:World) (A:Nat→Prop) (L:List Value) (k:Nat) (s:ByteArray) (y:GV) (my:VA) (Ds:List Nat) (W:World):Prop where
 bw:Below w.heap.size w W
 sz:w.heap.size+5≤W.heap.size
 a:At W w.heap.size 0 L
 c1:W.cell? ⟨w.heap.size+1,0,none⟩=some (.string s)
 f1:W.frozen? ⟨w.heap.size+1,0,none⟩=false
 c20:W.cell? ⟨w.heap.size+2,0,none⟩=some (.int .u8 y.k)
 c21:W.cell? ⟨w.heap.size+2,1,none⟩=some (.int .i64 y.n)
 c22:W.cell? ⟨w.heap.size+2,2,none⟩=some (.slice my.a y.l.length my.c)
 f20:W.frozen? ⟨w.heap.size+2,0,none⟩=false
 f21:W.frozen? ⟨w.heap.size+2,1,none⟩=false
 f22:W.frozen? ⟨w.heap.size+2,2,none⟩=false
 c30:W.cell? ⟨w.heap.size+3,0,none⟩=some (.int .u8 0)
 c31:W.cell? ⟨w.heap.size+3,1,none⟩=some (.int .i64 0)
 c32:W.cell? ⟨w.heap.size+3,2,none⟩=some (.slice none 0 0)
 f30:W.frozen? ⟨w.heap.size+3,0,none⟩=false
 f31:W.frozen? ⟨w.heap.size+3,1,none⟩=false
 f32:W.frozen? ⟨w.heap.size+3,2,none⟩=false
 c4:W.cell? ⟨w.heap.size+4,0,none⟩=some (.int .i64 k)
 f4:W.frozen? ⟨w.heap.size+4,0,none⟩=false
 rv:RV W (fun b=>(A b∧b < w.heap.size)∨w.heap.size+5≤b) y my.a
 nd:Ds.Nodup
 ds:∀D∈Ds,w.heap.size+5≤D∧W.heap[D]? =some (.deferred (some []))
theorem SMem.step {w:World} {A:Nat→Prop} {L:List Value} {k:Nat} {s:ByteArray} {y:GV} {my:VA} {Ds:List Nat} {W W':World} (h:SMem w A L k s y my Ds W)
  (bw:Below w.heap.size w W') (sz:W.heap.size≤W'.heap.size) (ag:Agree (fun _=>True) W W') (fz:∀p v,W.cell? p=some v→W'.frozen? p=W.frozen? p) (hd:∀D∈Ds,W'.heap[D]? =W.heap[D]?):SMem w A L k s y my Ds W' where
 bw:=bw
 sz:=Nat.le_trans h.sz sz
 a:=ZmS ag trivial _ _ h.a
 c1:=(ag _ _ trivial h.c1).1
 f1:=(fz _ _ h.c1).trans h.f1
 c20:=(ag _ _ trivial h.c20).1
 c21:=(ag _ _ trivial h.c21).1
 c22:=(ag _ _ trivial h.c22).1
 f20:=(fz _ _ h.c20).trans h.f20
 f21:=(fz _ _ h.c21).trans h.f21
 f22:=(fz _ _ h.c22).trans h.f22
 c30:=(ag _ _ trivial h.c30).1
 c31:=(ag _ _ trivial h.c31).1
 c32:=(ag _ _ trivial h.c32).1
 f30:=(fz _ _ h.c30).trans h.f30
 f31:=(fz _ _ h.c31).trans h.f31
 f32:=(fz _ _ h.c32).trans h.f32
 c4:=(ag _ _ trivial h.c4).1
 f4:=(fz _ _ h.c4).trans h.f4
 rv:=ZmG (fun p v _ hc=>ag p v trivial hc) _ _ h.rv
 nd:=h.nd
 ds:=fun D hD=>⟨(h.ds D hD).1,(hd D hD).trans (h.ds D hD).2⟩
theorem SMem.below {w:World} {A:Nat→Prop} {L:List Value} {k:Nat} {s:ByteArray} {y:GV} {my:VA} {Ds:List Nat} {W W':World} (h:SMem w A L k s y my Ds W) (hb:Below W.heap.size W W'):SMem w A L k s y my Ds W':=
 h.step (h.bw.trans (hb.mono (by have:=h.sz;omega))) hb.size (ZlH hb) (fun _ _ hc=>hb.frozen (World.block_lt_of_cell? _ _ hc)) (fun D hD=>hb.block D (Array.getElem?_eq_some_iff.1 (h.ds D hD).2).1)
theorem SMem.own {w:World} {A:Nat→Prop} {L:List Value} {k:Nat} {s:ByteArray} {y:GV} {my:VA} {Ds:List Nat} {W W':World} {row:Option Nat} {B:Nat} (h:SMem w A L k s y my Ds W) (hg:W.grownBy W' row)
  (hr:∀r,row=some r→B≤r∧∃o:Obj,W.heap[r]? =some o∧o.isCells=false) (hB:w.heap.size+5≤B) (hD:∀D∈Ds,D < B):SMem w A L k s y my Ds W':=
 have hr2:=fun r e=>(hr r e).2
 h.step (h.bw.grown hg (by have:=h.sz;omega) (fun k e=>by have:=(hr k e).1;omega)) hg.size (fun _ _ _ hc=>⟨cell_kept hc hg hr2,frozen_kept hc hg hr2⟩) (fun _ _ hc=>frozen_kept hc hg hr2)
  (fun D hm=>hg.block D (Array.getElem?_eq_some_iff.1 (h.ds D hm).2).1 (fun e=>by have:=(hr D e.symm).1;have:=hD D hm;omega))
theorem SMem.mark {w:World} {A:Nat→Prop} {L:List Value} {k:Nat} {s:ByteArray} {y:GV} {my:VA} {Ds:List Nat} {W:World} (h:SMem w A L k s y my Ds W) {D B:Nat} (hK:W.heap[D]? =some (.deferred (some []))) (hD:B≤D) (hB:w.heap.size+5≤B) (hlt:∀D'∈Ds,D' < B):
  SMem w A L k s y my (D::Ds) W:={ h with
 nd:=List.nodup_cons.2 ⟨fun hm=>by have:=hlt D hm;omega,h.nd⟩
 ds:=fun D' hm=>by
  rcases List.mem_cons.1 hm with rfl|hm
  ·exact ⟨om,hK⟩
  exact h.ds D' hm }
theorem SMem.store {w:World} {A:Nat→Prop} {L:List Value} {k:Nat} {s:ByteArray} {y:GV} {my:VA} {Ds:List Nat} {W:World} (h:SMem w A L k s y my Ds W) (s':ByteArray) (y':GV) (my':VA) (hrv:RV W (fun b=>w.heap.size+5≤b) y' my'.a):
  SMem w A L (k+1) s' y' my' Ds (((((W.setCell ⟨w.heap.size+1,0,none⟩ (.string s')).setCell ⟨w.heap.size+2,0,none⟩ (.int .u8 y'.k)).setCell ⟨w.heap.size+2,1,none⟩ (.int .i64 y'.n)).setCell ⟨w.heap.size+2,2,none⟩ (.slice my'.a y'.l.length my'.c)).setCell ⟨w.heap.size+4,0,none⟩ (.int .i64 ((k:Int)+1))):=by
 obtain ⟨bw,sz,a,c1,f1,c20,c21,c22,f20,f21,f22,c30,c31,c32,f30,f31,f32,c4,f4,rv,nd,ds⟩:=h
 have ag:Agree (fun b=>b=w.heap.size∨w.heap.size+5≤b) W (((((W.setCell ⟨w.heap.size+1,0,none⟩ (.string s')).setCell ⟨w.heap.size+2,0,none⟩ (.int .u8 y'.k)).setCell ⟨w.heap.size+2,1,none⟩ (.int .i64 y'.n)).setCell ⟨w.heap.size+2,2,none⟩ (.slice my'.a y'.l.length my'.c)).setCell ⟨w.heap.size+4,0,none⟩ (.int .i64 ((k:Int)+1))):=
  ((((ZmA (by simp;try omega)).trans (ZmA (by simp;try omega))).trans (ZmA (by simp;try omega))).trans (ZmA (by simp;try omega))).trans (ZmA (by simp;try omega))
 refine ⟨?_,by simpa using sz,ZmS ag (Or.inl rfl) _ _ a,gs,gs,gs,gs,gs,gs,gs,gs,gs,gs,gs,gs,gs,gs,gs,gs,?_,nd,fun D hD=>⟨(ds D hD).1,?_⟩⟩
 ·exact ((((bw.setCell sm _).setCell sm _).setCell sm _).setCell sm _).setCell sm _
 ·exact ZmO (fun b hb _=>Or.inr hb) _ _ (ZmG (fun p v hA hc=>ag p v (Or.inr hA) hc) _ _ hrv)
 have h1:=(ds D hD).1
 rw [Below.heap_setCell _ _ _ D (by simp;omega),Below.heap_setCell _ _ _ D (by simp;omega),Below.heap_setCell _ _ _ D (by simp;omega),Below.heap_setCell _ _ _ D (by simp;omega),Below.heap_setCell _ _ _ D (by simp;omega)]
 exact (ds D hD).2
theorem ZV {op:Oper} (h:op.guard=none) (f:Nat→Option Bool):Region.wanted op f=true:=by
 unfold Region.wanted
 rw [h]
theorem ZdG {P:Program} {ops:Array Oper} {S:World→Prop} {op:Oper} {a:Act} {t:TypeId} {parts:Array (Nat×Operand)} {ps:Array (Nat×Value)} {v:Value} (hg:op.guard=none) (ho:op.op=.build t parts)
  (hb:∀w,(Instr.build t ps).run P w=.ok v w) (hp:(parts.map fun (i,x)=>(i,a.eval x))=ps):YieldsIf P ops S op v a:=
 .inl ⟨ZV hg _,fun w _=>by
  unfold execOp
  simp only [ho,Sem.run_bind,hp,hb,Result.andThen_ok,Sem.run_pure]⟩
theorem Us {P:Program} {ops:Array Oper} {S:World→Prop} {op:Oper} {a:Act} {t:TypeId} {parts:Array (Nat×Operand)} {ps:Array (Nat×Value)} {v:Value} (hw:Region.wanted op (yielded ops a.tmps)=true) (ho:op.op=.build t parts)
  (hb:∀w,(Instr.build t ps).run P w=.ok v w) (hp:(parts.map fun (i,x)=>(i,a.eval x))=ps):YieldsIf P ops S op v a:=
 .inl ⟨hw,fun w _=>by
  unfold execOp
  simp only [ho,Sem.run_bind,hp,hb,Result.andThen_ok,Sem.run_pure]⟩
theorem ZaI {P:Program} (w:World) (b o:Nat) (ty:TypeId) (v:Value) (ht:w.there b o v.cells.size) (hi:(P.info? ty).map (·.size)=some v.cells.size) (h1:v.cells.all (·.oneCell')=true):
  (storeVar ty ⟨b,o,none⟩ v).run P w=.ok () (w.setCells b o v.cells.toList):=by
 have:=run_storeCells_cells (P:=P) b o v.cells.toList 0 w (fun j hj=>by simpa using (ht j (by simpa using hj)).1) (fun j hj=>by simpa using (ht j (by simpa using hj)).2)
  (fun u hv=>(Array.all_eq_true_iff_forall_mem.1 h1) u (by simpa using hv))
 cases hq:P.info? ty with
 | none=>simp [hq] at hi
 | some i=>
  have hs:v.cells.size=i.size:=by simp [hq] at hi;omega
  simp only [Nat.add_zero] at this
  simp [storeVar,sizeOf,typeInfo,hq,hs,this]
theorem QK {P:Program} {op:Oper} {a:Act} {w:World} {K:Act→World→Prop} {Q:Exit→Act→World→Prop} (ty:TypeId) (x y:Operand) (ho:op.op=.store ty x y)
  (b o:Nat) (v:Value) (vs:List Value) (hv:v.cells=vs.toArray) (hx:a.eval x=.pointer (some ⟨b,o,none⟩)) (hy:a.eval y=v)
  (ht:w.there b o vs.length) (hi:(P.info? ty).map (·.size)=some vs.length) (h1:vs.all (·.oneCell')=true)
  (h:K (a.put op.dst undef) (w.setCells b o vs)):op.wp P a w K Q:=by
 have e:=ZaI (P:=P) w b o ty v (by rw [hv];simpa using ht) (by rw [hv];simpa using hi) (by rw [hv];simpa using h1)
 rw [hv] at e
 unfold Oper.wp execOp
 simp only [ho,hx,hy,Instr.storeAt,Instr.sureAddr,Sem.run_bind,Sem.run_pure,Result.andThen_ok,e]
 exact h
theorem ZeO {w b c0 c1 c2 c3 c4 c5 c6}:At w b 0 [c0,c1,c2,c3,c4,c5,c6]↔w.cell? ⟨b,0,none⟩=some c0∧w.cell? ⟨b,1,none⟩=some c1∧w.cell? ⟨b,2,none⟩=some c2 ∧
  w.cell? ⟨b,3,none⟩=some c3∧w.cell? ⟨b,4,none⟩=some c4∧w.cell? ⟨b,5,none⟩=some c5∧w.cell? ⟨b,6,none⟩=some c6:=by
 exact Znl
theorem ZiK {w:World} {b:Nat} {c0 c1 c2 c3 c4 c5 c6:Value} (h:At w b 0 [c0,c1,c2,c3,c4,c5,c6]) (q0:w.frozen? ⟨b,0,none⟩=false) (q1:w.frozen? ⟨b,1,none⟩=false) (q2:w.frozen? ⟨b,2,none⟩=false) (q3:w.frozen? ⟨b,3,none⟩=false)
  (q4:w.frozen? ⟨b,4,none⟩=false) (q5:w.frozen? ⟨b,5,none⟩=false) (q6:w.frozen? ⟨b,6,none⟩=false):w.there b 0 7:=fun j hj=>by
 obtain ⟨h0,h1,h2,h3,h4,h5,h6⟩:=ZeO.1 h
 rw [Nat.zero_add]
 rcases (show j=0∨j=1∨j=2∨j=3∨j=4∨j=5∨j=6 by omega) with rfl|rfl|rfl|rfl|rfl|rfl|rfl
 ·exact ⟨by rw [h0];rfl,q0⟩
 ·exact ⟨by rw [h1];rfl,q1⟩
 ·exact ⟨by rw [h2];rfl,q2⟩
 ·exact ⟨by rw [h3];rfl,q3⟩
 ·exact ⟨by rw [h4];rfl,q4⟩
 ·exact ⟨by rw [h5];rfl,q5⟩
 exact ⟨by rw [h6];rfl,q6⟩
theorem KM {w:World} {b n:Nat} (h:w.there b 0 n) (o m:Nat) (hm:o+m≤n):w.there b o m:=fun j hj=>by
 have:=h (o+j) om
 rwa [Nat.zero_add] at this
theorem QG {w:World} {b o n:Nat} (h:w.there b o n):w.drew.there b o n:=(World.there_drew w b o n).2 h
theorem U9 {w w':World} {b n:Nat} (h:w.there b 0 n) (hb:Below w.heap.size w w'):w'.there b 0 n:=fun j hj=>by
 obtain ⟨h1,h2⟩:=h j hj
 obtain ⟨v,hv⟩:=Option.isSome_iff_exists.1 h1
 have hlt:=World.block_lt_of_cell? _ _ hv
 exact ⟨by rw [hb.cell hlt];exact h1,by rw [hb.frozen (p:=⟨b,0+j,none⟩) hlt];exact h2⟩
theorem Zf5 {w:World} {cs:Array Value} {T:TypeId} {b n:Nat} (hb:b=w.heap.size) (hn:n≤cs.size):(w.alloc (.cells cs T)).there b 0 n:=fun j hj=>by
 subst hb
 have h0:(w.alloc (.cells cs T)).heap[w.heap.size]? =some (.cells cs T (0,0)):=heap_alloc_last w _
 constructor
 ·rw [cell_of_row _ _ (0+j) cs T (0,0) h0]
  rw [Nat.zero_add,Array.getElem?_eq_getElem om]
  rfl
 unfold World.frozen?
 rw [h0]
 simp
theorem Zf6 {w:World} {o:Obj} {b n:Nat} (h:w.there b 0 n):(w.alloc o).there b 0 n:=World.there_alloc h o
theorem thz {p:Prop} (h:p:=by repeat (first|exact Zf5 (by first|(simp;done)|rfl) sm|with_reducible refine Zf6 ?_|with_reducible refine QG ?_|with_reducible refine U9 ?_ (by with_reducible assumption))):p:=h
theorem Uh {w0 W:World} (h:Below w0.heap.size w0 W):∀c k,c < w0.heap.size→W.cell? ⟨c,k,none⟩=w0.cell? ⟨c,k,none⟩:=fun c k hc=>h.cell (p:=⟨c,k,none⟩) hc
theorem Yd {w0 W:World} {b:Nat} (hb:b < w0.heap.size) (h:Below w0.heap.size w0 W):∀k,W.cell? ⟨b,k,none⟩=w0.cell? ⟨b,k,none⟩:=fun k=>h.cell (p:=⟨b,k,none⟩) hb
theorem JZ {w:World} {b o:Nat} {cs vs:List Value} (h:w.rangeAt b 0 cs) (ht:w.there b 0 cs.length) (hl:o+vs.length≤cs.length):(w.setCells b o vs).rangeAt b 0 (cs.take o++(vs++cs.drop (o+vs.length))):=fun j v hv=>by
 have ho:(cs.take o).length=o:=by rw [List.length_take];omega
 rw [Nat.zero_add]
 rcases Nat.lt_or_ge j o with h1|h1
 ·rw [List.getElem?_append_left om,List.getElem?_take_of_lt h1] at hv
  rw [World.cell?_setCells_out b vs o w ⟨b,j,none⟩ (fun _ _=>.inl h1)]
  simpa using h j v hv
 rw [List.getElem?_append_right om,ho] at hv
 rcases Nat.lt_or_ge j (o+vs.length) with h2|h2
 ·rw [List.getElem?_append_left om] at hv
  have:=World.cell?_setCells_in b vs o w (fun i hi=>by have:=(ht (o+i) om).1;simpa using this) (j - o) om
  rw [show o+(j - o)=j by omega] at this
  rw [this,←hv,List.getElem?_eq_getElem om]
 rw [List.getElem?_append_right om,List.getElem?_drop] at hv
 rw [World.cell?_setCells_out b vs o w ⟨b,j,none⟩ (fun _ _=>.inr h2)]
 have:=h j v (by rw [←hv];congr 1;omega)
 simpa using this
theorem Zdu {w w':World} {b o:Nat} {cs:List Value} (h:w.rangeAt b o cs) (hb:Below w.heap.size w w'):w'.rangeAt b o cs:=fun j v hv=>by
 have:=h j v hv
 rw [hb.cell (World.block_lt_of_cell? _ _ this)];exact this
theorem XH {A:Nat→Prop} {w:World} {b o:Nat} {vs:List Value} (h:¬A b):Agree A w (w.setCells b o vs):=fun q u hA hc=>by
 exact ⟨by rw [World.cell?_setCells_out b vs o w q (fun hb _=>absurd (hb ▸ hA) h)];exact hc,World.frozen?_setCells b vs o w q⟩
theorem ZL {B:Nat} {a:World} {c:Nat} (hc:B≤c):∀{vs:List Value} {o:Nat} {w:World},Below B a w→Below B a (w.setCells c o vs)
 | [],_,_,h=>h
 | v::r,o,w,h=>by rw [World.setCells];exact ZL hc (vs:=r) (o:=o+1) (h.setCell (p:=⟨c,o,none⟩) hc v)
theorem YI {c:Nat}:∀{vs:List Value} {o:Nat} {w:World},(w.setCells c o vs).heap.size=w.heap.size
 | [],_,_=>rfl
 | v::r,o,w=>by rw [World.setCells,YI];simp
theorem Yt {w:World} {b c o k:Nat} {vs:List Value} (h:c≠b):(w.setCells b o vs).cell? ⟨c,k,none⟩=w.cell? ⟨c,k,none⟩:=
 World.cell?_setCells_out b vs o w ⟨c,k,none⟩ (fun e _=>absurd e h)
theorem XG {w:World} {c:Nat} {vs:List Value} (h:w.there c 0 vs.length):At (w.setCells c 0 vs) c 0 vs:=
 ZeP vs 0 fun j v hj=>World.rangeAt_setCells_same w c 0 vs h j v hj
theorem ZfQ {w:World} {b:Nat} {c0 c1 c2 c3 c4 c5 c6 u0 u1 u2 u3 u4:Value} (h:w.rangeAt b 0 [c0,c1,c2,c3,c4,c5,c6]) (ht:w.there b 0 7):
  (((w.setCells b 3 [u0]).setCells b 4 [u1,u2,u3]).setCells b 2 [u4]).rangeAt b 0 [c0,c1,u4,u0,u1,u2,u3]:=
 JZ (o:=2) (vs:=[u4]) (JZ (o:=4) (vs:=[u1,u2,u3]) (JZ (o:=3) (vs:=[u0]) h ht sm) (World.there_setCells ht _ _ _) sm) (World.there_setCells (World.there_setCells ht _ _ _) _ _ _) sm
theorem KL {K:Act→World→Prop} {Q:Exit→Act→World→Prop} {e:Exit} {a:Act} {W:World} (F:World→Prop) (hF:F W) (h:∀W1,F W1→Exit.then K Q e a W1):Exit.then K Q e a W:=h W hF
theorem Zfn {P:Program} {fn:Func} {R:Ending→World→Prop} {e:Exit} {a:Act} {W:World} (F:World→Prop) (hF:F W) (h:∀W1,F W1→bodyPost P fn R e a W1):bodyPost P fn R e a W:=h W hF
end Go.Proofs.YtclphfojkggcpaaGreatDoor
