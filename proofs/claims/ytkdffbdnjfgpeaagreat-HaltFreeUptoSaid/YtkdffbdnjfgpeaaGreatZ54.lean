/- Part 55. -/
import Derived.Deep.MidRow
import Derived.Deep.WholeRow
import Derived.Test.YtkdffbdnjfgpeaaGreatZ4
import Derived.Test.YtkdffbdnjfgpeaaGreatZ11
set_option linter.all false
namespace Go.Proofs.YtkdffbdnjfgpeaaGreat
open Go Go.RowKit
theorem Xb {w:World} {b:Nat}:∀{l:List Value} {o:Nat},At w b o l→∀j v,l[j]? =some v→w.cell? ⟨b,o+j,none⟩=some v
 | [],_,_,j,v,h=>by simp at h
 | x::l,o,h,0,v,e=>by simp at e;rw [←e];exact h.1
 | x::l,o,h,j+1,v,e=>by
  have:=Xb h.2 j v (by simpa using e)
  rwa [show o+1+j=o+(j+1) by omega] at this
structure SMem (w:World) (A:Nat→Prop) (L:List Value) (k:Nat) (s:ByteArray) (y:GV) (my:VA) (Ds:List Nat) (W:World):Prop where
 bw:Below w.heap.size w W
 sz:w.heap.size+5≤W.heap.size
 a:At W w.heap.size 0 L
 c1:W.cell? ⟨w.heap.size+1,0,none⟩=some (.string s)
 f1:W.frozen? ⟨w.heap.size+1,0,none⟩=false
 c20:W.cell? ⟨w.heap.size+2,0,none⟩=some (.int .u8 y.k)
 c21:W.cell? ⟨w.heap.size+2,1,none⟩=some (.int .i64 y.n)
 c22:W.cell? ⟨w.heap.size+2,2,none⟩=some (.slice my.a y.l.length my.c)
 f20:W.frozen? ⟨w.heap.size+2,0,none⟩=false
 f21:W.frozen? ⟨w.heap.size+2,1,none⟩=false
 f22:W.frozen? ⟨w.heap.size+2,2,none⟩=false
 c30:W.cell? ⟨w.heap.size+3,0,none⟩=some (.int .u8 0)
 c31:W.cell? ⟨w.heap.size+3,1,none⟩=some (.int .i64 0)
 c32:W.cell? ⟨w.heap.size+3,2,none⟩=some (.slice none 0 0)
 f30:W.frozen? ⟨w.heap.size+3,0,none⟩=false
 f31:W.frozen? ⟨w.heap.size+3,1,none⟩=false
 f32:W.frozen? ⟨w.heap.size+3,2,none⟩=false
 c4:W.cell? ⟨w.heap.size+4,0,none⟩=some (.int .i64 k)
 f4:W.frozen? ⟨w.heap.size+4,0,none⟩=false
 rv:RV W (fun b=>(A b∧b < w.heap.size)∨w.heap.size+5≤b) y my.a
 nd:Ds.Nodup
 ds:∀D∈Ds,w.heap.size+5≤D∧W.heap[D]? =some (.deferred (some []))
theorem SMem.step {w:World} {A:Nat→Prop} {L:List Value} {k:Nat} {s:ByteArray} {y:GV} {my:VA} {Ds:List Nat} {W W':World} (h:SMem w A L k s y my Ds W)
  (bw:Below w.heap.size w W') (sz:W.heap.size≤W'.heap.size) (ag:Agree (fun _=>True) W W') (fz:∀p v,W.cell? p=some v→W'.frozen? p=W.frozen? p) (hd:∀D∈Ds,W'.heap[D]? =W.heap[D]?):SMem w A L k s y my Ds W' where
 bw:=bw
 sz:=Nat.le_trans h.sz sz
 a:=Zuf ag trivial _ _ h.a
 c1:=(ag _ _ trivial h.c1).1
 f1:=(fz _ _ h.c1).trans h.f1
 c20:=(ag _ _ trivial h.c20).1
 c21:=(ag _ _ trivial h.c21).1
 c22:=(ag _ _ trivial h.c22).1
 f20:=(fz _ _ h.c20).trans h.f20
 f21:=(fz _ _ h.c21).trans h.f21
 f22:=(fz _ _ h.c22).trans h.f22
 c30:=(ag _ _ trivial h.c30).1
 c31:=(ag _ _ trivial h.c31).1
 c32:=(ag _ _ trivial h.c32).1
 f30:=(fz _ _ h.c30).trans h.f30
 f31:=(fz _ _ h.c31).trans h.f31
 f32:=(fz _ _ h.c32).trans h.f32
 c4:=(ag _ _ trivial h.c4).1
 f4:=(fz _ _ h.c4).trans h.f4
 rv:=Zt5 (fun p v _ hc=>ag p v trivial hc) _ _ h.rv
 nd:=h.nd
 ds:=fun D hD=>⟨(h.ds D hD).1,(hd D hD).trans (h.ds D hD).2⟩
theorem SMem.below {w:World} {A:Nat→Prop} {L:List Value} {k:Nat} {s:ByteArray} {y:GV} {my:VA} {Ds:List Nat} {W W':World} (h:SMem w A L k s y my Ds W) (hb:Below W.heap.size W W'):SMem w A L k s y my Ds W':=
 h.step (h.bw.trans (hb.mono (by have:=h.sz;omega))) hb.size (ZtY hb) (fun _ _ hc=>hb.frozen (World.block_lt_of_cell? _ _ hc)) (fun D hD=>hb.block D (Array.getElem?_eq_some_iff.1 (h.ds D hD).2).1)
theorem SMem.own {w:World} {A:Nat→Prop} {L:List Value} {k:Nat} {s:ByteArray} {y:GV} {my:VA} {Ds:List Nat} {W W':World} {row:Option Nat} {B:Nat} (h:SMem w A L k s y my Ds W) (hg:W.grownBy W' row)
  (hr:∀r,row=some r→B≤r∧∃o:Obj,W.heap[r]? =some o∧o.isCells=false) (hB:w.heap.size+5≤B) (hD:∀D∈Ds,D < B):SMem w A L k s y my Ds W':=
 have hr2:=fun r e=>(hr r e).2
 h.step (h.bw.grown hg (by have:=h.sz;omega) (fun k e=>by have:=(hr k e).1;omega)) hg.size (fun _ _ _ hc=>⟨cell_kept hc hg hr2,frozen_kept hc hg hr2⟩) (fun _ _ hc=>frozen_kept hc hg hr2)
  (fun D hm=>hg.block D (Array.getElem?_eq_some_iff.1 (h.ds D hm).2).1 (fun e=>by have:=(hr D e.symm).1;have:=hD D hm;omega))
theorem SMem.store {w:World} {A:Nat→Prop} {L:List Value} {k:Nat} {s:ByteArray} {y:GV} {my:VA} {Ds:List Nat} {W:World} (h:SMem w A L k s y my Ds W) (s':ByteArray) (y':GV) (my':VA) (hrv:RV W (fun b=>w.heap.size+5≤b) y' my'.a):
  SMem w A L (k+1) s' y' my' Ds (((((W.setCell ⟨w.heap.size+1,0,none⟩ (.string s')).setCell ⟨w.heap.size+2,0,none⟩ (.int .u8 y'.k)).setCell ⟨w.heap.size+2,1,none⟩ (.int .i64 y'.n)).setCell ⟨w.heap.size+2,2,none⟩ (.slice my'.a y'.l.length my'.c)).setCell ⟨w.heap.size+4,0,none⟩ (.int .i64 ((k:Int)+1))):=by
 obtain ⟨bw,sz,a,c1,f1,c20,c21,c22,f20,f21,f22,c30,c31,c32,f30,f31,f32,c4,f4,rv,nd,ds⟩:=h
 have ag:Agree (fun b=>b=w.heap.size∨w.heap.size+5≤b) W (((((W.setCell ⟨w.heap.size+1,0,none⟩ (.string s')).setCell ⟨w.heap.size+2,0,none⟩ (.int .u8 y'.k)).setCell ⟨w.heap.size+2,1,none⟩ (.int .i64 y'.n)).setCell ⟨w.heap.size+2,2,none⟩ (.slice my'.a y'.l.length my'.c)).setCell ⟨w.heap.size+4,0,none⟩ (.int .i64 ((k:Int)+1))):=
  ((((Zt4 (by simp;try omega)).trans (Zt4 (by simp;try omega))).trans (Zt4 (by simp;try omega))).trans (Zt4 (by simp;try omega))).trans (Zt4 (by simp;try omega))
 refine ⟨?_,by simpa using sz,Zuf ag (Or.inl rfl) _ _ a,gs,gs,gs,gs,gs,gs,gs,gs,gs,gs,gs,gs,gs,gs,gs,gs,?_,nd,fun D hD=>⟨(ds D hD).1,?_⟩⟩
 ·exact ((((bw.setCell sm _).setCell sm _).setCell sm _).setCell sm _).setCell sm _
 ·exact Zt9 (fun b hb _=>Or.inr hb) _ _ (Zt5 (fun p v hA hc=>ag p v (Or.inr hA) hc) _ _ hrv)
 have h1:=(ds D hD).1
 rw [Below.heap_setCell _ _ _ D (by simp;omega),Below.heap_setCell _ _ _ D (by simp;omega),Below.heap_setCell _ _ _ D (by simp;omega),Below.heap_setCell _ _ _ D (by simp;omega),Below.heap_setCell _ _ _ D (by simp;omega)]
 exact (ds D hD).2
theorem Zf5 {w:World} {cs:Array Value} {T:TypeId} {b n:Nat} (hb:b=w.heap.size) (hn:n≤cs.size):(w.alloc (.cells cs T)).there b 0 n:=fun j hj=>by
 subst hb
 have h0:(w.alloc (.cells cs T)).heap[w.heap.size]? =some (.cells cs T (0,0)):=heap_alloc_last w _
 constructor
 ·rw [cell_of_row _ _ (0+j) cs T (0,0) h0]
  rw [Nat.zero_add,Array.getElem?_eq_getElem om]
  rfl
 unfold World.frozen?
 rw [h0]
 simp
theorem JZ {w:World} {b o:Nat} {cs vs:List Value} (h:w.rangeAt b 0 cs) (ht:w.there b 0 cs.length) (hl:o+vs.length≤cs.length):(w.setCells b o vs).rangeAt b 0 (cs.take o++(vs++cs.drop (o+vs.length))):=fun j v hv=>by
 have ho:(cs.take o).length=o:=by rw [List.length_take];omega
 rw [Nat.zero_add]
 rcases Nat.lt_or_ge j o with h1|h1
 ·rw [List.getElem?_append_left om,List.getElem?_take_of_lt h1] at hv
  rw [World.cell?_setCells_out b vs o w ⟨b,j,none⟩ (fun _ _=>.inl h1)]
  simpa using h j v hv
 rw [List.getElem?_append_right om,ho] at hv
 rcases Nat.lt_or_ge j (o+vs.length) with h2|h2
 ·rw [List.getElem?_append_left om] at hv
  have:=World.cell?_setCells_in b vs o w (fun i hi=>by have:=(ht (o+i) om).1;simpa using this) (j - o) om
  rw [show o+(j - o)=j by omega] at this
  rw [this,←hv,List.getElem?_eq_getElem om]
 rw [List.getElem?_append_right om,List.getElem?_drop] at hv
 rw [World.cell?_setCells_out b vs o w ⟨b,j,none⟩ (fun _ _=>.inr h2)]
 have:=h j v (by rw [←hv];congr 1;omega)
 simpa using this
end Go.Proofs.YtkdffbdnjfgpeaaGreat
