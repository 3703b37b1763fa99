/- Part 94. -/
import Derived.Test.YtkdffbdnjfgpeaaGreatY36
set_option linter.all false
namespace Go.Proofs.YtkdffbdnjfgpeaaGreat
open Go Go.RowKit
theorem Zb2 {w:World} {p q:Addr} {u:Value} (h:∃v,w.cell? p=some v):∃v,(w.setCell q u).cell? p=some v:=by
 obtain ⟨v,hv⟩:=h
 by_cases e:p=q
 ·subst e;exact ⟨u,World.cell?_setCell_same _ _ _ hv⟩
 exact ⟨v,(World.cell?_setCell_other _ _ _ _ (Ne.symm e)).trans hv⟩
def WritV (w:World) (N g:Nat) (a:Option Addr) (k:Nat):Prop:=∀j,j < k→∃b o,a=some ⟨b,o,none⟩∧N≤b∧b≠g∧∀i,i < 3→w.frozen? ⟨b,o+j*3+i,none⟩=false∧∃u,w.cell? ⟨b,o+j*3+i,none⟩=some u
theorem WritV.of {w:World} {N g:Nat} {x:GV} {a:Option Addr} (hN:0 < N) (h:RV w (fun c=>N≤c∧c≠g) x a):WritV w N g a x.l.length:=fun j hj=>by
 obtain ⟨b,o,m,e,⟨h1,h2⟩,hb,h0, -,hf⟩:=(Zl.1 h).getF j hj
 obtain ⟨c0,c1,c2⟩:=At3.1 h0
 refine ⟨b,o,e,h1,h2,fun i hi=>⟨hf ⟨N,hN,fun c k=>k.1⟩ i hi,?_⟩⟩
 rcases (by omega:i=0∨i=1∨i=2) with rfl|rfl|rfl
 ·exact ⟨_,c0⟩
 ·exact ⟨_,c1⟩
 exact ⟨_,c2⟩
theorem WritV.set {w:World} {N g:Nat} {a:Option Addr} {k:Nat} (h:WritV w N g a k) (q:Addr) (u:Value):WritV (w.setCell q u) N g a k:=fun j hj=>by
 obtain ⟨b,o,e,h1,h2,h3⟩:=h j hj
 exact ⟨b,o,e,h1,h2,fun i hi=>⟨by rw [World.frozen?_setCell];exact (h3 i hi).1,Zb2 (h3 i hi).2⟩⟩
theorem WritV.below {w w':World} {N g:Nat} {a:Option Addr} {k:Nat} (h:WritV w N g a k) (hb:Below w.heap.size w w'):WritV w' N g a k:=fun j hj=>by
 obtain ⟨b,o,e,h1,h2,h3⟩:=h j hj
 refine ⟨b,o,e,h1,h2,fun i hi=>?_⟩
 obtain ⟨f,u,hu⟩:=h3 i hi
 have hlt:=World.block_lt_of_cell? _ _ hu
 exact ⟨(hb.frozen hlt).trans f,u,(hb.cell hlt).trans hu⟩
end Go.Proofs.YtkdffbdnjfgpeaaGreat
