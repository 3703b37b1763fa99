/- What the proofs of the Trial statements need: part 37. -/
import Derived.Deep.RegionHeld3
import Derived.Test.YtojjdneicmbfjaaGreatDoorQ0
import Derived.Test.YtojjdneicmbfjaaGreatDoorQ10
import Derived.Test.YtojjdneicmbfjaaGreatDoorQ14
set_option linter.unusedVariables false
set_option linter.unusedSimpArgs false
namespace Go.Proofs.YtojjdneicmbfjaaGreatDoor
open Go Go.RowKit
theorem At5 {w b o c0 c1 c2 c3 c4}:At w b o [c0,c1,c2,c3,c4]↔w.cell? ⟨b,o,none⟩=some c0∧w.cell? ⟨b,o+1,none⟩=some c1∧w.cell? ⟨b,o+2,none⟩=some c2 ∧
  w.cell? ⟨b,o+3,none⟩=some c3∧w.cell? ⟨b,o+4,none⟩=some c4:=by
 simp only [At,Nat.add_assoc,Nat.reduceAdd,and_true]
def RRs (w:World) (A:Nat→Prop):List GR→Option Addr→Prop
 | [],_=>True
 | x::l,a=>∃b o m,a=some ⟨b,o,none⟩∧A b∧At w b o [.int .i64 x.f,.int .i64 x.t,.int .u8 x.v.k,.int .i64 x.v.n,.slice (VA.a m) x.v.l.length (VA.c m)]∧RV w A x.v m.a∧RRs w A l (some ⟨b,o+5,none⟩)
theorem RRs.ext {w w':World} {A:Nat→Prop} (h:Agree A w w'):∀(l:List GR) a,RRs w A l a→RRs w' A l a
 | [],_,_=>by simp only [RRs]
 | x::l,a,hx=>by
  simp only [RRs] at hx ⊢
  obtain ⟨b,o,m,e,hA,h0,hx,hl⟩:=hx
  exact ⟨b,o,m,e,hA,h0.ext h hA,RV.ext h x.v _ hx,RRs.ext h l _ hl⟩
theorem RRs.mono {w:World} {A A':Nat→Prop} (h:∀b,A b→b < w.heap.size→A' b):∀(l:List GR) a,RRs w A l a→RRs w A' l a
 | [],_,_=>by simp only [RRs]
 | x::l,a,hx=>by
  simp only [RRs] at hx ⊢
  obtain ⟨b,o,m,e,hA,h0,hx,hl⟩:=hx
  exact ⟨b,o,m,e,h b hA (World.block_lt_of_cell? _ _ h0.1),h0,RV.mono h x.v _ hx,RRs.mono h l _ hl⟩
theorem RRs.get {w A}:∀{l:List GR} {a},RRs w A l a→∀i (h:i < l.length),∃b o m,a=some ⟨b,o,none⟩∧A b∧b < w.heap.size ∧
  At w b (o+i*5) [.int .i64 l[i].f,.int .i64 l[i].t,.int .u8 l[i].v.k,.int .i64 l[i].v.n,.slice (VA.a m) l[i].v.l.length (VA.c m)]∧RV w A l[i].v m.a
 | [],_,_,i,h=>absurd h (by simp)
 | x::l,a,h,i,hi=>by
  simp only [RRs] at h
  obtain ⟨b,o,m,rfl,hA,h0,hx,hl⟩:=h
  have hb:b < w.heap.size:=World.block_lt_of_cell? _ _ h0.1
  cases i with
  | zero=>exact ⟨b,o,m,rfl,hA,hb,by simpa using h0,hx⟩
  | succ i=>
   obtain ⟨b',o',m',e,hA',hb',g0,gx⟩:=hl.get i (by simpa using hi)
   simp at e
   obtain ⟨rfl,rfl⟩:=e
   exact ⟨b,o,m',rfl,hA,hb,by rw [show o+(i+1)*5=o+5+i*5 from by omega];exact g0,gx⟩
theorem RRs.drop {w A}:∀{l:List GR} {b o:Nat},RRs w A l (some ⟨b,o,none⟩)→∀k,RRs w A (l.drop k) (some ⟨b,o+k*5,none⟩)
 | [],_,_,_,k=>by simp only [List.drop_nil,RRs]
 | x::l,b,o,h,0=>by simpa using h
 | x::l,b,o,h,k+1=>by
  simp only [RRs] at h
  obtain ⟨b',o',m,e,hA,h0,hx,hl⟩:=h
  simp at e
  obtain ⟨rfl,rfl⟩:=e
  rw [List.drop_succ_cons,show o+(k+1)*5=o+5+k*5 by omega]
  exact RRs.drop hl k
theorem RRs.take {w A}:∀{l:List GR} {a},RRs w A l a→∀k,RRs w A (l.take k) a
 | [],_,_,k=>by simp only [List.take_nil,RRs]
 | x::l,a,h,0=>by simp only [List.take_zero,RRs]
 | x::l,a,h,k+1=>by
  simp only [List.take_succ_cons,RRs] at h ⊢
  obtain ⟨b',o',m,e,hA,h0,hx,hl⟩:=h
  exact ⟨b',o',m,e,hA,h0,hx,RRs.take hl k⟩
def flatR:List (GR×VA)→List Value
 | []=>[]
 | (x,m)::r=>[.int .i64 x.f,.int .i64 x.t,.int .u8 x.v.k,.int .i64 x.v.n,.slice m.a x.v.l.length m.c]++flatR r
theorem flatR_length:∀ps:List (GR×VA),(flatR ps).length=ps.length*5
 | []=>rfl
 | (x,m)::r=>by simp only [flatR,List.length_append,List.length_cons,List.length_nil,flatR_length r];omega
theorem flatR_append:∀ps qs:List (GR×VA),flatR (ps++qs)=flatR ps++flatR qs
 | [],qs=>rfl
 | (x,m)::r,qs=>by simp only [List.cons_append,flatR,flatR_append r qs,List.nil_append]
theorem RRs_of_cells {w:World} {g:Nat} {A:Nat→Prop} (hA:A g):∀(ps:List (GR×VA)) (o:Nat),(∀j u,(flatR ps)[j]? =some u→w.cell? ⟨g,o+j,none⟩=some u)→(∀p∈ps,RV w A p.1.v p.2.a)→RRs w A (ps.map Prod.fst) (some ⟨g,o,none⟩)
 | [],o,_,_=>by simp only [List.map_nil,RRs]
 | (x,m)::r,o,h,hr=>by
  simp only [List.map_cons,RRs]
  refine ⟨g,o,m,rfl,hA,?_,hr (x,m) (by simp),RRs_of_cells hA r (o+5) (fun j u hj=>?_) fun p hp=>hr p (by simp [hp])⟩
  ·rw [At5]
   exact ⟨h 0 _ rfl,h 1 _ rfl,h 2 _ rfl,h 3 _ rfl,h 4 _ rfl⟩
  ·have:=h (j+5) u (by simpa [flatR] using hj)
   rw [show o+5+j=o+(j+5) by omega];exact this
theorem RRs_of_row {w:World} {base e n:Nat} {v:Value} {ps:List (GR×VA)} {A:Nat→Prop} (h:w.ownsRow base e 5 v n (flatR ps)) (hA:∀b,base≤b→A b) (hr:∀p∈ps,RV w A p.1.v p.2.a):∃a c,v=.slice a (ps.map Prod.fst).length ((ps.map Prod.fst).length+c)∧RRs w A (ps.map Prod.fst) a:=by
 have hn:ps.length=n:=by have:=h.1;rw [flatR_length] at this;omega
 rcases h.2 with ⟨rfl,h0⟩|⟨g,cap,cur,rfl,hb,h3,hcap,h4⟩
 ·have hz:ps=[]:=List.eq_nil_of_length_eq_zero (by omega)
  subst hz
  exact ⟨none,0,rfl,by simp only [List.map_nil,RRs]⟩
 ·refine ⟨_,cap - n,by rw [List.length_map,hn,Nat.add_sub_cancel' hcap],RRs_of_cells (hA _ hb) ps 0 (fun j u hj=>?_) hr⟩
  have hl:=h.1
  have hj2:=(List.getElem?_eq_some_iff.1 hj).1
  rw [Nat.zero_add,h.cellAt j (by omega)];exact hj
theorem tq {P:Program} {md:Region.Mode} {l:List Oper} {Q:Exit→Act→World→Prop} {S:World→Prop} (i:Nat) {oi:Oper} {v:Value} {fuel:Nat} {listed:Array Bool} {a:Act} {w:World} (hi:l[i]? =some oi) (hy:YieldsIf P l.toArray S oi v a)
  (h:wpAnyH P md l.toArray Q S fuel (listed.setIfInBounds i true) (a.put oi.dst v) w) (hS:S w:=by assumption) (hs:Region.noSelect l.toArray=true:=by kernel_rfl) (hf:Region.free md l.toArray listed i=true:=by kernel_rfl) (hr:(Region.ready md l.toArray listed).contains i=true:=by kernel_rfl)
  (hQ:∀c a w,Q (.panic c) (a.put oi.dst v) w→Q (.panic c) a w:=by exact fun _ _ _ h=>h):wpAnyH P md l.toArray Q S (fuel+1) listed a w:=wpAnyH_take (by simpa using hi) hs hf hr hQ hy hS h
theorem At5z {w:World} {b:Nat} {c0 c1 c2 c3 c4:Value}:At w b 0 [c0,c1,c2,c3,c4]↔w.cell? ⟨b,0,none⟩=some c0∧w.cell? ⟨b,1,none⟩=some c1∧w.cell? ⟨b,2,none⟩=some c2∧w.cell? ⟨b,3,none⟩=some c3∧w.cell? ⟨b,4,none⟩=some c4:=At5
end Go.Proofs.YtojjdneicmbfjaaGreatDoor
