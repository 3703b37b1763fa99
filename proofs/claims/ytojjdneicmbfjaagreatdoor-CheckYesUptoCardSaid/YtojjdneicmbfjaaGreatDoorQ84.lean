/- What the proofs of the Trial statements need: part 45. -/
import Derived.Test.YtojjdneicmbfjaaGreatDoorQ14
set_option linter.unusedVariables false
set_option linter.unusedSimpArgs false
namespace Go.Proofs.YtojjdneicmbfjaaGreatDoor
open Go Go.RowKit
def flatP:List (GP×PA)→List Value
 | []=>[]
 | (x,m)::r=>.int .u8 x.k::.int .u8 x.v.k::.int .i64 x.v.n::.slice m.va x.v.l.length m.vc::.int .i64 x.n::.slice m.a x.a.length m.c::flatP r
theorem flatP_length:∀ps:List (GP×PA),(flatP ps).length=ps.length*6
 | []=>rfl
 | (x,m)::r=>by simp only [flatP,List.length_cons,flatP_length r];omega
theorem flatP_one:∀ps:List (GP×PA),∀u∈flatP ps,u.oneCell'=true
 | [],u,h=>by cases h
 | (x,m)::r,u,h=>by
  simp only [flatP,List.mem_cons] at h
  rcases h with rfl|rfl|rfl|rfl|rfl|rfl|h
  all_goals first|exact flatP_one r u h|simp [Value.oneCell']
theorem flatP_get:∀(ps:List (GP×PA)) (j:Nat) (h:j < ps.length),(flatP ps)[j*6]? =some (.int .u8 ps[j].1.k)∧(flatP ps)[j*6+1]? =some (.int .u8 ps[j].1.v.k)∧(flatP ps)[j*6+2]? =some (.int .i64 ps[j].1.v.n) ∧
  (flatP ps)[j*6+3]? =some (.slice ps[j].2.va ps[j].1.v.l.length ps[j].2.vc)∧(flatP ps)[j*6+4]? =some (.int .i64 ps[j].1.n)∧(flatP ps)[j*6+5]? =some (.slice ps[j].2.a ps[j].1.a.length ps[j].2.c)
 | [],j,h=>absurd h (by simp)
 | (x,m)::r,0,_=>⟨rfl,rfl,rfl,rfl,rfl,rfl⟩
 | (x,m)::r,j+1,h=>by
  have:=flatP_get r j (by simpa using h)
  rw [show (j+1)*6=j*6+6 by omega]
  exact this
theorem flatP_set:∀(ps:List (GP×PA)) (j:Nat) (x:GP) (m:PA),j < ps.length →
  ((((((flatP ps).set (j*6) (.int .u8 x.k)).set (j*6+1) (.int .u8 x.v.k)).set (j*6+2) (.int .i64 x.v.n)).set (j*6+3) (.slice m.va x.v.l.length m.vc)).set (j*6+4) (.int .i64 x.n)).set (j*6+5) (.slice m.a x.a.length m.c)=flatP (ps.set j (x,m))
 | [],j,_,_,h=>absurd h (by simp)
 | (y,m')::r,0,x,m,_=>rfl
 | (y,m')::r,j+1,x,m,h=>by
  have:=flatP_set r j x m (by simpa using h)
  rw [show (j+1)*6=j*6+6 by omega]
  simp only [flatP,List.set_cons_succ]
  rw [this]
theorem RPs_of_cells {w:World} {g:Nat} {A:Nat→Prop} (hA:A g):∀(ps:List (GP×PA)) (o:Nat),(∀j u,(flatP ps)[j]? =some u→w.cell? ⟨g,o+j,none⟩=some u)→(∀p∈ps,RP w A p.1 p.2)→RPs w A (ps.map Prod.fst) (some ⟨g,o,none⟩)
 | [],o,_,_=>by simp only [List.map_nil,RPs]
 | (x,m)::r,o,h,hr=>by
  simp only [List.map_cons,RPs]
  refine ⟨g,o,m,rfl,hA,?_,hr (x,m) (by simp),RPs_of_cells hA r (o+6) (fun j u hj=>?_) fun p hp=>hr p (by simp [hp])⟩
  ·rw [At6]
   exact ⟨h 0 _ rfl,h 1 _ rfl,h 2 _ rfl,h 3 _ rfl,h 4 _ rfl,h 5 _ rfl⟩
  ·have:=h (j+6) u (by simpa [flatP] using hj)
   rw [show o+6+j=o+(j+6) by omega];exact this
theorem RPs_of_owns {w:World} {base e n:Nat} {v:Value} {A:Nat→Prop} {ps:List (GP×PA)} (h:w.ownsRow base e 6 v n (flatP ps)) (hA:∀b,base≤b→A b) (hr:∀p∈ps,RP w A p.1 p.2):∃a c,v=.slice a (ps.map Prod.fst).length c∧RPs w A (ps.map Prod.fst) a:=by
 have hn:ps.length=n:=by have:=h.1;rw [flatP_length] at this;omega
 rcases h.2 with ⟨rfl,h0⟩|⟨g,cap,cur,rfl,hb,h3⟩
 ·have hz:ps=[]:=List.eq_nil_of_length_eq_zero (by omega)
  subst hz
  exact ⟨none,0,rfl,by simp only [List.map_nil,RPs]⟩
 ·refine ⟨_,cap,by rw [List.length_map,hn],RPs_of_cells (hA _ hb) ps 0 (fun j u hj=>?_) hr⟩
  have hl:=h.1
  have hj2:=(List.getElem?_eq_some_iff.1 hj).1
  rw [Nat.zero_add,h.cellAt j (by omega)];exact hj
theorem ownsP_stored {w:World} {base e g n cap:Nat} {ps:List (GP×PA)} (h:w.ownsRow base e 6 (.slice (some ⟨g,0,none⟩) n cap) n (flatP ps)) (j:Nat) (x:GP) (m:PA) (hj:j < ps.length):
  ((((((w.setCell ⟨g,j*6,none⟩ (.int .u8 x.k)).setCell ⟨g,j*6+1,none⟩ (.int .u8 x.v.k)).setCell ⟨g,j*6+2,none⟩ (.int .i64 x.v.n)).setCell ⟨g,j*6+3,none⟩ (.slice m.va x.v.l.length m.vc)).setCell ⟨g,j*6+4,none⟩ (.int .i64 x.n)).setCell ⟨g,j*6+5,none⟩ (.slice m.a x.a.length m.c)).ownsRow base e 6 (.slice (some ⟨g,0,none⟩) n cap) n (flatP (ps.set j (x,m))) ∧
  w.grownBy ((((((w.setCell ⟨g,j*6,none⟩ (.int .u8 x.k)).setCell ⟨g,j*6+1,none⟩ (.int .u8 x.v.k)).setCell ⟨g,j*6+2,none⟩ (.int .i64 x.v.n)).setCell ⟨g,j*6+3,none⟩ (.slice m.va x.v.l.length m.vc)).setCell ⟨g,j*6+4,none⟩ (.int .i64 x.n)).setCell ⟨g,j*6+5,none⟩ (.slice m.a x.a.length m.c)) (some g):=by
 obtain ⟨h1,g1⟩:=h.stored (j*6) (.int .u8 x.k)
 obtain ⟨h2,g2⟩:=h1.stored (j*6+1) (.int .u8 x.v.k)
 obtain ⟨h3,g3⟩:=h2.stored (j*6+2) (.int .i64 x.v.n)
 obtain ⟨h4,g4⟩:=h3.stored (j*6+3) (.slice m.va x.v.l.length m.vc)
 obtain ⟨h5,g5⟩:=h4.stored (j*6+4) (.int .i64 x.n)
 obtain ⟨h6,g6⟩:=h5.stored (j*6+5) (.slice m.a x.a.length m.c)
 rw [flatP_set ps j x m hj] at h6
 exact ⟨h6,((((g1.trans g2).trans g3).trans g4).trans g5).trans g6⟩
theorem RPs_cells {w:World} {A:Nat→Prop}:∀(l:List GP) (b o:Nat),RPs w A l (some ⟨b,o,none⟩)→∃ps:List (GP×PA),ps.map Prod.fst=l∧(∀j u,(flatP ps)[j]? =some u→w.cell? ⟨b,o+j,none⟩=some u)∧∀p∈ps,RP w A p.1 p.2
 | [],b,o,_=>⟨[],rfl,fun j u h=>by simp [flatP] at h,fun p hp=>by cases hp⟩
 | x::l,b,o,h=>by
  simp only [RPs] at h
  obtain ⟨b',o',m,e,hA,h0,hx,hl⟩:=h
  simp only [Option.some.injEq,Addr.mk.injEq,and_true] at e
  obtain ⟨rfl,rfl⟩:=e
  obtain ⟨ps,h1,h2,h3⟩:=RPs_cells l b (o+6) hl
  obtain ⟨c0,c1,c2,c3,c4,c5⟩:=At6.1 h0
  refine ⟨(x,m)::ps,by simp [h1],fun j u hj=>?_,fun p hp=>?_⟩
  ·match j with
   | 0=>simp [flatP] at hj;rw [←hj];exact c0
   | 1=>simp [flatP] at hj;rw [←hj];exact c1
   | 2=>simp [flatP] at hj;rw [←hj];exact c2
   | 3=>simp [flatP] at hj;rw [←hj];exact c3
   | 4=>simp [flatP] at hj;rw [←hj];exact c4
   | 5=>simp [flatP] at hj;rw [←hj];exact c5
   | j+6=>
    have:=h2 j u (by simpa [flatP] using hj)
    rw [show o+(j+6)=o+6+j by omega];exact this
  ·rcases List.mem_cons.1 hp with rfl|hp
   ·exact hx
   ·exact h3 p hp
end Go.Proofs.YtojjdneicmbfjaaGreatDoor
