/- Part 12. -/
import Derived.Deep.AppendLies
import Derived.Laws.OwnMore
import Derived.Maps.AppendAt
import Derived.Test.YtkdffbdnjfgpeaaGreatZ0
set_option linter.all false
namespace Go.Proofs.YtkdffbdnjfgpeaaGreat
open Go Go.RowKit
theorem Agree.set {A:Nat→Prop} {w:World} {p:Addr} {v:Value} (h:¬A p.block):Agree A w (w.setCell p v):=fun q u hA hc=>
 have e:=Below.heap_setCell w p v q.block (fun e=>h (by rw [←e];exact hA))
 ⟨(World.cell?_of_block (w:=w) e).trans hc,World.frozen?_of_block (w:=w) e⟩
abbrev Zt4:=@Agree.set
theorem Agree.refl (A:Nat→Prop) (w:World):Agree A w w:=fun _ _ _ hc=>⟨hc,rfl⟩
theorem Agree.grown {A:Nat→Prop} {w w':World} {r:Option Nat} (h:w.grownBy w' r) (hA:∀b,A b→some b≠r):Agree A w w':=fun p _ ha hc=>⟨h.cell hc (hA _ ha),World.frozen?_of_block (h.block p.block (World.block_lt_of_cell? _ _ hc) (hA _ ha))⟩
def Xd:List (GV×VA)→List Value
 | []=>[]
 | (x,m)::r=>.int .u8 x.k::.int .i64 x.n::.slice m.a x.l.length m.c::Xd r
theorem UP:∀ps:List (GV×VA),(Xd ps).length=ps.length*3
 | []=>rfl
 | (x,m)::r=>by simp only [Xd,List.length_cons,UP r];omega
theorem X3:∀ps qs:List (GV×VA),Xd (ps++qs)=Xd ps++Xd qs
 | [],qs=>rfl
 | (x,m)::r,qs=>by simp only [List.cons_append,Xd,X3 r qs]
theorem QS:∀(ps:List (GV×VA)) (j:Nat) (h:j < ps.length),(Xd ps)[j*3]? =some (.int .u8 ps[j].1.k)∧(Xd ps)[j*3+1]? =some (.int .i64 ps[j].1.n)∧(Xd ps)[j*3+2]? =some (.slice ps[j].2.a ps[j].1.l.length ps[j].2.c)
 | [],j,h=>absurd h sm
 | (x,m)::r,0,_=>⟨rfl,rfl,rfl⟩
 | (x,m)::r,j+1,h=>by
  have:=QS r j (by simpa using h)
  rw [show (j+1)*3=j*3+3 by omega]
  exact this
theorem Zcr:∀(ps:List (GV×VA)) (j:Nat) (x:GV) (m:VA),j < ps.length →
  (((Xd ps).set (j*3) (.int .u8 x.k)).set (j*3+1) (.int .i64 x.n)).set (j*3+2) (.slice m.a x.l.length m.c)=Xd (ps.set j (x,m))
 | [],j,_,_,h=>absurd h sm
 | (y,m')::r,0,x,m,_=>rfl
 | (y,m')::r,j+1,x,m,h=>by
  have:=Zcr r j x m (by simpa using h)
  rw [show (j+1)*3=j*3+3 by omega]
  simp only [Xd,List.set_cons_succ]
  rw [this]
def QL:GV×VA:=(⟨0,0,[]⟩,⟨none,0⟩)
theorem Zbg (n:Nat):(madeCells #[.int .u8 0,.int .i64 0,.slice none 0 0] (n*3)).toList=Xd (List.replicate n QL):=by
 apply List.ext_getElem
 ·simp [madeCells,UP]
 intro i h1 h2
 simp [madeCells] at h1
 have hj:i / 3 < (List.replicate n QL).length:=by simp;omega
 obtain ⟨g0,g1,g2⟩:=QS (List.replicate n QL) (i / 3) hj
 have hi:i % 3=0∨i % 3=1∨i % 3=2:=om
 rcases hi with hi|hi|hi
 ·rw [show i / 3*3=i by omega,List.getElem?_eq_getElem h2] at g0
  rw [Option.some.inj g0]
  simp [madeCells,hi,QL]
 ·rw [show i / 3*3+1=i by omega,List.getElem?_eq_getElem h2] at g1
  rw [Option.some.inj g1]
  simp [madeCells,hi,QL]
 rw [show i / 3*3+2=i by omega,List.getElem?_eq_getElem h2] at g2
 rw [Option.some.inj g2]
 simp [madeCells,hi,QL]
theorem KX {w:World} {g:Nat} {A:Nat→Prop} (hA:A g) (hfz:∀j,w.frozen? ⟨g,j,none⟩=false):∀(ps:List (GV×VA)) (o:Nat),(∀j u,(Xd ps)[j]? =some u→w.cell? ⟨g,o+j,none⟩=some u)→(∀p∈ps,RV w A p.1 p.2.a)→RVs w A (ps.map Prod.fst) (some ⟨g,o,none⟩)
 | [],o,_,_=>by simp only [List.map_nil,RVs]
 | (x,m)::r,o,h,hr=>by
  simp only [List.map_cons,RVs]
  refine ⟨g,o,m,rfl,hA,?_,hr (x,m) sm,KX hA hfz r (o+3) (fun j u hj=>?_) (fun p hp=>hr p (by simp [hp])),fun _ j _=>hfz _⟩
  ·rw [At3]
   exact ⟨h 0 _ rfl,h 1 _ rfl,h 2 _ rfl⟩
  have:=h (j+3) u (by simpa [Xd] using hj)
  rw [show o+3+j=o+(j+3) by omega];exact this
theorem Qi {w:World} {base e g n cap:Nat} {A:Nat→Prop} {ps:List (GV×VA)} (hA:A g) (h:w.ownsRow base e 3 (.slice (some ⟨g,0,none⟩) n cap) n (Xd ps)) (hr:∀p∈ps,RV w A p.1 p.2.a):RVs w A (ps.map Prod.fst) (some ⟨g,0,none⟩):=by
 refine KX hA h.frozenAt ps 0 (fun j u hj=>?_) hr
 have hl:=h.1
 have hj2:=(List.getElem?_eq_some_iff.1 hj).1
 rw [Nat.zero_add,h.cellAt j om];exact hj
theorem ZR {w w':World} {B base e size n:Nat} {v:Value} {xs:List Value} (h:w.ownsRow base e size v n xs) (hb:Below B w w') (hv:∀k,v.ownBlock=some k→k < B):w'.ownsRow base e size v n xs:=by
 obtain ⟨h1,h2⟩:=h
 refine ⟨h1,?_⟩
 rcases h2 with h|⟨g,cap,cur,rfl,hbs,hg,h3⟩
 ·exact .inl h
 exact .inr ⟨g,cap,cur,rfl,hbs,(hb.block g (hv g rfl)).trans hg,h3⟩
theorem Jn {w:World} {base e g n cap:Nat} {ps:List (GV×VA)} (h:w.ownsRow base e 3 (.slice (some ⟨g,0,none⟩) n cap) n (Xd ps)) (j:Nat) (x:GV) (m:VA) (hj:j < ps.length):
  (((w.setCell ⟨g,j*3,none⟩ (.int .u8 x.k)).setCell ⟨g,j*3+1,none⟩ (.int .i64 x.n)).setCell ⟨g,j*3+2,none⟩ (.slice m.a x.l.length m.c)).ownsRow base e 3 (.slice (some ⟨g,0,none⟩) n cap) n (Xd (ps.set j (x,m))) ∧
  w.grownBy (((w.setCell ⟨g,j*3,none⟩ (.int .u8 x.k)).setCell ⟨g,j*3+1,none⟩ (.int .i64 x.n)).setCell ⟨g,j*3+2,none⟩ (.slice m.a x.l.length m.c)) (some g):=by
 obtain ⟨h1,g1⟩:=h.stored (j*3) (.int .u8 x.k)
 obtain ⟨h2,g2⟩:=h1.stored (j*3+1) (.int .i64 x.n)
 obtain ⟨h3,g3⟩:=h2.stored (j*3+2) (.slice m.a x.l.length m.c)
 rw [Zcr ps j x m hj] at h3
 exact ⟨h3,(g1.trans g2).trans g3⟩
def Own (B:Nat) (A:Nat→Prop) (v:Value) (b:Nat):Prop:=(A b∧b < B)∨(B≤b∧v.ownBlock≠some b)
theorem JX {B:Nat} {A:Nat→Prop} {v:Value} {W w4:World} (hgrow:W.grownBy w4 v.ownBlock) (hown:∀k,v.ownBlock=some k→B≤k):Agree (fun b=>Own B A v b∧b < W.heap.size) W w4:=
 Agree.grown hgrow fun b ⟨hb,_⟩ e=>by
  rcases hb with ⟨_,h⟩|⟨_,h⟩
  ·have:=hown b e.symm;omega
  exact h e.symm
theorem ZbC {B:Nat} {A:Nat→Prop} {v:Value} {W:World} {g H n cap:Nat} (hat:v.ownBlock=some g∨g=H) (hH:W.heap.size=H) (b:Nat) (h:Own B A v b∧b < W.heap.size):Own B A (.slice (some ⟨g,0,none⟩) n cap) b:=by
 obtain ⟨h,hb⟩:=h
 rcases h with h|⟨h,hne⟩
 ·exact .inl h
 refine .inr ⟨h,fun e=>?_⟩
 simp only [Value.ownBlock,Option.some.injEq] at e
 subst e
 rcases hat with h1|h1
 ·exact hne h1
 omega
theorem RV.own {B:Nat} {A:Nat→Prop} {v:Value} {W w4:World} {g H n cap:Nat} (hgrow:W.grownBy w4 v.ownBlock) (hown:∀k,v.ownBlock=some k→B≤k) (hat:v.ownBlock=some g∨g=H) (hH:W.heap.size=H) {x:GV} {a:Option Addr}
  (h:RV W (Own B A v) x a):RV w4 (Own B A (.slice (some ⟨g,0,none⟩) n cap)) x a:=
 Zt9 (fun b h _=>ZbC hat hH b h) _ _ (Zt5 (JX hgrow hown) _ _ (Zt9 (fun b h hb=>⟨h,hb⟩) _ _ h))
theorem RT.own {B:Nat} {A:Nat→Prop} {v:Value} {W w4:World} {g H n cap:Nat} (hgrow:W.grownBy w4 v.ownBlock) (hown:∀k,v.ownBlock=some k→B≤k) (hat:v.ownBlock=some g∨g=H) (hH:W.heap.size=H) {x:GT} {m:TA}
  (h:RT W (Own B A v) x m):RT w4 (Own B A (.slice (some ⟨g,0,none⟩) n cap)) x m:=
 Zud (fun b h _=>ZbC hat hH b h) _ _ (Zt2 (JX hgrow hown) _ _ (Zud (fun b h hb=>⟨h,hb⟩) _ _ h))
theorem ZeP {w:World} {b:Nat}:∀(l:List Value) (o:Nat),(∀j u,l[j]? =some u→w.cell? ⟨b,o+j,none⟩=some u)→At w b o l
 | [],o,_=>trivial
 | v::l,o,h=>⟨h 0 v rfl,ZeP l (o+1) fun j u hj=>by
   have:=h (j+1) u (by simpa using hj)
   rw [show o+1+j=o+(j+1) by omega];exact this⟩
theorem ZjY {W:World} {cs:Array Value} {T:TypeId} {b o:Nat} {l:List Value} (hb:b=W.heap.size) (hl:∀j u,l[j]? =some u→cs.toList[o+j]? =some u):At (W.alloc (.cells cs T)) b o l:=by
 subst hb
 refine ZeP l o fun j u hj=>?_
 have:=World.news_of_block (heap_alloc_new W (.cells cs T)) (o+j) u (hl j u hj)
 rwa [Addr.add_lit,Nat.zero_add] at this
theorem Xr {W:World} {l:List Value} {T:TypeId} {b:Nat} (hb:b=W.heap.size):At (W.alloc (.cells l.toArray T)) b 0 l:=
 ZjY hb fun j u hj=>by simpa using hj
end Go.Proofs.YtkdffbdnjfgpeaaGreat
