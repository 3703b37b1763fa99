/- Part 14. -/
import Derived.Laws.OwnMore
import Derived.OwnWalk
import Derived.Test.YtkdffbdnjfgpeaaGreatY2
import Derived.Test.YtkdffbdnjfgpeaaGreatY3
set_option linter.all false
namespace Go.Proofs.YtkdffbdnjfgpeaaGreat
open Go.Lib (hid)
open Go Go.RowKit Go.Proofs.Tryz
theorem Agree.set {A:Nat→Prop} {w:World} {p:Addr} {v:Value} (h:¬A p.block):Agree A w (w.setCell p v):=fun q u hA hc=>
 have e:=Below.heap_setCell w p v q.block (fun e=>h (by rw [←e];exact hA))
 ⟨(World.cell?_of_block (w:=w) e).trans hc,World.frozen?_of_block (w:=w) e⟩
abbrev Zt4:=@Agree.set
theorem Agree.refl (A:Nat→Prop) (w:World):Agree A w w:=fun _ _ _ hc=>⟨hc,rfl⟩
theorem Agree.grown {A:Nat→Prop} {w w':World} {r:Option Nat} (h:w.grownBy w' r) (hA:∀b,A b→some b≠r):Agree A w w':=fun p _ ha hc=>⟨h.cell hc (hA _ ha),World.frozen?_of_block (h.block p.block (World.block_lt_of_cell? _ _ hc) (hA _ ha))⟩
def Xd:List (GV×VA)→List Value
 | []=>[]
 | (x,m)::r=>.int .u8 x.k::.int .i64 x.n::.slice m.a x.l.length m.c::Xd r
theorem UP:∀ps:List (GV×VA),(Xd ps).length=ps.length*3
 | []=>rfl
 | (x,m)::r=>by simp only [Xd,List.length_cons,UP r];omega
theorem X3:∀ps qs:List (GV×VA),Xd (ps++qs)=Xd ps++Xd qs
 | [],qs=>rfl
 | (x,m)::r,qs=>by simp only [List.cons_append,Xd,X3 r qs]
theorem QS:∀(ps:List (GV×VA)) (j:Nat) (h:j < ps.length),(Xd ps)[j*3]? =some (.int .u8 ps[j].1.k)∧(Xd ps)[j*3+1]? =some (.int .i64 ps[j].1.n)∧(Xd ps)[j*3+2]? =some (.slice ps[j].2.a ps[j].1.l.length ps[j].2.c)
 | [],j,h=>absurd h sm
 | (x,m)::r,0,_=>⟨rfl,rfl,rfl⟩
 | (x,m)::r,j+1,h=>by
  have:=QS r j (by simpa using h)
  rw [show (j+1)*3=j*3+3 by omega]
  exact this
theorem Zcr:∀(ps:List (GV×VA)) (j:Nat) (x:GV) (m:VA),j < ps.length →
  (((Xd ps).set (j*3) (.int .u8 x.k)).set (j*3+1) (.int .i64 x.n)).set (j*3+2) (.slice m.a x.l.length m.c)=Xd (ps.set j (x,m))
 | [],j,_,_,h=>absurd h sm
 | (y,m')::r,0,x,m,_=>rfl
 | (y,m')::r,j+1,x,m,h=>by
  have:=Zcr r j x m (by simpa using h)
  rw [show (j+1)*3=j*3+3 by omega]
  simp only [Xd,List.set_cons_succ]
  rw [this]
def QL:GV×VA:=(⟨0,0,[]⟩,⟨none,0⟩)
theorem Zbg (n:Nat):(madeCells #[.int .u8 0,.int .i64 0,.slice none 0 0] (n*3)).toList=Xd (List.replicate n QL):=by
 apply List.ext_getElem
 ·simp [madeCells,UP]
 intro i h1 h2
 simp [madeCells] at h1
 have hj:i / 3 < (List.replicate n QL).length:=by simp;omega
 obtain ⟨g0,g1,g2⟩:=QS (List.replicate n QL) (i / 3) hj
 have hi:i % 3=0∨i % 3=1∨i % 3=2:=om
 rcases hi with hi|hi|hi
 ·rw [show i / 3*3=i by omega,List.getElem?_eq_getElem h2] at g0
  rw [Option.some.inj g0]
  simp [madeCells,hi,QL]
 ·rw [show i / 3*3+1=i by omega,List.getElem?_eq_getElem h2] at g1
  rw [Option.some.inj g1]
  simp [madeCells,hi,QL]
 rw [show i / 3*3+2=i by omega,List.getElem?_eq_getElem h2] at g2
 rw [Option.some.inj g2]
 simp [madeCells,hi,QL]
theorem KX {w:World} {g:Nat} {A:Nat→Prop} (hA:A g) (hfz:∀j,w.frozen? ⟨g,j,none⟩=false):∀(ps:List (GV×VA)) (o:Nat),(∀j u,(Xd ps)[j]? =some u→w.cell? ⟨g,o+j,none⟩=some u)→(∀p∈ps,RV w A p.1 p.2.a)→RVs w A (ps.map Prod.fst) (some ⟨g,o,none⟩)
 | [],o,_,_=>by simp only [List.map_nil,RVs]
 | (x,m)::r,o,h,hr=>by
  simp only [List.map_cons,RVs]
  refine ⟨g,o,m,rfl,hA,?_,hr (x,m) sm,KX hA hfz r (o+3) (fun j u hj=>?_) (fun p hp=>hr p (by simp [hp])),fun _ j _=>hfz _⟩
  ·rw [At3]
   exact ⟨h 0 _ rfl,h 1 _ rfl,h 2 _ rfl⟩
  have:=h (j+3) u (by simpa [Xd] using hj)
  rw [show o+3+j=o+(j+3) by omega];exact this
theorem Qi {w:World} {base e g n cap:Nat} {A:Nat→Prop} {ps:List (GV×VA)} (hA:A g) (h:w.ownsRow base e 3 (.slice (some ⟨g,0,none⟩) n cap) n (Xd ps)) (hr:∀p∈ps,RV w A p.1 p.2.a):RVs w A (ps.map Prod.fst) (some ⟨g,0,none⟩):=by
 refine KX hA h.frozenAt ps 0 (fun j u hj=>?_) hr
 have hl:=h.1
 have hj2:=(List.getElem?_eq_some_iff.1 hj).1
 rw [Nat.zero_add,h.cellAt j om];exact hj
theorem ZR {w w':World} {B base e size n:Nat} {v:Value} {xs:List Value} (h:w.ownsRow base e size v n xs) (hb:Below B w w') (hv:∀k,v.ownBlock=some k→k < B):w'.ownsRow base e size v n xs:=by
 obtain ⟨h1,h2⟩:=h
 refine ⟨h1,?_⟩
 rcases h2 with h|⟨g,cap,cur,rfl,hbs,hg,h3⟩
 ·exact .inl h
 exact .inr ⟨g,cap,cur,rfl,hbs,(hb.block g (hv g rfl)).trans hg,h3⟩
theorem Jn {w:World} {base e g n cap:Nat} {ps:List (GV×VA)} (h:w.ownsRow base e 3 (.slice (some ⟨g,0,none⟩) n cap) n (Xd ps)) (j:Nat) (x:GV) (m:VA) (hj:j < ps.length):
  (((w.setCell ⟨g,j*3,none⟩ (.int .u8 x.k)).setCell ⟨g,j*3+1,none⟩ (.int .i64 x.n)).setCell ⟨g,j*3+2,none⟩ (.slice m.a x.l.length m.c)).ownsRow base e 3 (.slice (some ⟨g,0,none⟩) n cap) n (Xd (ps.set j (x,m))) ∧
  w.grownBy (((w.setCell ⟨g,j*3,none⟩ (.int .u8 x.k)).setCell ⟨g,j*3+1,none⟩ (.int .i64 x.n)).setCell ⟨g,j*3+2,none⟩ (.slice m.a x.l.length m.c)) (some g):=by
 obtain ⟨h1,g1⟩:=h.stored (j*3) (.int .u8 x.k)
 obtain ⟨h2,g2⟩:=h1.stored (j*3+1) (.int .i64 x.n)
 obtain ⟨h3,g3⟩:=h2.stored (j*3+2) (.slice m.a x.l.length m.c)
 rw [Zcr ps j x m hj] at h3
 exact ⟨h3,(g1.trans g2).trans g3⟩
theorem US:(prog.info? 24).map (fun i=>(i.zero,i.size,i.bytes))=some (some (.agg #[.int .u8 0,.int .i64 0,.slice none 0 0]),3,40):=kr
theorem Zgq (n:Int) (w:World):Calls prog 142 #[.int .i64 n] w fun e w'=>e=.returned (VV ⟨1,n,[]⟩ ⟨none,0⟩)∧Below w.heap.size w w':=by
 go_enter func142,ntmps142
 go_wp2_with fail
 refine bodyPost_ret (v:=VV ⟨1,n,[]⟩ ⟨none,0⟩) (by first|(simp [results,Tryz.f142,go_sem];done)|(simp [results,Tryz.f142,go_sem, *];done)) rfl ?_
 exact ⟨rfl,ZtX⟩
theorem VX (l:List GV) (a:Option Addr) (cp:Nat) (w:World):Calls prog 150 #[.slice a l.length cp] w fun e w'=>e=.returned (VV ⟨4,0,l⟩ ⟨a,cp⟩)∧Below w.heap.size w w':=by
 go_enter func150,ntmps150
 go_wp2_with fail
 refine bodyPost_ret (v:=VV ⟨4,0,l⟩ ⟨a,cp⟩) (by first|(simp [results,Tryz.f150,go_sem];done)|(simp [results,Tryz.f150,go_sem, *];done)) rfl ?_
 exact ⟨rfl,ZtX⟩
def Zga (l:List GV) (w:World):Ending→World→Prop:=fun e w'=>Below w.heap.size w w'∧∃a c,e=.returned (.slice a l.length c)∧RVs w' (fun b=>w.heap.size≤b) l a
def ZhC (x:GV) (w:World):Ending→World→Prop:=fun e w'=>Below w.heap.size w w'∧∃m,e=.returned (VV x m)∧RV w' (fun b=>w.heap.size≤b) x m.a
set_option maxRecDepth 100000
theorem Zgj (x:GV) (m:VA) (w:World) (A:Nat→Prop) (ox:okV x) (h:∀W,RVs W A x.l m.a→Calls prog 60 #[.slice m.a x.l.length m.c] W (Zga x.l W)) (hl:RVs w A x.l m.a):
  Calls prog 90 #[VV x m] w (ZhC x w):=by
 obtain ⟨ma,mc⟩:=m
 have HX:=hid h
 have HL:=hid hl
 obtain ⟨⟨x1,x2⟩,⟨x3,x4⟩,x5,_⟩:=ZA.1 ox
 clear h hl ox
 go_enter func90,ntmps90
 go_wp2_with (go_at_call 60;refine (HX.out _ (by exact Zt8 az _ _ HL.out)).mono ?_;rintro e w1 ⟨hb1,a,c,rfl,hr1⟩;obtain ⟨hc1,hf1⟩:=Za hb1;have hz1:=hb1.size;simp at hz1;have HR1:=hid hr1;clear hr1;have p0:w1.cell? ⟨w.heap.size,0,none⟩=some (.int .u8 x.k):=gs;have p1:w1.cell? ⟨w.heap.size,1,none⟩=some (.int .i64 x.n):=gs;have p2:w1.cell? ⟨w.heap.size,2,none⟩=some (.slice ma x.l.length mc):=gs;have q0:w1.cell? ⟨w.heap.size+1,0,none⟩=some (.int .u8 0):=gs;have q1:w1.cell? ⟨w.heap.size+1,1,none⟩=some (.int .i64 0):=gs;have q2:w1.cell? ⟨w.heap.size+1,2,none⟩=some (.slice none 0 0):=gs)
 refine bodyPost_ret (v:=VV x ⟨a,c⟩) (by first|(simp [results,Tryz.f90,go_sem];done)|(simp [results,Tryz.f90,go_sem, *];done)) rfl ?_
 exact ⟨ZtX,⟨a,c⟩,rfl,Zl.2 (Zug (fun b hb _=>by simp at hb;omega) _ _ (Zt8 (((Zt4 so).trans (Zt4 so)).trans ((Zt4 so).trans (Zt4 so))) _ _ HR1.out))⟩
set_option maxRecDepth 512
theorem qd0 {p:Prop} (h:p:=by
 subst h0
 go_enter func60,ntmps60
 go_wp2_with fail
 go_ret
 exact ⟨ZtX,none,0,rfl,by simp only [RVs]⟩):p:=h
set_option maxRecDepth 100000
set_option maxHeartbeats 1000000
theorem Za8 (N:Nat):∀(l:List GV) (w:World) (A:Nat→Prop) (a:Option Addr) (cp:Nat),Zi l≤N→l.length≤1048576→okVs l→RVs w A l a →
  Calls prog 60 #[.slice a l.length cp] w (Zga l w):=by
 induction N with
 | zero=>
  intro l w A a cp hN hl ol hr
  have h0:l=[]:=by have:=WW l;exact List.eq_nil_of_length_eq_zero om
  exact qd0
 | succ N ih=>
  intro l w A a cp hN hln ol hr
  by_cases h0:l=[]
  ·exact qd0
  have hpos:0 < l.length:=by rcases l with _|⟨x,l⟩;exact absurd rfl h0;simp
  have h0':((l.length:Int)==0)=false:=beq_eq_false_iff_ne.2 om
  have IH:=hid ih
  have HL:=hid hr
  have O:=hid ol
  obtain ⟨i0,hi,hz0,hz1,hz2⟩:=info_parts US
  clear ih hr ol h0
  go_enter func60,ntmps60
  go_wp2_with (at_make;refine wpList_make_full _ rfl _ _ 22 rfl w.heap.size 24 i0 _ 3 rfl hi hz0 hz1 .i64 .i64 _ _ l.length rfl rfl rfl rfl (by rw [hz2];omega) (by unfold maxLen;omega) (Nat.le_refl _) ?_;intro w1 hown hgrow)
  have hz1:w.heap.size < w1.heap.size:=(hown.lt _ rfl).2
  have hb1:Below w.heap.size w w1:=Below.grown (Below.refl _ _) hgrow (Nat.le_refl _) (fun k e=>by cases e)
  simp only [Value.cells,Zbg] at hown
  have HO:=hid hown
  clear hown hgrow
  go_loopg [14] (l.length) (fun gk i wr=>∃j:Nat,gk+j=l.length∧i=.int .i64 j∧Below w.heap.size w wr∧w.heap.size < wr.heap.size∧∃ps:List (GV×VA),Hid (ps.length=l.length) ∧
   Hid (wr.ownsRow w.heap.size 24 3 (.slice (some ⟨w.heap.size,0,none⟩) l.length l.length) l.length (Xd ps)) ∧
   Hid (∀q (h:q < l.length) (h':q < ps.length),q < j→ps[q].1=l[q]∧RV wr (fun b=>w.heap.size < b) ps[q].1 ps[q].2.a))
  case atStart=>exact ⟨0,om,rfl,hb1,hz1,List.replicate l.length QL,hid sm,hid HO.out,fun q h h' hq=>absurd hq om⟩
  case round=>
   obtain ⟨j,hj,rfl,hb,hz,ps,HP,HW,HQ⟩:=hrel
   by_cases hlt:j < l.length
   ·obtain ⟨b,o,⟨mja,mjc⟩,rfl,hA,hbs,g0,gx⟩:=HL.out.get j hlt
    obtain ⟨k0,k1,k2⟩:=At3.1 (g0.ext (ZtY hb) (A:=fun _=>True) trivial)
    have hs1:b < wr.heap.size:=om
    clear g0
    go_wp2_with (go_at_call 90;refine (Zgj l[j] ⟨mja,mjc⟩ _ A (O.out.get j hlt) (fun W h=>IH.out l[j].l W A _ _ (by have:=ZX l j hlt;have:=XZ l[j];omega) (ZA.1 (O.out.get j hlt)).2.2.1 (ZA.1 (O.out.get j hlt)).2.2.2 h) (by exact Zl.1 (Zt5 az _ _ gx))).mono ?_;rintro e w2 ⟨hb2,m,rfl,hr2⟩;have HR2:=hid hr2;clear hr2;have hz2:=hb2.size;simp at hz2;have hbb:Below wr.heap.size wr w2:=ZtX;have HW2:=hid (ZR HW.out hbb (fun k e=>(by cases e;exact hz)));have hjp:j < ps.length:=(by rw [HP.out];exact hlt);obtain ⟨y0,y1,y2⟩:=QS ps j hjp;have z0:=(HW2.out.cellAt (j*3) om).trans y0;have z1:=(HW2.out.cellAt (j*3+1) om).trans y1;have z2:=(HW2.out.cellAt (j*3+2) om).trans y2;have hff:∀o,w2.frozen? ⟨w.heap.size,o,none⟩=false:=HW2.out.frozenAt;clear y0 y1 y2)
    obtain ⟨hst,hsg⟩:=Jn HW2.out j l[j] m hjp
    have hag:Agree (fun b=>w.heap.size < b) wr (((w2.setCell ⟨w.heap.size,j*3,none⟩ (.int .u8 l[j].k)).setCell ⟨w.heap.size,j*3+1,none⟩ (.int .i64 l[j].n)).setCell ⟨w.heap.size,j*3+2,none⟩ (.slice m.a l[j].l.length m.c)):=
     (ZtY hbb).trans (Agree.grown hsg fun b hb e=>by cases e;omega)
    go_roundg (gk - 1)
    case measure=>omega
    case rel=>
     refine ⟨j+1,om,by go_num,?_,by simp;omega,ps.set j (l[j],m),hid (by simp [HP.out]),hid hst,fun q h h' hq=>?_⟩
     ·exact ((hb.trans (hbb.mono om)).setCell (Nat.le_refl _) _).setCell (Nat.le_refl _) _ |>.setCell (Nat.le_refl _) _
     by_cases hqj:q=j
     ·subst hqj
      rw [List.getElem_set_self]
      exact ⟨rfl,Zt5 (Agree.grown hsg fun b hb e=>by cases e;omega) _ _ (Zt9 (fun b h _=>by simp at h;omega) _ _ HR2.out)⟩
     rw [List.getElem_set_ne (fun e=>hqj e.symm)]
     have h9:=HQ.out q h (by simpa using h') om
     exact ⟨h9.1,Zt5 hag _ _ h9.2⟩
   have hjl:j=l.length:=om
   subst hjl
   go_wp2_with fail
   go_ret
   refine ⟨hb,_,_,rfl,?_⟩
   have h1:=Qi (A:=fun b=>w.heap.size≤b) (Nat.le_refl _) HW.out (fun p hp=>by
    obtain ⟨q,hq,rfl⟩:=List.getElem_of_mem hp
    have:=HP.out
    exact Zt9 (fun b h _=>om) _ _ (HQ.out q om hq om).2)
   have h2:ps.map Prod.fst=l:=List.ext_getElem (by simp [HP.out]) fun q h h'=>by
    simp only [List.getElem_map]
    exact (HQ.out q h' (by simpa using h) om).1
   rw [h2] at h1
   exact h1
set_option maxRecDepth 512
def Own (B:Nat) (A:Nat→Prop) (v:Value) (b:Nat):Prop:=(A b∧b < B)∨(B≤b∧v.ownBlock≠some b)
theorem JX {B:Nat} {A:Nat→Prop} {v:Value} {W w4:World} (hgrow:W.grownBy w4 v.ownBlock) (hown:∀k,v.ownBlock=some k→B≤k):Agree (fun b=>Own B A v b∧b < W.heap.size) W w4:=
 Agree.grown hgrow fun b ⟨hb,_⟩ e=>by
  rcases hb with ⟨_,h⟩|⟨_,h⟩
  ·have:=hown b e.symm;omega
  exact h e.symm
theorem ZbC {B:Nat} {A:Nat→Prop} {v:Value} {W:World} {g H n cap:Nat} (hat:v.ownBlock=some g∨g=H) (hH:W.heap.size=H) (b:Nat) (h:Own B A v b∧b < W.heap.size):Own B A (.slice (some ⟨g,0,none⟩) n cap) b:=by
 obtain ⟨h,hb⟩:=h
 rcases h with h|⟨h,hne⟩
 ·exact .inl h
 refine .inr ⟨h,fun e=>?_⟩
 simp only [Value.ownBlock,Option.some.injEq] at e
 subst e
 rcases hat with h1|h1
 ·exact hne h1
 omega
theorem RV.own {B:Nat} {A:Nat→Prop} {v:Value} {W w4:World} {g H n cap:Nat} (hgrow:W.grownBy w4 v.ownBlock) (hown:∀k,v.ownBlock=some k→B≤k) (hat:v.ownBlock=some g∨g=H) (hH:W.heap.size=H) {x:GV} {a:Option Addr}
  (h:RV W (Own B A v) x a):RV w4 (Own B A (.slice (some ⟨g,0,none⟩) n cap)) x a:=
 Zt9 (fun b h _=>ZbC hat hH b h) _ _ (Zt5 (JX hgrow hown) _ _ (Zt9 (fun b h hb=>⟨h,hb⟩) _ _ h))
theorem RT.own {B:Nat} {A:Nat→Prop} {v:Value} {W w4:World} {g H n cap:Nat} (hgrow:W.grownBy w4 v.ownBlock) (hown:∀k,v.ownBlock=some k→B≤k) (hat:v.ownBlock=some g∨g=H) (hH:W.heap.size=H) {x:GT} {m:TA}
  (h:RT W (Own B A v) x m):RT w4 (Own B A (.slice (some ⟨g,0,none⟩) n cap)) x m:=
 Zud (fun b h _=>ZbC hat hH b h) _ _ (Zt2 (JX hgrow hown) _ _ (Zud (fun b h hb=>⟨h,hb⟩) _ _ h))
end Go.Proofs.YtkdffbdnjfgpeaaGreat
