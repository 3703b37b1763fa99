/- Part 4. -/
import Derived.Deep.AppendLies
import Derived.Laws.OwnMore
import Derived.Maps.AppendAt
import Derived.OwnWalk
import Derived.Test.YtclphfojkggcpaaGreatDoorX1
set_option linter.all false
namespace Go.Proofs.YtclphfojkggcpaaGreatDoor
open Go.Lib (hid)
open Go Go.RowKit Go.Proofs.Tryz
theorem Zde:(prog.info? 2).map (fun i=>(i.zero,i.size,i.bytes))=some (some (.int .i64 0),1,8):=kr
theorem ZcC {w:World} {base e g n cap:Nat} {A:Nat→Prop} {k:IntKind}:∀{l:List Int} {o:Nat},(∀j u,(l.map (Value.int k))[j]? =some u→w.cell? ⟨g,o+j,none⟩=some u)→A g→k=.i64→RIs w A l (some ⟨g,o,none⟩)
 | [],_,_,_,_=>by simp only [RIs]
 | x::l,o,h,hA,hk=>by
  subst hk
  simp only [RIs]
  refine ⟨g,o,rfl,hA,?_,ZcC (k:=.i64) (base:=base) (e:=e) (n:=n) (cap:=cap) (fun j u hj=>?_) hA rfl⟩
  ·simp only [At,and_true];exact h 0 _ sm
  have:=h (j+1) u (by simpa using hj);rw [show o+1+j=o+(j+1) by omega];exact this
theorem ZdI {w:World} {base e g n cap:Nat} {l:List Int} (h:w.ownsRow base e 1 (.slice (some ⟨g,0,none⟩) n cap) n (l.map (Value.int .i64))):RIs w (fun b=>base≤b) l (some ⟨g,0,none⟩):=by
 have hg:=h.lt g rfl
 refine ZcC (base:=base) (e:=e) (n:=n) (cap:=cap) (k:=.i64) (fun j u hj=>?_) hg.1 rfl
 have:=h.cells (g:=g) rfl j u hj
 simpa [Addr.add] using (by by_cases h0:j=0<;>simp_all [Addr.add])
def YM (s:Int):List Int→Int
 | []=>if s=0 then 7 else 0
 | x::r=>if x < 0∨1048576 < x then 1 else YM (s+x) r
def Yc (l:List Int):Int:=if l.length=0 then 4 else if 64 < l.length then 5 else YM 0 l
def Yy (s:Int):List Int→List Int
 | []=>[]
 | x::r=>(s+x)::Yy (s+x) r
def Zj:List Int→Int
 | []=>0
 | x::r=>x+Zj r
theorem WR (l:List Int) (j:Nat) (h:j < l.length):Zj (l.take (j+1))=Zj (l.take j)+l[j]:=by
 induction l generalizing j with
 | nil=>simp at h
 | cons x l ih=>cases j with
  | zero=>simp [Zj]
  | succ j=>have:=ih j (by simpa using h);simp only [List.take_succ_cons,Zj,List.getElem_cons_succ] at this ⊢;omega
theorem Zfq (s:Int) (l:List Int) (j:Nat) (h:j < l.length):Yy s (l.take (j+1))=Yy s (l.take j)++[s+Zj (l.take j)+l[j]]:=by
 induction l generalizing j s with
 | nil=>simp at h
 | cons x l ih=>cases j with
  | zero=>simp [Yy,Zj]
  | succ j=>
   have:=ih (s+x) j (by simpa using h)
   simp only [List.take_succ_cons,Yy,Zj,List.getElem_cons_succ,List.cons_append] at this ⊢
   rw [this,show s+(x+Zj (l.take j))=s+x+Zj (l.take j) by omega]
theorem Vw (s:Int) (l:List Int):(Yy s l).length=l.length:=by
 induction l generalizing s with
 | nil=>rfl
 | cons x l ih=>simp [Yy,ih]
def okW (l:List Int):Prop:=∀x∈l,0≤x∧x≤1048576
theorem WX:∀(l:List Int),okW l→0≤Zj l∧Zj l≤1048576*l.length
 | [],_=>by simp [Zj]
 | x::l,h=>by
  have h1:=h x sm
  have h2:=WX l (fun y hy=>h y (by simp [hy]))
  simp only [Zj,List.length_cons];omega
theorem Uq (s:Int):∀(l:List Int) (j:Nat),okW (l.take j)→YM s l=YM (s+Zj (l.take j)) (l.drop j)
 | [],j,_=>by simp [Zj]
 | x::l,0,_=>by simp [Zj]
 | x::l,j+1,h=>by
  have h1:=h x sm
  have h2:=Uq (s+x) l j (fun y hy=>h y (by simp [hy]))
  simp only [List.take_succ_cons,List.drop_succ_cons,YM,Zj]
  rw [if_neg om,h2,show s+x+Zj (l.take j)=s+(x+Zj (l.take j)) by omega]
def ZkI (l:List Int) (w:World):Ending→World→Prop:=fun e w'=>Below w.heap.size w w' ∧
 ((Yc l≠0∧e=.returned (.tuple #[.pointer none,.int .i64 (Yc l)])) ∨
  (Yc l=0∧∃b a c,e=.returned (.tuple #[.pointer (some ⟨b,0,none⟩),.int .i64 0])∧w.heap.size≤b∧b < w'.heap.size∧w'.cell? ⟨b,0,none⟩=some (.slice a l.length c)∧RIs w' (fun k=>w.heap.size < k) (Yy 0 l) a))
theorem q30 {p:Prop} (h:p:=by
 go_enter func116,ntmps116
 go_wp2_with fail
 go_ret2
 exact ⟨Below.refl _ _,.inl ⟨by rw [HE.out];simp,by rw [HE.out];rfl⟩⟩):p:=h
set_option maxRecDepth 100000
set_option maxHeartbeats 1000000
theorem Uf (l:List Int) (w:World) (A:Nat→Prop) (wa:Option Addr) (wc:Nat) (ol:okIs l) (hln:l.length≤1048576) (hl:RIs w A l wa):
  Calls prog 116 #[.slice wa l.length wc] w (ZkI l w):=by
 have HL:=hid hl
 have O:=hid ol
 clear hl ol
 obtain ⟨i0,hi,hz0,hz1,hz2⟩:=info_parts Zde
 by_cases h0:l.length=0
 ·have h0':((l.length:Int)==0)=true:=beq_iff_eq.2 om
  have HE:=hid (show Yc l=4 by unfold Yc;rw [if_pos h0])
  clear h0
  exact q30
 have h0':((l.length:Int)==0)=false:=beq_eq_false_iff_ne.2 om
 by_cases h1:64 < l.length
 ·have HE:=hid (show Yc l=5 by unfold Yc;rw [if_neg h0,if_pos h1])
  have h1':decide ((64:Int) < (l.length:Int))=true:=decide_eq_true om
  clear h0 h1
  exact q30
 have h1':decide ((64:Int) < (l.length:Int))=false:=decide_eq_false om
 have HE:=hid (show Yc l=YM 0 l by unfold Yc;rw [if_neg h0,if_neg h1])
 have h1'':l.length≤64:=om
 have hpos:0 < l.length:=om
 clear h0 h1
 go_enter func116,ntmps116
 go_wp2_with fail
 go_loopg [5,20] (l.length) (fun gk t5 i wr=>∃j:Nat,gk+j=l.length∧i=.int .i64 j∧t5=.int .i64 (Zj (l.take j))∧Hid (okW (l.take j))∧Below w.heap.size w wr∧w.heap.size < wr.heap.size ∧
   ∃v,wr.cell? ⟨w.heap.size,0,none⟩=some v∧wr.frozen? ⟨w.heap.size,0,none⟩=false∧Hid (wr.ownsRow (w.heap.size+1) 2 1 v j ((Yy 0 (l.take j)).map (Value.int .i64))))
 case atStart=>exact ⟨0,om,rfl,by simp [Zj],fun x hx=>by simp at hx,ZlU,sm,.slice none 0 0,gs,gs,hid (by simpa [Yy] using World.ownsRow_nil _ _ _ _)⟩
 case round=>
  obtain ⟨j,hj,rfl,rfl,HW,hb,hz,v,hc,hf,HO⟩:=hrel
  by_cases hlt:j < l.length
  ·obtain ⟨b,o,rfl,hA,hbs,g0⟩:=HL.out.get j hlt
   have k0:wr.cell? ⟨b,o+j,none⟩=some (.int .i64 l[j]):=(hb.cell hbs).trans g0
   obtain ⟨r1,r2⟩:=O.out.get j hlt
   have hsum:=WX _ HW.out
   have hjl:(l.take j).length=j:=by simp;omega
   rw [hjl] at hsum
   obtain ⟨s1,s2⟩:=hsum
   have hs1:b < wr.heap.size:=om
   clear g0 hjl
   by_cases hx:l[j] < 0∨1048576 < l[j]
   ·have HE2:=hid (show Yc l=1 by rw [HE.out,Uq 0 l j HW.out,List.drop_eq_getElem_cons hlt,YM,if_pos hx])
    rcases hx with hx|hx
    all_goals go_wp2_with fail
    all_goals go_ret2
    all_goals exact ⟨hb,.inl ⟨by rw [HE2.out];simp,by rw [HE2.out];rfl⟩⟩
   have hx1:0≤l[j]:=om
   have hx2:l[j]≤1048576:=om
   have hst:=WR l j hlt
   have hpt:=Zfq 0 l j hlt
   rw [show (0:Int)+Zj (l.take j)+l[j]=Zj (l.take j)+l[j] by omega] at hpt
   have HST:=hid hst
   have HPT:=hid hpt
   have HW2:=hid (show okW (l.take (j+1)) from fun y hy=>by
    rw [List.take_succ_eq_append_getElem hlt] at hy
    rcases List.mem_append.1 hy with h|h
    ·exact HW.out y h
    simp at h;subst h;exact ⟨hx1,hx2⟩)
   have hne:v.ownBlock≠some w.heap.size:=fun e=>by have:=(HO.out.lt _ e).1;omega
   have HNE:=hid hne
   clear hst hpt hx hne
   generalize hS:Zj (l.take j)=S at *
   have HS:=hid hS
   clear hS
   go_wp2_with (at_builtin;refine wpList_append_lies _ rfl _ _ 25 rfl (w.heap.size+1) 2 i0 (.int .i64 0) 1 8 underlying25 hi hz0 hz1 hz2 rfl (by decide) v j _ (by rfl) (HO.out.alloc _) ⟨wr.heap.size,0,none⟩ 1 1 [.int .i64 (S+l[j])] (by rfl) rfl (cell_one_new _ _ _) (by simp [Value.oneCell']) (by decide) (by unfold maxLen;omega) om (by simp;omega) (wr.heap.size+1) sm ?_;intro g cap w1 hown hgrow hat hlt1;have hc1:w1.cell? ⟨w.heap.size,0,none⟩=some v:=(hgrow.cell_far ⟨w.heap.size,0,none⟩ (by simp;omega) (Ne.symm HNE.out)).trans gs;have hf1:w1.frozen? ⟨w.heap.size,0,none⟩=false:=(hgrow.frozen_far ⟨w.heap.size,0,none⟩ (by simp;omega) (Ne.symm HNE.out)).trans gs)
   go_roundg (gk - 1)
   case measure=>omega
   case rel=>
    refine ⟨j+1,om,by go_num,by rw [HST.out],HW2,?_,?_,_,World.cell?_setCell_same' _ _ _ (by rw [hc1];rfl),by rw [World.frozen?_setCell];exact hf1,hid ?_⟩
    ·exact (((hb.alloc om _).grown hgrow (by simp;omega) (fun k e=>by have:=(HO.out.lt _ e).1;omega)).setCell sm _)
    ·have:=hgrow.size;simp at this ⊢;omega
    rw [HPT.out,List.map_append];exact ownsRow_setCell_below hown sm _
  have hjl:j=l.length:=om
  subst hjl
  have hfl:=Uq 0 l l.length HW.out
  rw [List.take_length,List.drop_length,YM] at hfl
  rw [List.take_length] at HO
  simp only [List.take_length]
  have HFL:=hid hfl
  clear hfl
  by_cases hs:Zj l=0
  ·have hs':(Zj l==0)=true:=beq_iff_eq.2 hs
   have HE2:=hid (show Yc l=7 by rw [HE.out,HFL.out,if_pos om])
   clear hs
   go_wp2_with fail
   go_ret2
   exact ⟨hb,.inl ⟨by rw [HE2.out];simp,by rw [HE2.out];rfl⟩⟩
  have hs':(Zj l==0)=false:=beq_eq_false_iff_ne.2 hs
  have HE2:=hid (show Yc l=0 by rw [HE.out,HFL.out,if_neg om])
  clear hs
  go_wp2_with fail
  go_ret2
  obtain ⟨g,cap,rfl,hg1,hg2⟩:=HO.out.form om
  exact ⟨hb,.inr ⟨HE2.out,w.heap.size,_,_,rfl,Nat.le_refl _,hz,hc,Znr (fun _ hb _=>hb) _ _ (ZdI HO.out)⟩⟩
set_option maxRecDepth 512
theorem Agree.set {A:Nat→Prop} {w:World} {p:Addr} {v:Value} (h:¬A p.block):Agree A w (w.setCell p v):=fun q u hA hc=>
 have e:=Below.heap_setCell w p v q.block (fun e=>h (by rw [←e];exact hA))
 ⟨(World.cell?_of_block (w:=w) e).trans hc,World.frozen?_of_block (w:=w) e⟩
abbrev ZmA:=@Agree.set
theorem Agree.refl (A:Nat→Prop) (w:World):Agree A w w:=fun _ _ _ hc=>⟨hc,rfl⟩
theorem Agree.grown {A:Nat→Prop} {w w':World} {r:Option Nat} (h:w.grownBy w' r) (hA:∀b,A b→some b≠r):Agree A w w':=fun p _ ha hc=>⟨h.cell hc (hA _ ha),World.frozen?_of_block (h.block p.block (World.block_lt_of_cell? _ _ hc) (hA _ ha))⟩
abbrev Znm:=@Agree.grown
def Xd:List (GV×VA)→List Value
 | []=>[]
 | (x,m)::r=>.int .u8 x.k::.int .i64 x.n::.slice m.a x.l.length m.c::Xd r
theorem UP:∀ps:List (GV×VA),(Xd ps).length=ps.length*3
 | []=>rfl
 | (x,m)::r=>by simp only [Xd,List.length_cons,UP r];omega
theorem X3:∀ps qs:List (GV×VA),Xd (ps++qs)=Xd ps++Xd qs
 | [],qs=>rfl
 | (x,m)::r,qs=>by simp only [List.cons_append,Xd,X3 r qs]
theorem QS:∀(ps:List (GV×VA)) (j:Nat) (h:j < ps.length),(Xd ps)[j*3]? =some (.int .u8 ps[j].1.k)∧(Xd ps)[j*3+1]? =some (.int .i64 ps[j].1.n)∧(Xd ps)[j*3+2]? =some (.slice ps[j].2.a ps[j].1.l.length ps[j].2.c)
 | [],j,h=>absurd h sm
 | (x,m)::r,0,_=>⟨rfl,rfl,rfl⟩
 | (x,m)::r,j+1,h=>by
  have:=QS r j (by simpa using h)
  rw [show (j+1)*3=j*3+3 by omega]
  exact this
theorem Zcr:∀(ps:List (GV×VA)) (j:Nat) (x:GV) (m:VA),j < ps.length →
  (((Xd ps).set (j*3) (.int .u8 x.k)).set (j*3+1) (.int .i64 x.n)).set (j*3+2) (.slice m.a x.l.length m.c)=Xd (ps.set j (x,m))
 | [],j,_,_,h=>absurd h sm
 | (y,m')::r,0,x,m,_=>rfl
 | (y,m')::r,j+1,x,m,h=>by
  have:=Zcr r j x m (by simpa using h)
  rw [show (j+1)*3=j*3+3 by omega]
  simp only [Xd,List.set_cons_succ]
  rw [this]
def QL:GV×VA:=(⟨0,0,[]⟩,⟨none,0⟩)
theorem Zbg (n:Nat):(madeCells #[.int .u8 0,.int .i64 0,.slice none 0 0] (n*3)).toList=Xd (List.replicate n QL):=by
 apply List.ext_getElem
 ·simp [madeCells,UP]
 intro i h1 h2
 simp [madeCells] at h1
 have hj:i / 3 < (List.replicate n QL).length:=by simp;omega
 obtain ⟨g0,g1,g2⟩:=QS (List.replicate n QL) (i / 3) hj
 have hi:i % 3=0∨i % 3=1∨i % 3=2:=om
 rcases hi with hi|hi|hi
 ·rw [show i / 3*3=i by omega,List.getElem?_eq_getElem h2] at g0
  rw [Option.some.inj g0]
  simp [madeCells,hi,QL]
 ·rw [show i / 3*3+1=i by omega,List.getElem?_eq_getElem h2] at g1
  rw [Option.some.inj g1]
  simp [madeCells,hi,QL]
 rw [show i / 3*3+2=i by omega,List.getElem?_eq_getElem h2] at g2
 rw [Option.some.inj g2]
 simp [madeCells,hi,QL]
theorem KX {w:World} {g:Nat} {A:Nat→Prop} (hA:A g) (hfz:∀j,w.frozen? ⟨g,j,none⟩=false):∀(ps:List (GV×VA)) (o:Nat),(∀j u,(Xd ps)[j]? =some u→w.cell? ⟨g,o+j,none⟩=some u)→(∀p∈ps,RV w A p.1 p.2.a)→RVs w A (ps.map Prod.fst) (some ⟨g,o,none⟩)
 | [],o,_,_=>by simp only [List.map_nil,RVs]
 | (x,m)::r,o,h,hr=>by
  simp only [List.map_cons,RVs]
  refine ⟨g,o,m,rfl,hA,?_,hr (x,m) sm,KX hA hfz r (o+3) (fun j u hj=>?_) (fun p hp=>hr p (by simp [hp])),fun _ j _=>hfz _⟩
  ·rw [At3]
   exact ⟨h 0 _ rfl,h 1 _ rfl,h 2 _ rfl⟩
  have:=h (j+3) u (by simpa [Xd] using hj)
  rw [show o+3+j=o+(j+3) by omega];exact this
theorem Qi {w:World} {base e g n cap:Nat} {A:Nat→Prop} {ps:List (GV×VA)} (hA:A g) (h:w.ownsRow base e 3 (.slice (some ⟨g,0,none⟩) n cap) n (Xd ps)) (hr:∀p∈ps,RV w A p.1 p.2.a):RVs w A (ps.map Prod.fst) (some ⟨g,0,none⟩):=by
 refine KX hA h.frozenAt ps 0 (fun j u hj=>?_) hr
 have hl:=h.1
 have hj2:=(List.getElem?_eq_some_iff.1 hj).1
 rw [Nat.zero_add,h.cellAt j om];exact hj
theorem ZR {w w':World} {B base e size n:Nat} {v:Value} {xs:List Value} (h:w.ownsRow base e size v n xs) (hb:Below B w w') (hv:∀k,v.ownBlock=some k→k < B):w'.ownsRow base e size v n xs:=by
 obtain ⟨h1,h2⟩:=h
 refine ⟨h1,?_⟩
 rcases h2 with h|⟨g,cap,cur,rfl,hbs,hg,h3⟩
 ·exact .inl h
 exact .inr ⟨g,cap,cur,rfl,hbs,(hb.block g (hv g rfl)).trans hg,h3⟩
theorem Jn {w:World} {base e g n cap:Nat} {ps:List (GV×VA)} (h:w.ownsRow base e 3 (.slice (some ⟨g,0,none⟩) n cap) n (Xd ps)) (j:Nat) (x:GV) (m:VA) (hj:j < ps.length):
  (((w.setCell ⟨g,j*3,none⟩ (.int .u8 x.k)).setCell ⟨g,j*3+1,none⟩ (.int .i64 x.n)).setCell ⟨g,j*3+2,none⟩ (.slice m.a x.l.length m.c)).ownsRow base e 3 (.slice (some ⟨g,0,none⟩) n cap) n (Xd (ps.set j (x,m))) ∧
  w.grownBy (((w.setCell ⟨g,j*3,none⟩ (.int .u8 x.k)).setCell ⟨g,j*3+1,none⟩ (.int .i64 x.n)).setCell ⟨g,j*3+2,none⟩ (.slice m.a x.l.length m.c)) (some g):=by
 obtain ⟨h1,g1⟩:=h.stored (j*3) (.int .u8 x.k)
 obtain ⟨h2,g2⟩:=h1.stored (j*3+1) (.int .i64 x.n)
 obtain ⟨h3,g3⟩:=h2.stored (j*3+2) (.slice m.a x.l.length m.c)
 rw [Zcr ps j x m hj] at h3
 exact ⟨h3,(g1.trans g2).trans g3⟩
def Own (B:Nat) (A:Nat→Prop) (v:Value) (b:Nat):Prop:=(A b∧b < B)∨(B≤b∧v.ownBlock≠some b)
theorem JX {B:Nat} {A:Nat→Prop} {v:Value} {W w4:World} (hgrow:W.grownBy w4 v.ownBlock) (hown:∀k,v.ownBlock=some k→B≤k):Agree (fun b=>Own B A v b∧b < W.heap.size) W w4:=
 Znm hgrow fun b ⟨hb,_⟩ e=>by
  rcases hb with ⟨_,h⟩|⟨_,h⟩
  ·have:=hown b e.symm;omega
  exact h e.symm
theorem ZbC {B:Nat} {A:Nat→Prop} {v:Value} {W:World} {g H n cap:Nat} (hat:v.ownBlock=some g∨g=H) (hH:W.heap.size=H) (b:Nat) (h:Own B A v b∧b < W.heap.size):Own B A (.slice (some ⟨g,0,none⟩) n cap) b:=by
 obtain ⟨h,hb⟩:=h
 rcases h with h|⟨h,hne⟩
 ·exact .inl h
 refine .inr ⟨h,fun e=>?_⟩
 simp only [Value.ownBlock,Option.some.injEq] at e
 subst e
 rcases hat with h1|h1
 ·exact hne h1
 omega
theorem RV.own {B:Nat} {A:Nat→Prop} {v:Value} {W w4:World} {g H n cap:Nat} (hgrow:W.grownBy w4 v.ownBlock) (hown:∀k,v.ownBlock=some k→B≤k) (hat:v.ownBlock=some g∨g=H) (hH:W.heap.size=H) {x:GV} {a:Option Addr}
  (h:RV W (Own B A v) x a):RV w4 (Own B A (.slice (some ⟨g,0,none⟩) n cap)) x a:=
 ZmO (fun b h _=>ZbC hat hH b h) _ _ (ZmG (JX hgrow hown) _ _ (ZmO (fun b h hb=>⟨h,hb⟩) _ _ h))
abbrev Znj:=@RV.own
theorem RT.own {B:Nat} {A:Nat→Prop} {v:Value} {W w4:World} {g H n cap:Nat} (hgrow:W.grownBy w4 v.ownBlock) (hown:∀k,v.ownBlock=some k→B≤k) (hat:v.ownBlock=some g∨g=H) (hH:W.heap.size=H) {x:GT} {m:TA}
  (h:RT W (Own B A v) x m):RT w4 (Own B A (.slice (some ⟨g,0,none⟩) n cap)) x m:=
 ZmV (fun b h _=>ZbC hat hH b h) _ _ (ZlV (JX hgrow hown) _ _ (ZmV (fun b h hb=>⟨h,hb⟩) _ _ h))
theorem US:(prog.info? 24).map (fun i=>(i.zero,i.size,i.bytes))=some (some (.agg #[.int .u8 0,.int .i64 0,.slice none 0 0]),3,40):=kr
theorem Zgq (n:Int) (w:World):Calls prog 114 #[.int .i64 n] w fun e w'=>e=.returned (VV ⟨1,n,[]⟩ ⟨none,0⟩)∧Below w.heap.size w w':=by
 go_enter func114,ntmps114
 go_wp2_with fail
 refine bodyPost_ret (v:=VV ⟨1,n,[]⟩ ⟨none,0⟩) (by first|(simp [results,Tryz.f114,go_sem];done)|(simp [results,Tryz.f114,go_sem, *];done)) rfl ?_
 exact ⟨rfl,ZlU⟩
theorem VX (l:List GV) (a:Option Addr) (cp:Nat) (w:World):Calls prog 122 #[.slice a l.length cp] w fun e w'=>e=.returned (VV ⟨4,0,l⟩ ⟨a,cp⟩)∧Below w.heap.size w w':=by
 go_enter func122,ntmps122
 go_wp2_with fail
 refine bodyPost_ret (v:=VV ⟨4,0,l⟩ ⟨a,cp⟩) (by first|(simp [results,Tryz.f122,go_sem];done)|(simp [results,Tryz.f122,go_sem, *];done)) rfl ?_
 exact ⟨rfl,ZlU⟩
def Zga (l:List GV) (w:World):Ending→World→Prop:=fun e w'=>Below w.heap.size w w'∧∃a c,e=.returned (.slice a l.length c)∧RVs w' (fun b=>w.heap.size≤b) l a
def ZhC (x:GV) (w:World):Ending→World→Prop:=fun e w'=>Below w.heap.size w w'∧∃m,e=.returned (VV x m)∧RV w' (fun b=>w.heap.size≤b) x m.a
set_option maxRecDepth 100000
theorem Zgj (x:GV) (m:VA) (w:World) (A:Nat→Prop) (ox:okV x) (h:∀W,RVs W A x.l m.a→Calls prog 36 #[.slice m.a x.l.length m.c] W (Zga x.l W)) (hl:RVs w A x.l m.a):
  Calls prog 58 #[VV x m] w (ZhC x w):=by
 obtain ⟨ma,mc⟩:=m
 have HX:=hid h
 have HL:=hid hl
 obtain ⟨⟨x1,x2⟩,⟨x3,x4⟩,x5,_⟩:=ZA.1 ox
 clear h hl ox
 go_enter func58,ntmps58
 go_wp2_with (go_at_call 36;refine (HX.out _ (by exact ZmQ az _ _ HL.out)).mono ?_;rintro e w1 ⟨hb1,a,c,rfl,hr1⟩;obtain ⟨hc1,hf1⟩:=Za hb1;have hz1:=hb1.size;simp at hz1;have HR1:=hid hr1;clear hr1;have p0:w1.cell? ⟨w.heap.size,0,none⟩=some (.int .u8 x.k):=gs;have p1:w1.cell? ⟨w.heap.size,1,none⟩=some (.int .i64 x.n):=gs;have p2:w1.cell? ⟨w.heap.size,2,none⟩=some (.slice ma x.l.length mc):=gs;have q0:w1.cell? ⟨w.heap.size+1,0,none⟩=some (.int .u8 0):=gs;have q1:w1.cell? ⟨w.heap.size+1,1,none⟩=some (.int .i64 0):=gs;have q2:w1.cell? ⟨w.heap.size+1,2,none⟩=some (.slice none 0 0):=gs)
 refine bodyPost_ret (v:=VV x ⟨a,c⟩) (by first|(simp [results,Tryz.f58,go_sem];done)|(simp [results,Tryz.f58,go_sem, *];done)) rfl ?_
 exact ⟨ZlU,⟨a,c⟩,rfl,Zl.2 (Znh (fun b hb _=>by simp at hb;omega) _ _ (ZmQ (((ZmA so).trans (ZmA so)).trans ((ZmA so).trans (ZmA so))) _ _ HR1.out))⟩
set_option maxRecDepth 512
theorem q31 {p:Prop} (h:p:=by
 subst h0
 go_enter func36,ntmps36
 go_wp2_with fail
 go_ret
 exact ⟨ZlU,none,0,rfl,by simp only [RVs]⟩):p:=h
set_option maxRecDepth 100000
theorem Za8 (N:Nat):∀(l:List GV) (w:World) (A:Nat→Prop) (a:Option Addr) (cp:Nat),Zi l≤N→l.length≤1048576→okVs l→RVs w A l a →
  Calls prog 36 #[.slice a l.length cp] w (Zga l w):=by
 induction N with
 | zero=>
  intro l w A a cp hN hl ol hr
  have h0:l=[]:=by have:=WW l;exact List.eq_nil_of_length_eq_zero om
  exact q31
 | succ N ih=>
  intro l w A a cp hN hln ol hr
  by_cases h0:l=[]
  ·exact q31
  have hpos:0 < l.length:=by rcases l with _|⟨x,l⟩;exact absurd rfl h0;simp
  have h0':((l.length:Int)==0)=false:=beq_eq_false_iff_ne.2 om
  have IH:=hid ih
  have HL:=hid hr
  have O:=hid ol
  obtain ⟨i0,hi,hz0,hz1,hz2⟩:=info_parts US
  clear ih hr ol h0
  go_enter func36,ntmps36
  go_wp2_with (at_make;refine wpList_make_full _ rfl _ _ 22 rfl w.heap.size 24 i0 _ 3 rfl hi hz0 hz1 .i64 .i64 _ _ l.length rfl rfl rfl rfl (by rw [hz2];omega) (by unfold maxLen;omega) (Nat.le_refl _) ?_;intro w1 hown hgrow)
  have hz1:w.heap.size < w1.heap.size:=(hown.lt _ rfl).2
  have hb1:Below w.heap.size w w1:=Below.grown (Below.refl _ _) hgrow (Nat.le_refl _) (fun k e=>by cases e)
  simp only [Value.cells,Zbg] at hown
  have HO:=hid hown
  clear hown hgrow
  go_loopg [14] (l.length) (fun gk i wr=>∃j:Nat,gk+j=l.length∧i=.int .i64 j∧Below w.heap.size w wr∧w.heap.size < wr.heap.size∧∃ps:List (GV×VA),Hid (ps.length=l.length) ∧
   Hid (wr.ownsRow w.heap.size 24 3 (.slice (some ⟨w.heap.size,0,none⟩) l.length l.length) l.length (Xd ps)) ∧
   Hid (∀q (h:q < l.length) (h':q < ps.length),q < j→ps[q].1=l[q]∧RV wr (fun b=>w.heap.size < b) ps[q].1 ps[q].2.a))
  case atStart=>exact ⟨0,om,rfl,hb1,hz1,List.replicate l.length QL,hid sm,hid HO.out,fun q h h' hq=>absurd hq om⟩
  case round=>
   obtain ⟨j,hj,rfl,hb,hz,ps,HP,HW,HQ⟩:=hrel
   by_cases hlt:j < l.length
   ·obtain ⟨b,o,⟨mja,mjc⟩,rfl,hA,hbs,g0,gx⟩:=HL.out.get j hlt
    obtain ⟨k0,k1,k2⟩:=At3.1 (g0.ext (ZlH hb) (A:=fun _=>True) trivial)
    have hs1:b < wr.heap.size:=om
    clear g0
    go_wp2_with (go_at_call 58;refine (Zgj l[j] ⟨mja,mjc⟩ _ A (O.out.get j hlt) (fun W h=>IH.out l[j].l W A _ _ (by have:=ZX l j hlt;have:=XZ l[j];omega) (ZA.1 (O.out.get j hlt)).2.2.1 (ZA.1 (O.out.get j hlt)).2.2.2 h) (by exact Zl.1 (ZmG az _ _ gx))).mono ?_;rintro e w2 ⟨hb2,m,rfl,hr2⟩;have HR2:=hid hr2;clear hr2;have hz2:=hb2.size;simp at hz2;have hbb:Below wr.heap.size wr w2:=ZlU;have HW2:=hid (ZR HW.out hbb (fun k e=>(by cases e;exact hz)));have hjp:j < ps.length:=(by rw [HP.out];exact hlt);obtain ⟨y0,y1,y2⟩:=QS ps j hjp;have z0:=(HW2.out.cellAt (j*3) om).trans y0;have z1:=(HW2.out.cellAt (j*3+1) om).trans y1;have z2:=(HW2.out.cellAt (j*3+2) om).trans y2;have hff:∀o,w2.frozen? ⟨w.heap.size,o,none⟩=false:=HW2.out.frozenAt;clear y0 y1 y2)
    obtain ⟨hst,hsg⟩:=Jn HW2.out j l[j] m hjp
    have hag:Agree (fun b=>w.heap.size < b) wr (((w2.setCell ⟨w.heap.size,j*3,none⟩ (.int .u8 l[j].k)).setCell ⟨w.heap.size,j*3+1,none⟩ (.int .i64 l[j].n)).setCell ⟨w.heap.size,j*3+2,none⟩ (.slice m.a l[j].l.length m.c)):=
     (ZlH hbb).trans (Znm hsg fun b hb e=>by cases e;omega)
    go_roundg (gk - 1)
    case measure=>omega
    case rel=>
     refine ⟨j+1,om,by go_num,?_,by simp;omega,ps.set j (l[j],m),hid (by simp [HP.out]),hid hst,fun q h h' hq=>?_⟩
     ·exact ((hb.trans (hbb.mono om)).setCell (Nat.le_refl _) _).setCell (Nat.le_refl _) _ |>.setCell (Nat.le_refl _) _
     by_cases hqj:q=j
     ·subst hqj
      rw [List.getElem_set_self]
      exact ⟨rfl,ZmG (Znm hsg fun b hb e=>by cases e;omega) _ _ (ZmO (fun b h _=>by simp at h;omega) _ _ HR2.out)⟩
     rw [List.getElem_set_ne (fun e=>hqj e.symm)]
     have h9:=HQ.out q h (by simpa using h') om
     exact ⟨h9.1,ZmG hag _ _ h9.2⟩
   have hjl:j=l.length:=om
   subst hjl
   go_wp2_with fail
   go_ret
   refine ⟨hb,_,_,rfl,?_⟩
   have h1:=Qi (A:=fun b=>w.heap.size≤b) (Nat.le_refl _) HW.out (fun p hp=>by
    obtain ⟨q,hq,rfl⟩:=List.getElem_of_mem hp
    have:=HP.out
    exact ZmO (fun b h _=>om) _ _ (HQ.out q om hq om).2)
   have h2:ps.map Prod.fst=l:=List.ext_getElem (by simp [HP.out]) fun q h h'=>by
    simp only [List.getElem_map]
    exact (HQ.out q h' (by simpa using h) om).1
   rw [h2] at h1
   exact h1
set_option maxRecDepth 512
theorem ZeP {w:World} {b:Nat}:∀(l:List Value) (o:Nat),(∀j u,l[j]? =some u→w.cell? ⟨b,o+j,none⟩=some u)→At w b o l
 | [],o,_=>trivial
 | v::l,o,h=>⟨h 0 v rfl,ZeP l (o+1) fun j u hj=>by
   have:=h (j+1) u (by simpa using hj)
   rw [show o+1+j=o+(j+1) by omega];exact this⟩
theorem ZjY {W:World} {cs:Array Value} {T:TypeId} {b o:Nat} {l:List Value} (hb:b=W.heap.size) (hl:∀j u,l[j]? =some u→cs.toList[o+j]? =some u):At (W.alloc (.cells cs T)) b o l:=by
 subst hb
 refine ZeP l o fun j u hj=>?_
 have:=World.news_of_block (heap_alloc_new W (.cells cs T)) (o+j) u (hl j u hj)
 rwa [Addr.add_lit,Nat.zero_add] at this
theorem Xr {W:World} {l:List Value} {T:TypeId} {b:Nat} (hb:b=W.heap.size):At (W.alloc (.cells l.toArray T)) b 0 l:=
 ZjY hb fun j u hj=>by simpa using hj
theorem Wm {W:World} {x:Obj} {b o:Nat} {l:List Value} (h:At W b o l) (_hb:b < W.heap.size):At (W.alloc x) b o l:=
 ZmS (A:=fun _=>True) (ZlH (Below.alloc (Below.refl _ _) (Nat.le_refl _) _)) trivial _ _ h
theorem KR {W:World} {b o:Nat} {l:List Value} (h:At W b o l):At W.drew b o l:=
 ZmS (A:=fun _=>True) (ZlH (Below.drew (Below.refl _ _))) trivial _ _ h
theorem Xa {W W':World} {b o:Nat} {l:List Value} (h:At W b o l) (hB:Below W.heap.size W W'):At W' b o l:=
 ZmS (A:=fun _=>True) (ZlH hB) trivial _ _ h
set_option maxRecDepth 100000
theorem Zck (lo hi:Int) (w:World):Calls prog 16 #[.int .i64 lo,.int .i64 hi] w fun e w'=>e=.returned (TV (Yh lo hi) VZ)∧Below w.heap.size w w':=by
 go_enter func16,ntmps16
 go_wp2_with fail
 refine bodyPost_ret (v:=TV (Yh lo hi) VZ) (by simp [results,Tryz.f16,go_sem,Yh,VZ,noV,noP]) rfl ?_
 exact ⟨rfl,ZlD⟩
theorem X0 (n:Int) (w:World):Calls prog 17 #[.int .i64 n] w fun e w'=>e=.returned (PV (YN n) WG)∧Below w.heap.size w w':=by
 go_enter func17,ntmps17
 go_wp2_with fail
 refine bodyPost_ret (v:=PV (YN n) WG) (by simp [results,Tryz.f17,go_sem,YN,WG,noV,noP]) rfl ?_
 exact ⟨rfl,ZlD⟩
end Go.Proofs.YtclphfojkggcpaaGreatDoor
