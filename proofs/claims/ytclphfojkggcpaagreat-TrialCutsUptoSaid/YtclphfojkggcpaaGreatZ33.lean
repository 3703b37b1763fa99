/- What the proofs of the Trial statements need: part 34. -/
import Derived.Deep.RegionHeld3
import Derived.IntWalk
import Derived.RegionTactic
import Derived.Test.YtclphfojkggcpaaGreatZ2
import Derived.Test.YtclphfojkggcpaaGreatZ3
import Derived.Test.YtclphfojkggcpaaGreatZ12
import Derived.Test.YtclphfojkggcpaaGreatZ28
import Derived.Test.YtclphfojkggcpaaGreatZ32
import Derived.Test.YtclphfojkggcpaaGreatZTk
set_option linter.unusedVariables false
set_option linter.unusedSimpArgs false
namespace Go.Proofs.YtclphfojkggcpaaGreat
open Go.Lib (hid)
open Go Go.RowKit
theorem At5 {w b o c0 c1 c2 c3 c4}:At w b o [c0,c1,c2,c3,c4]↔w.cell? ⟨b,o,none⟩=some c0∧w.cell? ⟨b,o+1,none⟩=some c1∧w.cell? ⟨b,o+2,none⟩=some c2 ∧
  w.cell? ⟨b,o+3,none⟩=some c3∧w.cell? ⟨b,o+4,none⟩=some c4:=by
 simp only [At,Nat.add_assoc,Nat.reduceAdd,and_true]
def okR (x:GR):Prop:=isI64 x.f∧isI64 x.t∧okV x.v
def RRs (w:World) (A:Nat→Prop):List GR→Option Addr→Prop
 | [],_=>True
 | x::l,a=>∃b o m,a=some ⟨b,o,none⟩∧A b∧At w b o [.int .i64 x.f,.int .i64 x.t,.int .u8 x.v.k,.int .i64 x.v.n,.slice (VA.a m) x.v.l.length (VA.c m)]∧RV w A x.v m.a∧RRs w A l (some ⟨b,o+5,none⟩)
theorem RRs.ext {w w':World} {A:Nat→Prop} (h:Agree A w w'):∀(l:List GR) a,RRs w A l a→RRs w' A l a
 | [],_,_=>by simp only [RRs]
 | x::l,a,hx=>by
  simp only [RRs] at hx ⊢
  obtain ⟨b,o,m,e,hA,h0,hx,hl⟩:=hx
  exact ⟨b,o,m,e,hA,h0.ext h hA,RV.ext h x.v _ hx,RRs.ext h l _ hl⟩
theorem RRs.mono {w:World} {A A':Nat→Prop} (h:∀b,A b→b < w.heap.size→A' b):∀(l:List GR) a,RRs w A l a→RRs w A' l a
 | [],_,_=>by simp only [RRs]
 | x::l,a,hx=>by
  simp only [RRs] at hx ⊢
  obtain ⟨b,o,m,e,hA,h0,hx,hl⟩:=hx
  exact ⟨b,o,m,e,h b hA (World.block_lt_of_cell? _ _ h0.1),h0,RV.mono h x.v _ hx,RRs.mono h l _ hl⟩
theorem RRs.get {w A}:∀{l:List GR} {a},RRs w A l a→∀i (h:i < l.length),∃b o m,a=some ⟨b,o,none⟩∧A b∧b < w.heap.size ∧
  At w b (o+i*5) [.int .i64 l[i].f,.int .i64 l[i].t,.int .u8 l[i].v.k,.int .i64 l[i].v.n,.slice (VA.a m) l[i].v.l.length (VA.c m)]∧RV w A l[i].v m.a
 | [],_,_,i,h=>absurd h (by simp)
 | x::l,a,h,i,hi=>by
  simp only [RRs] at h
  obtain ⟨b,o,m,rfl,hA,h0,hx,hl⟩:=h
  have hb:b < w.heap.size:=World.block_lt_of_cell? _ _ h0.1
  cases i with
  | zero=>exact ⟨b,o,m,rfl,hA,hb,by simpa using h0,hx⟩
  | succ i=>
   obtain ⟨b',o',m',e,hA',hb',g0,gx⟩:=hl.get i (by simpa using hi)
   simp at e
   obtain ⟨rfl,rfl⟩:=e
   exact ⟨b,o,m',rfl,hA,hb,by rw [show o+(i+1)*5=o+5+i*5 from by omega];exact g0,gx⟩
theorem RRs.drop {w A}:∀{l:List GR} {b o:Nat},RRs w A l (some ⟨b,o,none⟩)→∀k,RRs w A (l.drop k) (some ⟨b,o+k*5,none⟩)
 | [],_,_,_,k=>by simp only [List.drop_nil,RRs]
 | x::l,b,o,h,0=>by simpa using h
 | x::l,b,o,h,k+1=>by
  simp only [RRs] at h
  obtain ⟨b',o',m,e,hA,h0,hx,hl⟩:=h
  simp at e
  obtain ⟨rfl,rfl⟩:=e
  rw [List.drop_succ_cons,show o+(k+1)*5=o+5+k*5 by omega]
  exact RRs.drop hl k
theorem RRs.take {w A}:∀{l:List GR} {a},RRs w A l a→∀k,RRs w A (l.take k) a
 | [],_,_,k=>by simp only [List.take_nil,RRs]
 | x::l,a,h,0=>by simp only [List.take_zero,RRs]
 | x::l,a,h,k+1=>by
  simp only [List.take_succ_cons,RRs] at h ⊢
  obtain ⟨b',o',m,e,hA,h0,hx,hl⟩:=h
  exact ⟨b',o',m,e,hA,h0,hx,RRs.take hl k⟩
def flatR:List (GR×VA)→List Value
 | []=>[]
 | (x,m)::r=>[.int .i64 x.f,.int .i64 x.t,.int .u8 x.v.k,.int .i64 x.v.n,.slice m.a x.v.l.length m.c]++flatR r
theorem flatR_length:∀ps:List (GR×VA),(flatR ps).length=ps.length*5
 | []=>rfl
 | (x,m)::r=>by simp only [flatR,List.length_append,List.length_cons,List.length_nil,flatR_length r];omega
theorem flatR_append:∀ps qs:List (GR×VA),flatR (ps++qs)=flatR ps++flatR qs
 | [],qs=>rfl
 | (x,m)::r,qs=>by simp only [List.cons_append,flatR,flatR_append r qs,List.nil_append]
theorem RRs_of_cells {w:World} {g:Nat} {A:Nat→Prop} (hA:A g):∀(ps:List (GR×VA)) (o:Nat),(∀j u,(flatR ps)[j]? =some u→w.cell? ⟨g,o+j,none⟩=some u)→(∀p∈ps,RV w A p.1.v p.2.a)→RRs w A (ps.map Prod.fst) (some ⟨g,o,none⟩)
 | [],o,_,_=>by simp only [List.map_nil,RRs]
 | (x,m)::r,o,h,hr=>by
  simp only [List.map_cons,RRs]
  refine ⟨g,o,m,rfl,hA,?_,hr (x,m) (by simp),RRs_of_cells hA r (o+5) (fun j u hj=>?_) fun p hp=>hr p (by simp [hp])⟩
  ·rw [At5]
   exact ⟨h 0 _ rfl,h 1 _ rfl,h 2 _ rfl,h 3 _ rfl,h 4 _ rfl⟩
  ·have:=h (j+5) u (by simpa [flatR] using hj)
   rw [show o+5+j=o+(j+5) by omega];exact this
theorem RRs_of_row {w:World} {base e n:Nat} {v:Value} {ps:List (GR×VA)} {A:Nat→Prop} (h:w.ownsRow base e 5 v n (flatR ps)) (hA:∀b,base≤b→A b) (hr:∀p∈ps,RV w A p.1.v p.2.a):∃a c,v=.slice a (ps.map Prod.fst).length ((ps.map Prod.fst).length+c)∧RRs w A (ps.map Prod.fst) a:=by
 have hn:ps.length=n:=by have:=h.1;rw [flatR_length] at this;omega
 rcases h.2 with ⟨rfl,h0⟩|⟨g,cap,cur,rfl,hb,h3,hcap,h4⟩
 ·have hz:ps=[]:=List.eq_nil_of_length_eq_zero (by omega)
  subst hz
  exact ⟨none,0,rfl,by simp only [List.map_nil,RRs]⟩
 ·refine ⟨_,cap - n,by rw [List.length_map,hn,Nat.add_sub_cancel' hcap],RRs_of_cells (hA _ hb) ps 0 (fun j u hj=>?_) hr⟩
  have hl:=h.1
  have hj2:=(List.getElem?_eq_some_iff.1 hj).1
  rw [Nat.zero_add,h.cellAt j (by omega)];exact hj
def SpO (w:World) (A:Nat→Prop) (l:List GR) (a:Option Addr):Prop:=∃ps:List (GR×VA),ps.map Prod.fst=l∧(ps=[]∨∃b,a=some ⟨b,0,none⟩∧A b∧b < w.heap.size ∧
 (∀j u,(flatR ps)[j]? =some u→w.cell? ⟨b,j,none⟩=some u∧(Lowb A→w.frozen? ⟨b,j,none⟩=false))∧∀q∈ps,RV w (fun c=>A c∧c≠b) q.1.v q.2.a)
def RRx (w:World) (A:Nat→Prop) (l:List GR) (a:Option Addr):Prop:=RRs w A l a∧SpO w A l a
theorem RRx.ext {w w':World} {A:Nat→Prop} (h:Agree A w w') (l:List GR) (a:Option Addr) (hx:RRx w A l a):RRx w' A l a:=by
 obtain ⟨h1,ps,e,h2⟩:=hx
 refine ⟨RRs.ext h l a h1,ps,e,?_⟩
 rcases h2 with h2|⟨b,ea,hA,hb,hc,hv⟩
 ·exact .inl h2
 ·by_cases hz:ps=[]
  ·exact .inl hz
  ·have hn:0 < (flatR ps).length:=by rw [flatR_length];have:=List.length_pos_iff.2 hz;omega
   have h0:=hc 0 _ (List.getElem?_eq_getElem hn)
   refine .inr ⟨b,ea,hA,World.block_lt_of_cell? _ _ (h _ _ hA h0.1).1,fun j u hj=>?_,fun q hq=>RV.ext (fun p v k kc=>h p v k.1 kc) _ _ (hv q hq)⟩
   obtain ⟨k1,k2⟩:=hc j u hj
   have k3:=h _ _ hA k1
   exact ⟨k3.1,fun hL=>k3.2.trans (k2 hL)⟩
theorem RRx.mono {w:World} {A A':Nat→Prop} (h:∀b,A b→b < w.heap.size→A' b) (l:List GR) (a:Option Addr) (hx:RRx w A l a):RRx w A' l a:=by
 obtain ⟨h1,ps,e,h2⟩:=hx
 refine ⟨RRs.mono h l a h1,ps,e,?_⟩
 rcases h2 with h2|⟨b,ea,hA,hb,hc,hv⟩
 ·exact .inl h2
 ·refine .inr ⟨b,ea,h b hA hb,hb,fun j u hj=>⟨(hc j u hj).1,fun ⟨N,hN,hL⟩=>(hc j u hj).2 ⟨min N w.heap.size,by omega,fun q hq=>?_⟩⟩,fun q hq=>RV.mono (fun c k kb=>⟨h c k.1 kb,k.2⟩) _ _ (hv q hq)⟩
  by_cases hs:q < w.heap.size
  ·have:=hL q (h q hq hs);omega
  ·omega
theorem RRx_of_row {w:World} {base e n:Nat} {v:Value} {ps:List (GR×VA)} {A:Nat→Prop} (h:w.ownsRow base e 5 v n (flatR ps)) (hA:∀b,base≤b→A b) (hr:∀p∈ps,RV w (fun b=>A b∧v.ownBlock≠some b) p.1.v p.2.a):∃a c,v=.slice a (ps.map Prod.fst).length ((ps.map Prod.fst).length+c)∧RRx w A (ps.map Prod.fst) a:=by
 obtain ⟨a,c,ev,h1⟩:=RRs_of_row h hA (fun p hp=>RV.mono (fun b k _=>k.1) _ _ (hr p hp))
 refine ⟨a,c,ev,h1,ps,rfl,?_⟩
 by_cases hz:ps=[]
 ·exact .inl hz
 ·have hn:ps.length=n:=by have:=h.1;rw [flatR_length] at this;omega
  have hp:=List.length_pos_iff.2 hz
  obtain ⟨g,cap,e2,hb,hl⟩:=h.form (by omega)
  subst e2
  cases ev
  refine .inr ⟨g,rfl,hA g hb,hl,fun j u hj=>?_,fun q hq=>RV.mono (fun c k _=>⟨k.1,fun e=>k.2 (by rw [e];rfl)⟩) _ _ (hr q hq)⟩
  have hl:=h.1
  have hj2:=(List.getElem?_eq_some_iff.1 hj).1
  exact ⟨by rw [h.cellAt j (by omega)];exact hj,fun _=>h.frozenAt j⟩
theorem tq {P:Program} {md:Region.Mode} {l:List Oper} {Q:Exit→Act→World→Prop} {S:World→Prop} (i:Nat) {oi:Oper} {v:Value} {fuel:Nat} {listed:Array Bool} {a:Act} {w:World} (hi:l[i]? =some oi) (hy:YieldsIf P l.toArray S oi v a)
  (h:wpAnyH P md l.toArray Q S fuel (listed.setIfInBounds i true) (a.put oi.dst v) w) (hS:S w:=by assumption) (hs:Region.noSelect l.toArray=true:=by kernel_rfl) (hf:Region.free md l.toArray listed i=true:=by kernel_rfl) (hr:(Region.ready md l.toArray listed).contains i=true:=by kernel_rfl)
  (hQ:∀c a w,Q (.panic c) (a.put oi.dst v) w→Q (.panic c) a w:=by exact fun _ _ _ h=>h):wpAnyH P md l.toArray Q S (fuel+1) listed a w:=wpAnyH_take (by simpa using hi) hs hf hr hQ hy hS h
set_option maxRecDepth 100000 in
set_option maxHeartbeats 4000000 in
theorem r17holds_len (N:Nat) (ih:HoldIH N) (u:GV) (n:Int) (x:GP) (v:GV) (w:World) (A A2:Nat→Prop) (mp:PA) (m:VA) (hN:sizeP x≤N) (hg:goodP x) (ox:okP x) (hx:RPs w A [x] mp.a) (ov:okV v) (hrow:rowG v=true):
  Calls Tryz.prog 35 #[PV ⟨11,u,n,[x]⟩ mp,VV v m] w fun e w'=>e=.returned (.bool (holdsP x ⟨1,v.l.length,[]⟩))∧Below w.heap.size w w':=by
 obtain ⟨ma,mc⟩:=m
 obtain ⟨na,nb,nc,nd⟩:=mp
 dsimp only at hx
 have OX:=hid ox
 have HG:=hid hg
 have IH:=hid ih
 have HRW:=hid (show rowB v.k=true from hrow)
 obtain ⟨ov1,ov2,ov3, -⟩:=okV_iff.1 ov
 have OK:=hid ov1
 have OL:Hid (okV ⟨1,v.l.length,[]⟩):=hid (okV_iff.2 ⟨by simp [isU8],by unfold isI64;dsimp only;omega,by simp,by simp [okVs]⟩)
 simp only [RPs] at hx
 obtain ⟨b,o,mj,rfl,hA,g0,gx, -⟩:=hx
 have GX:=hid gx
 obtain ⟨k0,k1,k2,k3,k4,k5⟩:=At6.1 g0
 have hbs:b < w.heap.size:=World.block_lt_of_cell? _ _ k0
 generalize hF:holdsP x ⟨1,v.l.length,[]⟩=F
 have HF:=hid hF
 clear ov ox hg ih gx g0 hF hrow ov1 ov2
 go_enter Tryz.func35,Tryz.ntmps35
 go_wp2_with (go_at_call 55;refine (r17row_any v ⟨ma,mc⟩ _ OK.out).mono ?_;rw [HRW.out];rintro e w1 ⟨rfl,hb1⟩;obtain ⟨hc1,hf1⟩:=bcells hb1;have hz1:=hb1.size;(try simp at hz1);have y0:w.heap.size < w1.heap.size:=(by omega);have y1:w.heap.size+1 < w1.heap.size:=(by omega);have y2:b < w1.heap.size:=(by omega);have e0:w1.cell? ⟨b,o,none⟩=some (.int .u8 x.k):=(hb1.cell so).trans (by go_simp);have e1:w1.cell? ⟨b,o+1,none⟩=some (.int .u8 x.v.k):=(hb1.cell so).trans (by go_simp);have e2:w1.cell? ⟨b,o+2,none⟩=some (.int .i64 x.v.n):=(hb1.cell so).trans (by go_simp);have e3:w1.cell? ⟨b,o+3,none⟩=some (.slice mj.va x.v.l.length mj.vc):=(hb1.cell so).trans (by go_simp);have e4:w1.cell? ⟨b,o+4,none⟩=some (.int .i64 x.n):=(hb1.cell so).trans (by go_simp);have e5:w1.cell? ⟨b,o+5,none⟩=some (.slice mj.a x.a.length mj.c):=(hb1.cell so).trans (by go_simp);have f5:w1.cell? ⟨w.heap.size,5,none⟩=some (.slice (some ⟨b,o,none⟩) 1 nd):=(hb1.cell so).trans (by go_simp);have f2:w1.cell? ⟨w.heap.size+1,2,none⟩=some (.slice ma v.l.length mc):=(hb1.cell so).trans (by go_simp))
 clear hc1 hf1
 go_region_held3 (fun W=>∀c k,c < w1.heap.size→W.cell? ⟨c,k,none⟩=w1.cell? ⟨c,k,none⟩) ((intro c k hc;refine Below.cell (B:=w1.heap.size) (w:=w1) (p:=⟨c,k,none⟩) ?_ hc;((repeat (first|with_reducible exact Below.refl _ _|with_reducible assumption|with_reducible refine Below.trans ?_ (Below.mono (by with_reducible assumption) (by first|omega|(simp;done)|(simp;omega)))|with_reducible refine Below.drew ?_|with_reducible refine Below.alloc ?_ (by first|omega|(simp;done)|(simp;omega)) _|with_reducible refine Below.setCell ?_ (by first|omega|(simp;done)|(simp;omega)) _));done))) ((go_at_call 35;refine (IH.out x ⟨1,v.l.length,[]⟩ _ A (fun _=>True) mj ⟨none,0⟩ hN HG.out OX.out (by exact RP.ext (Agree.below Below.r) _ _ GX.out) OL.out (by simp [RV,RVs])).mono ?_;rw [HF.out];rintro e w2 ⟨rfl,hb2⟩))
 all_goals go_wp2_with fail
 all_goals go_ret
 all_goals exact ⟨rfl,Below.r⟩
set_option maxRecDepth 100000 in
set_option maxHeartbeats 4000000 in
theorem r17holds_at (N:Nat) (ih:HoldIH N) (u:GV) (n:Nat) (x:GP) (v:GV) (w:World) (A A2:Nat→Prop) (mp:PA) (m:VA) (hn:n≤64) (hN:sizeP x≤N) (hg:goodP x) (ox:okP x) (hx:RPs w A [x] mp.a) (ov:okV v) (hv:RV w A2 v m.a) (hrow:rowG v=true):
  Calls Tryz.prog 35 #[PV ⟨8,u,n,[x]⟩ mp,VV v m] w fun e w'=>e=.returned (.bool (match v.l[n]? with|some y=>holdsP x y|none=>false))∧Below w.heap.size w w':=by
 obtain ⟨ma,mc⟩:=m
 obtain ⟨na,nb,nc,nd⟩:=mp
 dsimp only at hx hv
 have OX:=hid ox
 have HG:=hid hg
 have IH:=hid ih
 have HRW:=hid (show rowB v.k=true from hrow)
 obtain ⟨ov1,ov2,ov3,ov4⟩:=okV_iff.1 ov
 have OK:=hid ov1
 have OVL:=hid ov4
 have HVL:=hid (RV_iff.1 hv)
 simp only [RPs] at hx
 obtain ⟨b,o,mj,rfl,hA,g0,gx, -⟩:=hx
 have GX:=hid gx
 obtain ⟨k0,k1,k2,k3,k4,k5⟩:=At6.1 g0
 have hbs:b < w.heap.size:=World.block_lt_of_cell? _ _ k0
 clear ov ox hg ih gx g0 hrow ov1 ov2 ov4 hv
 by_cases hlt:n < v.l.length
 ·rw [List.getElem?_eq_getElem hlt]
  dsimp only
  obtain ⟨b',o',mi,rfl,hA',hbs',g0',gy⟩:=HVL.out.get n hlt
  obtain ⟨j0,j1,j2⟩:=At3.1 g0'
  have GY:=hid gy
  have OY:=hid (OVL.out.get n hlt)
  generalize hF:holdsP x v.l[n]=F
  have HF:=hid hF
  have hn0:(0:Int)≤(n:Int):=by omega
  have hlt2:(n:Int) < (v.l.length:Int):=by omega
  clear hF g0' gy
  go_enter Tryz.func35,Tryz.ntmps35
  go_wp2_with (go_at_call 55;refine (r17row_any v ⟨_,mc⟩ _ OK.out).mono ?_;rw [HRW.out];rintro e w1 ⟨rfl,hb1⟩;obtain ⟨hc1,hf1⟩:=bcells hb1;have hz1:=hb1.size;(try simp at hz1);have y0:w.heap.size < w1.heap.size:=(by omega);have y1:w.heap.size+1 < w1.heap.size:=(by omega);have y2:b < w1.heap.size:=(by omega);have y3:b' < w1.heap.size:=(by omega);have e0:w1.cell? ⟨b,o,none⟩=some (.int .u8 x.k):=(hb1.cell so).trans (by go_simp);have e1:w1.cell? ⟨b,o+1,none⟩=some (.int .u8 x.v.k):=(hb1.cell so).trans (by go_simp);have e2:w1.cell? ⟨b,o+2,none⟩=some (.int .i64 x.v.n):=(hb1.cell so).trans (by go_simp);have e3:w1.cell? ⟨b,o+3,none⟩=some (.slice mj.va x.v.l.length mj.vc):=(hb1.cell so).trans (by go_simp);have e4:w1.cell? ⟨b,o+4,none⟩=some (.int .i64 x.n):=(hb1.cell so).trans (by go_simp);have e5:w1.cell? ⟨b,o+5,none⟩=some (.slice mj.a x.a.length mj.c):=(hb1.cell so).trans (by go_simp);have l0:w1.cell? ⟨b',o'+n*3,none⟩=some (.int .u8 v.l[n].k):=(hb1.cell so).trans (by go_simp);have l1:w1.cell? ⟨b',o'+n*3+1,none⟩=some (.int .i64 v.l[n].n):=(hb1.cell so).trans (by go_simp);have l2:w1.cell? ⟨b',o'+n*3+2,none⟩=some (.slice mi.a v.l[n].l.length mi.c):=(hb1.cell so).trans (by go_simp);have f4:w1.cell? ⟨w.heap.size,4,none⟩=some (.int .i64 n):=(hb1.cell so).trans (by go_simp);have f5:w1.cell? ⟨w.heap.size,5,none⟩=some (.slice (some ⟨b,o,none⟩) 1 nd):=(hb1.cell so).trans (by go_simp);have f2:w1.cell? ⟨w.heap.size+1,2,none⟩=some (.slice (some ⟨b',o',none⟩) v.l.length mc):=(hb1.cell so).trans (by go_simp))
  clear hc1 hf1
  go_region_held3 (fun W=>∀c k,c < w1.heap.size→W.cell? ⟨c,k,none⟩=w1.cell? ⟨c,k,none⟩) ((intro c k hc;refine Below.cell (B:=w1.heap.size) (w:=w1) (p:=⟨c,k,none⟩) ?_ hc;((repeat (first|with_reducible exact Below.refl _ _|with_reducible assumption|with_reducible refine Below.trans ?_ (Below.mono (by with_reducible assumption) (by first|omega|(simp;done)|(simp;omega)))|with_reducible refine Below.drew ?_|with_reducible refine Below.alloc ?_ (by first|omega|(simp;done)|(simp;omega)) _|with_reducible refine Below.setCell ?_ (by first|omega|(simp;done)|(simp;omega)) _));done))) ((go_at_call 35;refine (IH.out x v.l[n] _ A A2 mj mi hN HG.out OX.out (by exact RP.ext (Agree.below Below.r) _ _ GX.out) OY.out (by exact RV.ext (Agree.below Below.r) _ _ GY.out)).mono ?_;rw [HF.out];rintro e w2 ⟨rfl,hb2⟩))
  all_goals go_wp2_with fail
  all_goals go_ret
  all_goals exact ⟨by simp,Below.r⟩
 ·rw [List.getElem?_eq_none (by omega)]
  have hlt2:¬(n:Int) < (v.l.length:Int):=by omega
  have hlt3:decide ((n:Int) < (v.l.length:Int))=false:=by simpa using hlt
  go_enter Tryz.func35,Tryz.ntmps35
  go_wp2_with (go_at_call 55;refine (r17row_any v ⟨ma,mc⟩ _ OK.out).mono ?_;rw [HRW.out];rintro e w1 ⟨rfl,hb1⟩;obtain ⟨hc1,hf1⟩:=bcells hb1;have hz1:=hb1.size;(try simp at hz1);have y0:w.heap.size < w1.heap.size:=(by omega);have y1:w.heap.size+1 < w1.heap.size:=(by omega))
  have f4:w1.cell? ⟨w.heap.size,4,none⟩=some (.int .i64 n):=(hb1.cell so).trans (by go_simp)
  have f2:w1.cell? ⟨w.heap.size+1,2,none⟩=some (.slice ma v.l.length mc):=(hb1.cell so).trans (by go_simp)
  have hbw:Below w.heap.size w w1:=Below.r
  clear hc1 hf1 hb1
  as_aux_lemma=>
   (try dsimp only [List.append])
   refine wp_region_noPanic ?_
   refine wp_region_held_drew (S:=(fun W=>∀c k,c < w1.heap.size→W.cell? ⟨c,k,none⟩=w1.cell? ⟨c,k,none⟩)) (by kernel_rfl) ?_ (fun hHeld=>?_)
   ·((try dsimp only);(intro c k hc;refine Below.cell (B:=w1.heap.size) (w:=w1) (p:=⟨c,k,none⟩) ?_ hc;((repeat (first|with_reducible exact Below.refl _ _|with_reducible assumption|with_reducible refine Below.trans ?_ (Below.mono (by with_reducible assumption) (by first|omega|(simp;done)|(simp;omega)))|with_reducible refine Below.drew ?_|with_reducible refine Below.alloc ?_ (by first|omega|(simp;done)|(simp;omega)) _|with_reducible refine Below.setCell ?_ (by first|omega|(simp;done)|(simp;omega)) _));done)))
   refine tz 0 ?_
   try simp only [Act.put,sl,s0,ss]
   refine tz 1 ?_
   try simp only [Act.put,sl,s0,ss]
   refine tz 2 ?_
   try simp only [Act.put,sl,s0,ss]
   refine tz 3 ?_
   try simp only [Act.put,sl,s0,ss]
   refine tz 4 ?_
   try simp only [Act.put,sl,s0,ss]
   refine tz 5 ?_
   try simp only [Act.put,sl,s0,ss]
   refine tz 6 ?_
   try simp only [Act.put,sl,s0,ss]
   as_aux_lemma=>
    refine th 7 ?_
    try simp only [Act.put,sl,s0,ss]
    refine th 8 ?_
    try simp only [Act.put,sl,s0,ss]
    refine th 9 ?_
    try simp only [Act.put,sl,s0,ss]
    refine th 10 ?_
    try simp only [Act.put,sl,s0,ss]
    refine th 11 ?_
    try simp only [Act.put,sl,s0,ss]
    refine th 12 ?_
    try simp only [Act.put,sl,s0,ss]
    refine th 13 ?_
    try simp only [Act.put,sl,s0,ss]
    refine th 14 ?_
    try simp only [Act.put,sl,s0,ss]
    as_aux_lemma=>
     refine th 15 ?_
     try simp only [Act.put,sl,s0,ss]
     refine th 16 ?_
     try simp only [Act.put,sl,s0,ss]
     refine th 17 ?_
     try simp only [Act.put,sl,s0,ss]
     refine tz 18 ?_
     try simp only [Act.put,sl,s0,ss]
     refine tz 19 ?_
     try simp only [Act.put,sl,s0,ss]
     refine wpAnyH_done (by kernel_rfl) ?_ _
     as_aux_lemma=>
      (refine NoPanic.normal ?_;go_wp2_with fail;go_ret;exact ⟨rfl,Below.r⟩)
set_option maxRecDepth 100000 in
set_option maxHeartbeats 8000000 in
theorem r17holds_items (N:Nat) (ih:HoldIH N) (k:Int) (u:GV) (n:Int) (x:GP) (v:GV) (w:World) (A A2:Nat→Prop) (mp:PA) (m:VA) (hk:k=9∨k=10) (hN:sizeP x≤N) (hg:goodP x) (ox:okP x) (hx:RPs w A [x] mp.a) (ov:okV v) (hv:RV w A2 v m.a) (hrow:rowG v=true):
  Calls Tryz.prog 35 #[PV ⟨k,u,n,[x]⟩ mp,VV v m] w fun e w'=>e=.returned (.bool (if k=9 then v.l.all (fun y=>holdsP x y) else v.l.any (fun y=>holdsP x y)))∧Below w.heap.size w w':=by
 obtain ⟨ma,mc⟩:=m
 obtain ⟨na,nb,nc,nd⟩:=mp
 dsimp only at hx hv
 have OX:=hid ox
 have HG:=hid hg
 have IH:=hid ih
 have HRW:=hid (show rowB v.k=true from hrow)
 obtain ⟨ov1,ov2,ov3,ov4⟩:=okV_iff.1 ov
 have OK:=hid ov1
 have OVL:=hid ov4
 have HVL:=hid (RV_iff.1 hv)
 simp only [RPs] at hx
 obtain ⟨b,o,mj,rfl,hA,g0,gx, -⟩:=hx
 have GX:=hid gx
 have G0:=hid g0
 have hbs:b < w.heap.size:=World.block_lt_of_cell? _ _ (At6.1 g0).1
 clear ov ox hg ih gx g0 hrow ov1 ov2 ov4 hv
 rcases hk with rfl|rfl
 all_goals
  go_enter Tryz.func35,Tryz.ntmps35
  go_wp2_with (go_at_call 55;refine (r17row_any v ⟨ma,mc⟩ _ OK.out).mono ?_;rw [HRW.out];rintro e w1 ⟨rfl,hb1⟩;obtain ⟨hc1,hf1⟩:=bcells hb1;have hz1:=hb1.size;(try simp at hz1);have y0:w.heap.size < w1.heap.size:=(by omega);have y1:w.heap.size+1 < w1.heap.size:=(by omega))
  go_loopg [7,8,9] (v.l.length) (fun gk t7 t8 i wr=>∃j:Nat,gk+j=v.l.length∧i=.int .i64 j∧t7=.bool ((v.l.take j).any fun y=>holdsP x y)∧t8=.bool ((v.l.take j).all fun y=>holdsP x y)∧Below w.heap.size w wr∧w.heap.size+1 < wr.heap.size ∧
   wr.cell? ⟨w.heap.size,0,none⟩=w1.cell? ⟨w.heap.size,0,none⟩∧wr.cell? ⟨w.heap.size,5,none⟩=some (.slice (some ⟨b,o,none⟩) 1 nd)∧wr.cell? ⟨w.heap.size+1,2,none⟩=some (.slice ma v.l.length mc))
  case atStart=>exact ⟨0,by omega,rfl,by simp,by simp,Below.r,y1,rfl,by go_simp,by go_simp⟩
  case round=>
   obtain ⟨j,hj,rfl,rfl,rfl,hb,hz,ck,c5,c2⟩:=hrel
   by_cases hlt:j < v.l.length
   ·obtain ⟨b',o',mi,rfl,hA',hbs',g0',gy⟩:=HVL.out.get j hlt
    obtain ⟨k0,k1,k2,k3,k4,k5⟩:=At6.1 (G0.out.ext (Agree.below hb) (A:=fun _=>True) trivial)
    obtain ⟨j0,j1,j2⟩:=At3.1 (g0'.ext (Agree.below hb) (A:=fun _=>True) trivial)
    have GY:=hid gy
    have hs1:b < wr.heap.size:=by omega
    have hs2:b' < wr.heap.size:=by omega
    have HA1:=hid (any_take (f:=fun y=>holdsP x y) j hlt)
    have HA2:=hid (all_take (f:=fun y=>holdsP x y) j hlt)
    generalize hC:holdsP x v.l[j]=C at HA1 HA2
    have HC:=hid hC
    generalize ((v.l.take j).any fun y=>holdsP x y)=S at HA1 ⊢
    generalize ((v.l.take j).all fun y=>holdsP x y)=E at HA2 ⊢
    clear hC gy g0'
    go_wp2_with fail
    refine wp_tail 9 (by kernel_rfl) (by kernel_rfl) ?_
    simp only [List.take_succ_cons,List.take_zero,List.drop_succ_cons,List.drop_zero]
    repeat still_step
    refine wpStill_nil ?_
    go_wp2_with (go_at_call 35;refine (IH.out x v.l[j] _ A A2 mj mi hN HG.out OX.out (by exact RP.ext (Agree.below Below.r) _ _ GX.out) (OVL.out.get j hlt) (by exact RV.ext (Agree.below Below.r) _ _ GY.out)).mono ?_;rw [HC.out];rintro e w2 ⟨rfl,hb2⟩;have hz2:=hb2.size;(try simp at hz2);have hbb:Below w.heap.size w w2:=Below.r;cases S<;>cases E<;>cases C)
    all_goals go_roundg (gk - 1)
    all_goals first
     | (case measure=>omega)
     | (case rel=>exact ⟨j+1,by omega,by go_num,by rw [HA1.out];rfl,by rw [HA2.out];rfl,hbb,by omega,(hb2.cell so).trans (by simpa using ck),(hb2.cell so).trans (by go_simp),(hb2.cell so).trans (by go_simp)⟩)
   ·obtain rfl:j=v.l.length:=by omega
    go_wp2_with fail
    go_ret
    exact ⟨by simp,Below.r⟩
theorem one_of {α:Type} {l:List α} (h:l.length=1):∃x,l=[x]:=by
 match l,h with
 | [x],_=>exact ⟨x,rfl⟩
theorem r17holds_any:∀N,HoldIH N:=by
 intro N
 induction N with
 | zero=>intro p;have:=sizeP_pos p;intros;omega
 | succ N ih=>
  rintro ⟨k,u,n,l⟩ v w A A2 mp m hN hg ox hr ov hv
  obtain ⟨hnd,hgs⟩:=goodP_eq.1 hg
  obtain ⟨h1,h2,h3,h4,h5⟩:=nodeP_ok hnd
  obtain ⟨hu,hx⟩:=RP_iff.1 hr
  obtain ⟨o1,o2,o3,o4,o5⟩:=okP_iff.1 ox
  dsimp only at h1 h2 h3 h4 h5 hu hx hgs o1 o2 o3 o4 o5
  have hse:=sizeP_eq ⟨k,u,n,l⟩
  dsimp only at hse
  have hpos:=sizeV_pos u
  by_cases hleaf:k=1∨k=2∨k=3∨k=4
  ·exact r17holds_leaf k u n l v w A A2 mp m hleaf o2 hu ov hv
  by_cases h6:k=6
  ·subst h6
   refine (r17holds_and N ih u n l v w A A2 mp m (by omega) hgs o5 (h4 (.inl rfl)) hx ov hv).mono fun e w' ⟨he,hb⟩=>⟨?_,hb⟩
   rw [he,←holdsQ_all]
   simp [holdsP]
  by_cases h7:k=7
  ·subst h7
   refine (r17holds_or N ih u n l v w A A2 mp m (by omega) hgs o5 (h4 (.inr rfl)) hx ov hv).mono fun e w' ⟨he,hb⟩=>⟨?_,hb⟩
   rw [he,←holdsQ_any]
   simp [holdsP]
  obtain ⟨x,rfl⟩:=one_of (h2 (by omega))
  have hxN:sizeP x≤N:=by simp only [sizePs] at hse;omega
  have gx:goodP x:=hgs.get 0 (by simp)
  have okx:okP x:=o5.get 0 (by simp)
  by_cases h50:k=5
  ·subst h50
   refine (r17holds_not N ih u n x v w A A2 mp m hxN gx okx hx ov hv).mono fun e w' ⟨he,hb⟩=>⟨?_,hb⟩
   rw [he]
   simp [holdsP,holds1]
  cases hrow:rowG v with
  | false=>
   refine (r17holds_no k u n [x] v w mp m (by omega) ov hrow).mono fun e w' ⟨he,hb⟩=>⟨?_,hb⟩
   rw [he]
   rcases (show k=8∨k=9∨k=10∨k=11 by omega) with rfl|rfl|rfl|rfl<;>simp [holdsP,hrow]
  | true=>
   rcases (show k=8∨k=9∨k=10∨k=11 by omega) with rfl|rfl|rfl|rfl
   ·obtain ⟨n0,n1⟩:=h3 rfl
    obtain ⟨q,rfl⟩:∃q:Nat,n=(q:Int):=⟨n.toNat,by omega⟩
    refine (r17holds_at N ih u q x v w A A2 mp m (by omega) hxN gx okx hx ov hv hrow).mono fun e w' ⟨he,hb⟩=>⟨?_,hb⟩
    rw [he]
    simp [holdsP,hrow,holds1]
    cases v.l[q]? <;>rfl
   ·refine (r17holds_items N ih 9 u n x v w A A2 mp m (.inl rfl) hxN gx okx hx ov hv hrow).mono fun e w' ⟨he,hb⟩=>⟨?_,hb⟩
    rw [he]
    simp [holdsP,hrow,holds1]
   ·refine (r17holds_items N ih 10 u n x v w A A2 mp m (.inr rfl) hxN gx okx hx ov hv hrow).mono fun e w' ⟨he,hb⟩=>⟨?_,hb⟩
    rw [he]
    simp [holdsP,hrow,holds1]
   ·refine (r17holds_len N ih u n x v w A A2 mp m hxN gx okx hx ov hrow).mono fun e w' ⟨he,hb⟩=>⟨?_,hb⟩
    rw [he]
    simp [holdsP,hrow,holds1]
set_option maxRecDepth 100000 in
set_option maxHeartbeats 1000000 in
theorem r17may_any (p:GP) (w:World) (A:Nat→Prop) (m:PA) (ox:okP p) (hs:sizeP p≤1099511627776) (hl:RP w A p m):
  Calls Tryz.prog 34 #[PV p m] w fun e w'=>e=.returned (.bool (mayP p))∧Below w.heap.size w w':=by
 obtain ⟨na,nb,nc,nd⟩:=m
 have HL:=hid hl
 have OX:=hid ox
 generalize hF:mayP p=F
 have HF:=hid (show (((checkPE p).2==0)=F) from hF)
 clear hl ox hF
 go_enter Tryz.func34,Tryz.ntmps34
 go_wp2_with (go_at_call 30;refine (r17checkE_any p _ A ⟨na,nb,nc,nd⟩ OX.out hs (by exact RP.ext (Agree.below Below.r) _ _ HL.out)).mono ?_;rintro e w1 ⟨rfl,hb1⟩)
 go_ret
 exact ⟨ret_b1 HF.out,Below.r⟩
theorem r17Holds_any (p:GP) (v:GV) (w:World) (A A2:Nat→Prop) (mp:PA) (m:VA) (ox:okP p) (hs:sizeP p≤1099511627776) (hl:RP w A p mp) (ov:okV v) (hv:RV w A2 v m.a) (hmay:mayP p=true):
  Calls Tryz.prog 21 #[PV p mp,VV v m] w fun e w'=>e=.returned (.bool (holdsP p v))∧Below w.heap.size w w':=by
 obtain ⟨na,nb,nc,nd⟩:=mp
 obtain ⟨ma,mc⟩:=m
 have HL:=hid hl
 have OX:=hid ox
 have HV:=hid hv
 have OV:=hid ov
 have HM:=hid hmay
 have HG:=hid (goodP_of_may hmay)
 clear hl ox hv ov hmay
 go_enter Tryz.func21,Tryz.ntmps21
 go_wp2_with (first
  | (go_at_call 34;refine (r17may_any p _ A ⟨na,nb,nc,nd⟩ OX.out hs (by exact RP.ext (Agree.below Below.r) _ _ HL.out)).mono ?_;rw [HM.out];rintro e w1 ⟨rfl,hb1⟩;obtain ⟨hc1,hf1⟩:=bcells hb1;have hz1:=hb1.size;(try simp at hz1);have y0:w.heap.size < w1.heap.size:=(by omega);have y1:w.heap.size+1 < w1.heap.size:=(by omega))
  | (go_at_call 35;refine (r17holds_any (sizeP p) p v _ A A2 ⟨na,nb,nc,nd⟩ ⟨ma,mc⟩ (Nat.le_refl _) HG.out OX.out (by exact RP.ext (Agree.below Below.r) _ _ HL.out) OV.out (by exact RV.ext (Agree.below Below.r) _ _ HV.out)).mono ?_;rintro e w2 ⟨rfl,hb2⟩))
 go_ret
 exact ⟨by simp,Below.r⟩
theorem cell_set_some {w:World} {p q:Addr} {u:Value} (h:∃v,w.cell? p=some v):∃v,(w.setCell q u).cell? p=some v:=by
 obtain ⟨v,hv⟩:=h
 by_cases e:p=q
 ·subst e;exact ⟨u,World.cell?_setCell_same _ _ _ hv⟩
 ·exact ⟨v,(World.cell?_setCell_other _ _ _ _ (Ne.symm e)).trans hv⟩
def Wr (w:World) (N g:Nat) (a:Option Addr) (k:Nat):Prop:=∀j,j < k→∃b o,a=some ⟨b,o,none⟩∧N≤b∧b≠g∧∀i,i < 3→w.frozen? ⟨b,o+j*3+i,none⟩=false∧∃u,w.cell? ⟨b,o+j*3+i,none⟩=some u
theorem Wr.of {w:World} {N g:Nat} {x:GV} {a:Option Addr} (hN:0 < N) (h:RV w (fun c=>N≤c∧c≠g) x a):Wr w N g a x.l.length:=fun j hj=>by
 obtain ⟨b,o,m,e,⟨h1,h2⟩,hb,h0, -,hf⟩:=(RV_iff.1 h).getF j hj
 obtain ⟨c0,c1,c2⟩:=At3.1 h0
 refine ⟨b,o,e,h1,h2,fun i hi=>⟨hf ⟨N,hN,fun c k=>k.1⟩ i hi,?_⟩⟩
 rcases (by omega:i=0∨i=1∨i=2) with rfl|rfl|rfl
 ·exact ⟨_,c0⟩
 ·exact ⟨_,c1⟩
 ·exact ⟨_,c2⟩
theorem Wr.set {w:World} {N g:Nat} {a:Option Addr} {k:Nat} (h:Wr w N g a k) (q:Addr) (u:Value):Wr (w.setCell q u) N g a k:=fun j hj=>by
 obtain ⟨b,o,e,h1,h2,h3⟩:=h j hj
 exact ⟨b,o,e,h1,h2,fun i hi=>⟨by rw [World.frozen?_setCell];exact (h3 i hi).1,cell_set_some (h3 i hi).2⟩⟩
theorem Wr.below {w w':World} {N g:Nat} {a:Option Addr} {k:Nat} (h:Wr w N g a k) (hb:Below w.heap.size w w'):Wr w' N g a k:=fun j hj=>by
 obtain ⟨b,o,e,h1,h2,h3⟩:=h j hj
 refine ⟨b,o,e,h1,h2,fun i hi=>?_⟩
 obtain ⟨f,u,hu⟩:=h3 i hi
 have hlt:=World.block_lt_of_cell? _ _ hu
 exact ⟨(hb.frozen hlt).trans f,u,(hb.cell hlt).trans hu⟩
def sameRs (d:Int):List GR→List GR→Bool
 | [],[]=>true
 | x::l,y::l'=>x.f+d==y.f&&x.t+d==y.t&&sameV x.v y.v&&sameRs d l l'
 | _,_=>false
theorem sameRs_len (d:Int):∀(l l':List GR),l.length≠l'.length→sameRs d l l'=false
 | [],[],h=>absurd rfl h
 | [],_::_,_=>rfl
 | _::_,[],_=>rfl
 | x::l,y::l',h=>by simp [sameRs,sameRs_len d l l' (by simpa using h)]
theorem sameRs_drop (d:Int):∀(l l':List GR) (j:Nat),(∀q (h:q < l.length) (h':q < l'.length),q < j→(l[q].f+d==l'[q].f&&l[q].t+d==l'[q].t&&sameV l[q].v l'[q].v)=true)→j≤l.length→j≤l'.length→sameRs d l l'=sameRs d (l.drop j) (l'.drop j)
 | _,_,0,_,_,_=>by simp
 | [],_,j+1,_,h,_=>by simp at h
 | _::_,[],j+1,_,_,h=>by simp at h
 | x::l,y::l',j+1,g,h,h'=>by
  have g0:=g 0 (by simp) (by simp) (by omega)
  simp only [List.getElem_cons_zero] at g0
  rw [sameRs,g0,Bool.true_and,List.drop_succ_cons,List.drop_succ_cons]
  exact sameRs_drop d l l' j (fun q hq hq' hj=>by
   have:=g (q+1) (by simpa using hq) (by simpa using hq') (by omega)
   simpa only [List.getElem_cons_succ] using this) (by simpa using h) (by simpa using h')
theorem sameRs_at (d:Int) (l l':List GR) (j:Nat) (g:∀q (h:q < l.length) (h':q < l'.length),q < j→(l[q].f+d==l'[q].f&&l[q].t+d==l'[q].t&&sameV l[q].v l'[q].v)=true) (h:j < l.length) (h':j < l'.length) (hn:(l[j].f+d==l'[j].f&&l[j].t+d==l'[j].t&&sameV l[j].v l'[j].v)=false):sameRs d l l'=false:=by
 rw [sameRs_drop d l l' j g (by omega) (by omega),List.drop_eq_getElem_cons h,List.drop_eq_getElem_cons h',sameRs,hn,Bool.false_and]
theorem sameRs_all (d:Int) (l l':List GR) (hl:l.length=l'.length) (g:∀q (h:q < l.length) (h':q < l'.length),(l[q].f+d==l'[q].f&&l[q].t+d==l'[q].t&&sameV l[q].v l'[q].v)=true):sameRs d l l'=true:=by
 rw [sameRs_drop d l l' l.length (fun q h h' _=>g q h h') (by omega) (by omega),List.drop_length,List.drop_eq_nil_of_le (by omega)]
 rfl
set_option maxRecDepth 100000 in
set_option maxHeartbeats 2000000 in
theorem r29same_any (l l':List GR) (d:Int) (A A':Nat→Prop) (w:World) (al al':Option Addr) (cl cl':Nat) (hl:l.length≤1048576) (hl':l'.length≤1048576) (hd:0≤d∧d≤1099511627776)
  (ho:∀x∈l,(0≤x.f∧x.f≤1099511627776)∧(0≤x.t∧x.t≤1099511627776)∧okV x.v) (ho':∀x∈l',okR x) (hr:RRs w A l al) (hr':RRs w A' l' al'):
  Calls Tryz.prog 8 #[.slice al l.length cl,.slice al' l'.length cl',.int .i64 d] w fun e w'=>e=.returned (.bool (sameRs d l l'))∧Below w.heap.size w w':=by
 have HL:=hid hr
 have HL':=hid hr'
 have HO:=hid ho
 have HO':=hid ho'
 obtain ⟨d0,d1⟩:=hd
 clear hr hr' ho ho'
 by_cases hll:l.length=l'.length
 case neg=>
  have hll':((l.length:Int) != (l'.length:Int))=true:=by simp;omega
  rw [sameRs_len d l l' hll]
  clear hll
  go_enter Tryz.func8,Tryz.ntmps8
  go_wp2_with fail
  go_ret
  exact ⟨rfl,Below.z⟩
 have hll':((l.length:Int) != (l'.length:Int))=false:=by simp;omega
 have HLL:=hid hll
 clear hll
 generalize hF:sameRs d l l'=F
 have HF:=hid hF
 clear hF
 go_enter Tryz.func8,Tryz.ntmps8
 go_wp2_with fail
 go_loopg [7] (l.length) (fun gk i wr=>∃j:Nat,gk+j=l.length∧i=.int .i64 j∧Hid (∀q (h:q < l.length) (h':q < l'.length),q < j→(l[q].f+d==l'[q].f&&l[q].t+d==l'[q].t&&sameV l[q].v l'[q].v)=true)∧Below w.heap.size w wr)
 case atStart=>exact ⟨0,by omega,rfl,fun q h h' hq=>absurd hq (by omega),Below.z⟩
 case round=>
  obtain ⟨j,hj,rfl,HS,hb⟩:=hrel
  by_cases hlt:j < l.length
  ·have hlt':j < l'.length:=by have:=HLL.out;omega
   have hzw:=hb.size
   obtain ⟨b,o,mj,rfl,hA,hbs,g0,gx⟩:=HL.out.get j hlt
   obtain ⟨b',o',mj',rfl,hA',hbs',g0',gy⟩:=HL'.out.get j hlt'
   obtain ⟨k0,k1,k2,k3,k4⟩:=At5.1 (g0.ext (Agree.below hb) (A:=fun _=>True) trivial)
   obtain ⟨k0',k1',k2',k3',k4'⟩:=At5.1 (g0'.ext (Agree.below hb) (A:=fun _=>True) trivial)
   obtain ⟨⟨f0,f1⟩,⟨t0,t1⟩,oV⟩:=HO.out l[j] (List.getElem_mem hlt)
   obtain ⟨⟨u0,u1⟩,⟨v0,v1⟩,oV'⟩:=HO'.out l'[j] (List.getElem_mem hlt')
   have OV:=hid oV
   have OV':=hid oV'
   have hs1:b < wr.heap.size:=by omega
   have hs2:b' < wr.heap.size:=by omega
   have wf:IntKind.i64.wrap (l[j].f+d)=l[j].f+d:=IntWalk.i64_in _ (by omega)
   have wt:IntKind.i64.wrap (l[j].t+d)=l[j].t+d:=IntWalk.i64_in _ (by omega)
   clear hbs hbs' g0 g0' oV oV'
   cases hF:(l[j].f+d != l'[j].f)
   ·cases hT:(l[j].t+d != l'[j].t)
    ·have hFT:(l[j].f+d==l'[j].f)=true∧(l[j].t+d==l'[j].t)=true:=by simpa using And.intro hF hT
     have HFT:=hid hFT
     clear hFT
     go_wp2_with fail
     refine wp_tail 39 (by kernel_rfl) (by kernel_rfl) ?_
     simp only [List.take_succ_cons,List.take_zero,List.drop_succ_cons,List.drop_zero]
     repeat still_step
     refine wpStill_nil ?_
     clear wf wt
     go_wp2_with (go_at_call 25;refine (r14same_any _ l[j].v l'[j].v _ A A' mj mj' (Nat.le_refl _) OV.out OV'.out (by exact RV_iff.1 (RV.ext (Agree.below hb.drew) _ _ gx)) (by exact RV_iff.1 (RV.ext (Agree.below hb.drew) _ _ gy))).mono ?_;rintro e2 w2 ⟨rfl,hb2⟩)
     all_goals have hbb:Below w.heap.size w w2:=hb.drew.trans (hb2.mono (by simp;omega))
     ·have hne:sameV l[j].v l'[j].v=false:=by simpa using ‹(!sameV l[j].v l'[j].v)=true›
      go_ret
      exact ⟨by rw [←HF.out];simp [sameRs_at d l l' j HS.out hlt hlt' (by rw [hne,Bool.and_false])],hbb⟩
     ·have hne:sameV l[j].v l'[j].v=true:=by simpa using ‹(!sameV l[j].v l'[j].v)=false›
      go_roundg (gk - 1)
      case rel=>exact ⟨j+1,by omega,by go_num,fun q h h' hq=>(by
       by_cases hqj:q=j
       ·subst hqj;rw [HFT.out.1,HFT.out.2,hne];rfl
       ·exact HS.out q h h' (by omega)),hbb⟩
      case measure=>omega
    ·have hne:(l[j].t+d==l'[j].t)=false:=by simpa using hT
     have HNE:=hid hne
     clear hne
     go_wp2_with fail
     go_region
     go_wp2_with fail
     go_ret
     exact ⟨by rw [←HF.out];simp [sameRs_at d l l' j HS.out hlt hlt' (by rw [HNE.out,Bool.and_false,Bool.false_and])],Below.z⟩
   ·have hne:(l[j].f+d==l'[j].f)=false:=by simpa using hF
    have HNE:=hid hne
    clear hne
    go_wp2_with fail
    go_region
    go_wp2_with fail
    go_ret
    exact ⟨by rw [←HF.out];simp [sameRs_at d l l' j HS.out hlt hlt' (by rw [HNE.out,Bool.false_and,Bool.false_and])],Below.z⟩
  ·have hjl:j=l.length:=by omega
   go_wp2_with fail
   go_ret
   exact ⟨by rw [←HF.out];simp [sameRs_all d l l' HLL.out fun q h h'=>HS.out q h h' (by omega)],hb⟩
end Go.Proofs.YtclphfojkggcpaaGreat
