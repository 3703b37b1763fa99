/- Part 42. -/
import Derived.Test.YtclphfojkggcpaaGreatDoorX13
import Derived.Test.YtclphfojkggcpaaGreatDoorX24
import Derived.Test.YtclphfojkggcpaaGreatDoorXTk
set_option linter.all false
namespace Go.Proofs.YtclphfojkggcpaaGreatDoor
open Go.Lib (hid)
open Go Go.RowKit Go.Proofs.Tryz
theorem At5 {w b o c0 c1 c2 c3 c4}:At w b o [c0,c1,c2,c3,c4]↔w.cell? ⟨b,o,none⟩=some c0∧w.cell? ⟨b,o+1,none⟩=some c1∧w.cell? ⟨b,o+2,none⟩=some c2 ∧
  w.cell? ⟨b,o+3,none⟩=some c3∧w.cell? ⟨b,o+4,none⟩=some c4:=by
 simp only [At,Nat.add_assoc,Nat.reduceAdd,and_true]
def RRs (w:World) (A:Nat→Prop):List GR→Option Addr→Prop
 | [],_=>True
 | x::l,a=>∃b o m,a=some ⟨b,o,none⟩∧A b∧At w b o [.int .i64 x.f,.int .i64 x.t,.int .u8 x.v.k,.int .i64 x.v.n,.slice (VA.a m) x.v.l.length (VA.c m)]∧RV w A x.v m.a∧RRs w A l (some ⟨b,o+5,none⟩)
theorem RRs.ext {w w':World} {A:Nat→Prop} (h:Agree A w w'):∀(l:List GR) a,RRs w A l a→RRs w' A l a
 | [],_,_=>by simp only [RRs]
 | x::l,a,hx=>by
  simp only [RRs] at hx ⊢
  obtain ⟨b,o,m,e,hA,h0,hx,hl⟩:=hx
  exact ⟨b,o,m,e,hA,h0.ext h hA,ZmG h x.v _ hx,RRs.ext h l _ hl⟩
theorem RRs.mono {w:World} {A A':Nat→Prop} (h:∀b,A b→b < w.heap.size→A' b):∀(l:List GR) a,RRs w A l a→RRs w A' l a
 | [],_,_=>by simp only [RRs]
 | x::l,a,hx=>by
  simp only [RRs] at hx ⊢
  obtain ⟨b,o,m,e,hA,h0,hx,hl⟩:=hx
  exact ⟨b,o,m,e,h b hA (World.block_lt_of_cell? _ _ h0.1),h0,ZmO h x.v _ hx,RRs.mono h l _ hl⟩
theorem RRs.get {w A}:∀{l:List GR} {a},RRs w A l a→∀i (h:i < l.length),∃b o m,a=some ⟨b,o,none⟩∧A b∧b < w.heap.size ∧
  At w b (o+i*5) [.int .i64 l[i].f,.int .i64 l[i].t,.int .u8 l[i].v.k,.int .i64 l[i].v.n,.slice (VA.a m) l[i].v.l.length (VA.c m)]∧RV w A l[i].v m.a
 | [],_,_,i,h=>absurd h sm
 | x::l,a,h,i,hi=>by
  simp only [RRs] at h
  obtain ⟨b,o,m,rfl,hA,h0,hx,hl⟩:=h
  have hb:b < w.heap.size:=World.block_lt_of_cell? _ _ h0.1
  cases i with
  | zero=>exact ⟨b,o,m,rfl,hA,hb,by simpa using h0,hx⟩
  | succ i=>
   obtain ⟨b',o',m',e,hA',hb',g0,gx⟩:=hl.get i (by simpa using hi)
   simp at e
   obtain ⟨rfl,rfl⟩:=e
   exact ⟨b,o,m',rfl,hA,hb,by rw [show o+(i+1)*5=o+5+i*5 from om];exact g0,gx⟩
theorem RRs.drop {w A}:∀{l:List GR} {b o:Nat},RRs w A l (some ⟨b,o,none⟩)→∀k,RRs w A (l.drop k) (some ⟨b,o+k*5,none⟩)
 | [],_,_,_,k=>by simp only [List.drop_nil,RRs]
 | x::l,b,o,h,0=>by simpa using h
 | x::l,b,o,h,k+1=>by
  simp only [RRs] at h
  obtain ⟨b',o',m,e,hA,h0,hx,hl⟩:=h
  simp at e
  obtain ⟨rfl,rfl⟩:=e
  rw [List.drop_succ_cons,show o+(k+1)*5=o+5+k*5 by omega]
  exact RRs.drop hl k
theorem RRs.take {w A}:∀{l:List GR} {a},RRs w A l a→∀k,RRs w A (l.take k) a
 | [],_,_,k=>by simp only [List.take_nil,RRs]
 | x::l,a,h,0=>by simp only [List.take_zero,RRs]
 | x::l,a,h,k+1=>by
  simp only [List.take_succ_cons,RRs] at h ⊢
  obtain ⟨b',o',m,e,hA,h0,hx,hl⟩:=h
  exact ⟨b',o',m,e,hA,h0,hx,RRs.take hl k⟩
def WM:List (GR×VA)→List Value
 | []=>[]
 | (x,m)::r=>[.int .i64 x.f,.int .i64 x.t,.int .u8 x.v.k,.int .i64 x.v.n,.slice m.a x.v.l.length m.c]++WM r
theorem Vr:∀ps:List (GR×VA),(WM ps).length=ps.length*5
 | []=>rfl
 | (x,m)::r=>by simp only [WM,List.length_append,List.length_cons,List.length_nil,Vr r];omega
theorem WE:∀ps qs:List (GR×VA),WM (ps++qs)=WM ps++WM qs
 | [],qs=>rfl
 | (x,m)::r,qs=>by simp only [List.cons_append,WM,WE r qs,List.nil_append]
theorem KV {w:World} {g:Nat} {A:Nat→Prop} (hA:A g):∀(ps:List (GR×VA)) (o:Nat),(∀j u,(WM ps)[j]? =some u→w.cell? ⟨g,o+j,none⟩=some u)→(∀p∈ps,RV w A p.1.v p.2.a)→RRs w A (ps.map Prod.fst) (some ⟨g,o,none⟩)
 | [],o,_,_=>by simp only [List.map_nil,RRs]
 | (x,m)::r,o,h,hr=>by
  simp only [List.map_cons,RRs]
  refine ⟨g,o,m,rfl,hA,?_,hr (x,m) sm,KV hA r (o+5) (fun j u hj=>?_) fun p hp=>hr p (by simp [hp])⟩
  ·rw [At5]
   exact ⟨h 0 _ rfl,h 1 _ rfl,h 2 _ rfl,h 3 _ rfl,h 4 _ rfl⟩
  have:=h (j+5) u (by simpa [WM] using hj)
  rw [show o+5+j=o+(j+5) by omega];exact this
theorem ZeU {w:World} {base e n:Nat} {v:Value} {ps:List (GR×VA)} {A:Nat→Prop} (h:w.ownsRow base e 5 v n (WM ps)) (hA:∀b,base≤b→A b) (hr:∀p∈ps,RV w A p.1.v p.2.a):∃a c,v=.slice a (ps.map Prod.fst).length ((ps.map Prod.fst).length+c)∧RRs w A (ps.map Prod.fst) a:=by
 have hn:ps.length=n:=by have:=h.1;rw [Vr] at this;omega
 rcases h.2 with ⟨rfl,h0⟩|⟨g,cap,cur,rfl,hb,h3,hcap,h4⟩
 ·have hz:ps=[]:=List.eq_nil_of_length_eq_zero om
  subst hz
  exact ⟨none,0,rfl,by simp only [List.map_nil,RRs]⟩
 refine ⟨_,cap - n,by rw [List.length_map,hn,Nat.add_sub_cancel' hcap],KV (hA _ hb) ps 0 (fun j u hj=>?_) hr⟩
 have hl:=h.1
 have hj2:=(List.getElem?_eq_some_iff.1 hj).1
 rw [Nat.zero_add,h.cellAt j om];exact hj
def SpO (w:World) (A:Nat→Prop) (l:List GR) (a:Option Addr):Prop:=∃ps:List (GR×VA),ps.map Prod.fst=l∧(ps=[]∨∃b,a=some ⟨b,0,none⟩∧A b∧b < w.heap.size ∧
 (∀j u,(WM ps)[j]? =some u→w.cell? ⟨b,j,none⟩=some u∧(ZkJ A→w.frozen? ⟨b,j,none⟩=false))∧∀q∈ps,RV w (fun c=>A c∧c≠b) q.1.v q.2.a)
def RRx (w:World) (A:Nat→Prop) (l:List GR) (a:Option Addr):Prop:=RRs w A l a∧SpO w A l a
theorem RRx.ext {w w':World} {A:Nat→Prop} (h:Agree A w w') (l:List GR) (a:Option Addr) (hx:RRx w A l a):RRx w' A l a:=by
 obtain ⟨h1,ps,e,h2⟩:=hx
 refine ⟨RRs.ext h l a h1,ps,e,?_⟩
 rcases h2 with h2|⟨b,ea,hA,hb,hc,hv⟩
 ·exact .inl h2
 by_cases hz:ps=[]
 ·exact .inl hz
 have hn:0 < (WM ps).length:=by rw [Vr];have:=List.length_pos_iff.2 hz;omega
 have h0:=hc 0 _ (List.getElem?_eq_getElem hn)
 refine .inr ⟨b,ea,hA,World.block_lt_of_cell? _ _ (h _ _ hA h0.1).1,fun j u hj=>?_,fun q hq=>ZmG (fun p v k kc=>h p v k.1 kc) _ _ (hv q hq)⟩
 obtain ⟨k1,k2⟩:=hc j u hj
 have k3:=h _ _ hA k1
 exact ⟨k3.1,fun hL=>k3.2.trans (k2 hL)⟩
theorem RRx.mono {w:World} {A A':Nat→Prop} (h:∀b,A b→b < w.heap.size→A' b) (l:List GR) (a:Option Addr) (hx:RRx w A l a):RRx w A' l a:=by
 obtain ⟨h1,ps,e,h2⟩:=hx
 refine ⟨RRs.mono h l a h1,ps,e,?_⟩
 rcases h2 with h2|⟨b,ea,hA,hb,hc,hv⟩
 ·exact .inl h2
 refine .inr ⟨b,ea,h b hA hb,hb,fun j u hj=>⟨(hc j u hj).1,fun ⟨N,hN,hL⟩=>(hc j u hj).2 ⟨min N w.heap.size,om,fun q hq=>?_⟩⟩,fun q hq=>ZmO (fun c k kb=>⟨h c k.1 kb,k.2⟩) _ _ (hv q hq)⟩
 by_cases hs:q < w.heap.size
 ·have:=hL q (h q hq hs);omega
 omega
theorem UG {w:World} {base e n:Nat} {v:Value} {ps:List (GR×VA)} {A:Nat→Prop} (h:w.ownsRow base e 5 v n (WM ps)) (hA:∀b,base≤b→A b) (hr:∀p∈ps,RV w (fun b=>A b∧v.ownBlock≠some b) p.1.v p.2.a):∃a c,v=.slice a (ps.map Prod.fst).length ((ps.map Prod.fst).length+c)∧RRx w A (ps.map Prod.fst) a:=by
 obtain ⟨a,c,ev,h1⟩:=ZeU h hA (fun p hp=>ZmO (fun b k _=>k.1) _ _ (hr p hp))
 refine ⟨a,c,ev,h1,ps,rfl,?_⟩
 by_cases hz:ps=[]
 ·exact .inl hz
 have hn:ps.length=n:=by have:=h.1;rw [Vr] at this;omega
 have hp:=List.length_pos_iff.2 hz
 obtain ⟨g,cap,e2,hb,hl⟩:=h.form om
 subst e2
 cases ev
 refine .inr ⟨g,rfl,hA g hb,hl,fun j u hj=>?_,fun q hq=>ZmO (fun c k _=>⟨k.1,fun e=>k.2 (by rw [e];rfl)⟩) _ _ (hr q hq)⟩
 have hl:=h.1
 have hj2:=(List.getElem?_eq_some_iff.1 hj).1
 exact ⟨by rw [h.cellAt j om];exact hj,fun _=>h.frozenAt j⟩
theorem Zb2 {w:World} {p q:Addr} {u:Value} (h:∃v,w.cell? p=some v):∃v,(w.setCell q u).cell? p=some v:=by
 obtain ⟨v,hv⟩:=h
 by_cases e:p=q
 ·subst e;exact ⟨u,World.cell?_setCell_same _ _ _ hv⟩
 exact ⟨v,(World.cell?_setCell_other _ _ _ _ (Ne.symm e)).trans hv⟩
def Wr (w:World) (N g:Nat) (a:Option Addr) (k:Nat):Prop:=∀j,j < k→∃b o,a=some ⟨b,o,none⟩∧N≤b∧b≠g∧∀i,i < 3→w.frozen? ⟨b,o+j*3+i,none⟩=false∧∃u,w.cell? ⟨b,o+j*3+i,none⟩=some u
theorem Wr.of {w:World} {N g:Nat} {x:GV} {a:Option Addr} (hN:0 < N) (h:RV w (fun c=>N≤c∧c≠g) x a):Wr w N g a x.l.length:=fun j hj=>by
 obtain ⟨b,o,m,e,⟨h1,h2⟩,hb,h0, -,hf⟩:=(Zl.1 h).getF j hj
 obtain ⟨c0,c1,c2⟩:=At3.1 h0
 refine ⟨b,o,e,h1,h2,fun i hi=>⟨hf ⟨N,hN,fun c k=>k.1⟩ i hi,?_⟩⟩
 rcases (by omega:i=0∨i=1∨i=2) with rfl|rfl|rfl
 ·exact ⟨_,c0⟩
 ·exact ⟨_,c1⟩
 exact ⟨_,c2⟩
theorem Wr.set {w:World} {N g:Nat} {a:Option Addr} {k:Nat} (h:Wr w N g a k) (q:Addr) (u:Value):Wr (w.setCell q u) N g a k:=fun j hj=>by
 obtain ⟨b,o,e,h1,h2,h3⟩:=h j hj
 exact ⟨b,o,e,h1,h2,fun i hi=>⟨by rw [World.frozen?_setCell];exact (h3 i hi).1,Zb2 (h3 i hi).2⟩⟩
theorem Wr.below {w w':World} {N g:Nat} {a:Option Addr} {k:Nat} (h:Wr w N g a k) (hb:Below w.heap.size w w'):Wr w' N g a k:=fun j hj=>by
 obtain ⟨b,o,e,h1,h2,h3⟩:=h j hj
 refine ⟨b,o,e,h1,h2,fun i hi=>?_⟩
 obtain ⟨f,u,hu⟩:=h3 i hi
 have hlt:=World.block_lt_of_cell? _ _ hu
 exact ⟨(hb.frozen hlt).trans f,u,(hb.cell hlt).trans hu⟩
theorem tq {P:Program} {md:Region.Mode} {l:List Oper} {Q:Exit→Act→World→Prop} {S:World→Prop} (i:Nat) {oi:Oper} {v:Value} {fuel:Nat} {listed:Array Bool} {a:Act} {w:World} (hi:l[i]? =some oi) (hy:YieldsIf P l.toArray S oi v a)
  (h:wpAnyH P md l.toArray Q S fuel (listed.setIfInBounds i true) (a.put oi.dst v) w) (hS:S w:=by assumption) (hs:Region.noSelect l.toArray=true:=by kernel_rfl) (hf:Region.free md l.toArray listed i=true:=by kernel_rfl) (hr:(Region.ready md l.toArray listed).contains i=true:=by kernel_rfl)
  (hQ:∀c a w,Q (.panic c) (a.put oi.dst v) w→Q (.panic c) a w:=by exact fun _ _ _ h=>h):wpAnyH P md l.toArray Q S (fuel+1) listed a w:=wpAnyH_take (by simpa using hi) hs hf hr hQ hy hS h
set_option maxRecDepth 100000
set_option maxHeartbeats 4000000
theorem Zdq (N:Nat) (ih:Kq N) (u:GV) (n:Int) (x:GP) (v:GV) (w:World) (A A2:Nat→Prop) (mp:PA) (m:VA) (hN:Zm x≤N) (hg:VT x) (ox:okP x) (hx:RPs w A [x] mp.a) (ov:okV v) (hrow:Ua v=true):
  Calls prog 66 #[PV ⟨11,u,n,[x]⟩ mp,VV v m] w fun e w'=>e=.returned (.bool (Zh x ⟨1,v.l.length,[]⟩))∧Below w.heap.size w w':=by
 obtain ⟨ma,mc⟩:=m
 obtain ⟨na,nb,nc,nd⟩:=mp
 dsimp only at hx
 have OX:=hid ox
 have HG:=hid hg
 have IH:=hid ih
 have HRW:=hid (show J0 v.k=true from hrow)
 obtain ⟨ov1,ov2,ov3, -⟩:=ZA.1 ov
 have OK:=hid ov1
 have OL:Hid (okV ⟨1,v.l.length,[]⟩):=hid (ZA.2 ⟨by simp [Yg],by unfold Zv;dsimp only;omega,sm,by simp [okVs]⟩)
 simp only [RPs] at hx
 obtain ⟨b,o,mj,rfl,hA,g0,gx, -⟩:=hx
 have GX:=hid gx
 obtain ⟨k0,k1,k2,k3,k4,k5⟩:=At6.1 g0
 have hbs:b < w.heap.size:=World.block_lt_of_cell? _ _ k0
 generalize hF:Zh x ⟨1,v.l.length,[]⟩=F
 have HF:=hid hF
 clear ov ox hg ih gx g0 hF hrow ov1 ov2
 go_enter func66,ntmps66
 go_wp2_with (go_at_call 107;refine (V1 v ⟨ma,mc⟩ _ OK.out).mono ?_;rw [HRW.out];rintro e w1 ⟨rfl,hb1⟩;obtain ⟨hc1,hf1⟩:=Za hb1;have hz1:=hb1.size;(try simp at hz1);have y0:w.heap.size < w1.heap.size:=om;have y1:w.heap.size+1 < w1.heap.size:=om;have y2:b < w1.heap.size:=om;have e0:w1.cell? ⟨b,o,none⟩=some (.int .u8 x.k):=(hb1.cell so).trans gs;have e1:w1.cell? ⟨b,o+1,none⟩=some (.int .u8 x.v.k):=(hb1.cell so).trans gs;have e2:w1.cell? ⟨b,o+2,none⟩=some (.int .i64 x.v.n):=(hb1.cell so).trans gs;have e3:w1.cell? ⟨b,o+3,none⟩=some (.slice mj.va x.v.l.length mj.vc):=(hb1.cell so).trans gs;have e4:w1.cell? ⟨b,o+4,none⟩=some (.int .i64 x.n):=(hb1.cell so).trans gs;have e5:w1.cell? ⟨b,o+5,none⟩=some (.slice mj.a x.a.length mj.c):=(hb1.cell so).trans gs;have f5:w1.cell? ⟨w.heap.size,5,none⟩=some (.slice (some ⟨b,o,none⟩) 1 nd):=(hb1.cell so).trans gs;have f2:w1.cell? ⟨w.heap.size+1,2,none⟩=some (.slice ma v.l.length mc):=(hb1.cell so).trans gs)
 clear hc1 hf1
 go_region_held3 (fun W=>∀c k,c < w1.heap.size→W.cell? ⟨c,k,none⟩=w1.cell? ⟨c,k,none⟩) ((intro c k hc;refine Below.cell (B:=w1.heap.size) (w:=w1) (p:=⟨c,k,none⟩) ?_ hc;((repeat (first|with_reducible exact Below.refl _ _|with_reducible assumption|with_reducible refine Below.trans ?_ (Below.mono (by with_reducible assumption) (by first|omega|(simp;done)|(simp;omega)))|with_reducible refine Below.drew ?_|with_reducible refine Below.alloc ?_ (by first|omega|(simp;done)|(simp;omega)) _|with_reducible refine Below.setCell ?_ (by first|omega|(simp;done)|(simp;omega)) _));done))) ((go_at_call 66;refine (IH.out x ⟨1,v.l.length,[]⟩ _ A (fun _=>True) mj ⟨none,0⟩ hN HG.out OX.out (by exact ZmP ar _ _ GX.out) OL.out (by simp [RV,RVs])).mono ?_;rw [HF.out];rintro e w2 ⟨rfl,hb2⟩))
 all_goals go_wp2_with fail
 all_goals go_ret
 all_goals exact ⟨rfl,ZlD⟩
theorem Zen (N:Nat) (ih:Kq N) (u:GV) (n:Nat) (x:GP) (v:GV) (w:World) (A A2:Nat→Prop) (mp:PA) (m:VA) (hn:n≤64) (hN:Zm x≤N) (hg:VT x) (ox:okP x) (hx:RPs w A [x] mp.a) (ov:okV v) (hv:RV w A2 v m.a) (hrow:Ua v=true):
  Calls prog 66 #[PV ⟨8,u,n,[x]⟩ mp,VV v m] w fun e w'=>e=.returned (.bool (match v.l[n]? with|some y=>Zh x y|none=>false))∧Below w.heap.size w w':=by
 obtain ⟨ma,mc⟩:=m
 obtain ⟨na,nb,nc,nd⟩:=mp
 dsimp only at hx hv
 have OX:=hid ox
 have HG:=hid hg
 have IH:=hid ih
 have HRW:=hid (show J0 v.k=true from hrow)
 obtain ⟨ov1,ov2,ov3,ov4⟩:=ZA.1 ov
 have OK:=hid ov1
 have OVL:=hid ov4
 have HVL:=hid (Zl.1 hv)
 simp only [RPs] at hx
 obtain ⟨b,o,mj,rfl,hA,g0,gx, -⟩:=hx
 have GX:=hid gx
 obtain ⟨k0,k1,k2,k3,k4,k5⟩:=At6.1 g0
 have hbs:b < w.heap.size:=World.block_lt_of_cell? _ _ k0
 clear ov ox hg ih gx g0 hrow ov1 ov2 ov4 hv
 by_cases hlt:n < v.l.length
 ·rw [List.getElem?_eq_getElem hlt]
  dsimp only
  obtain ⟨b',o',mi,rfl,hA',hbs',g0',gy⟩:=HVL.out.get n hlt
  obtain ⟨j0,j1,j2⟩:=At3.1 g0'
  have GY:=hid gy
  have OY:=hid (OVL.out.get n hlt)
  generalize hF:Zh x v.l[n]=F
  have HF:=hid hF
  have hn0:(0:Int)≤(n:Int):=om
  have hlt2:(n:Int) < (v.l.length:Int):=om
  clear hF g0' gy
  go_enter func66,ntmps66
  go_wp2_with (go_at_call 107;refine (V1 v ⟨_,mc⟩ _ OK.out).mono ?_;rw [HRW.out];rintro e w1 ⟨rfl,hb1⟩;obtain ⟨hc1,hf1⟩:=Za hb1;have hz1:=hb1.size;(try simp at hz1);have y0:w.heap.size < w1.heap.size:=om;have y1:w.heap.size+1 < w1.heap.size:=om;have y2:b < w1.heap.size:=om;have y3:b' < w1.heap.size:=om;have e0:w1.cell? ⟨b,o,none⟩=some (.int .u8 x.k):=(hb1.cell so).trans gs;have e1:w1.cell? ⟨b,o+1,none⟩=some (.int .u8 x.v.k):=(hb1.cell so).trans gs;have e2:w1.cell? ⟨b,o+2,none⟩=some (.int .i64 x.v.n):=(hb1.cell so).trans gs;have e3:w1.cell? ⟨b,o+3,none⟩=some (.slice mj.va x.v.l.length mj.vc):=(hb1.cell so).trans gs;have e4:w1.cell? ⟨b,o+4,none⟩=some (.int .i64 x.n):=(hb1.cell so).trans gs;have e5:w1.cell? ⟨b,o+5,none⟩=some (.slice mj.a x.a.length mj.c):=(hb1.cell so).trans gs;have l0:w1.cell? ⟨b',o'+n*3,none⟩=some (.int .u8 v.l[n].k):=(hb1.cell so).trans gs;have l1:w1.cell? ⟨b',o'+n*3+1,none⟩=some (.int .i64 v.l[n].n):=(hb1.cell so).trans gs;have l2:w1.cell? ⟨b',o'+n*3+2,none⟩=some (.slice mi.a v.l[n].l.length mi.c):=(hb1.cell so).trans gs;have f4:w1.cell? ⟨w.heap.size,4,none⟩=some (.int .i64 n):=(hb1.cell so).trans gs;have f5:w1.cell? ⟨w.heap.size,5,none⟩=some (.slice (some ⟨b,o,none⟩) 1 nd):=(hb1.cell so).trans gs;have f2:w1.cell? ⟨w.heap.size+1,2,none⟩=some (.slice (some ⟨b',o',none⟩) v.l.length mc):=(hb1.cell so).trans gs)
  clear hc1 hf1
  go_region_held3 (fun W=>∀c k,c < w1.heap.size→W.cell? ⟨c,k,none⟩=w1.cell? ⟨c,k,none⟩) ((intro c k hc;refine Below.cell (B:=w1.heap.size) (w:=w1) (p:=⟨c,k,none⟩) ?_ hc;((repeat (first|with_reducible exact Below.refl _ _|with_reducible assumption|with_reducible refine Below.trans ?_ (Below.mono (by with_reducible assumption) (by first|omega|(simp;done)|(simp;omega)))|with_reducible refine Below.drew ?_|with_reducible refine Below.alloc ?_ (by first|omega|(simp;done)|(simp;omega)) _|with_reducible refine Below.setCell ?_ (by first|omega|(simp;done)|(simp;omega)) _));done))) ((go_at_call 66;refine (IH.out x v.l[n] _ A A2 mj mi hN HG.out OX.out (by exact ZmP ar _ _ GX.out) OY.out (by exact ZmG ar _ _ GY.out)).mono ?_;rw [HF.out];rintro e w2 ⟨rfl,hb2⟩))
  all_goals go_wp2_with fail
  all_goals go_ret
  all_goals exact ⟨sm,ZlD⟩
 rw [List.getElem?_eq_none om]
 have hlt2:¬(n:Int) < (v.l.length:Int):=om
 have hlt3:decide ((n:Int) < (v.l.length:Int))=false:=by simpa using hlt
 go_enter func66,ntmps66
 go_wp2_with (go_at_call 107;refine (V1 v ⟨ma,mc⟩ _ OK.out).mono ?_;rw [HRW.out];rintro e w1 ⟨rfl,hb1⟩;obtain ⟨hc1,hf1⟩:=Za hb1;have hz1:=hb1.size;(try simp at hz1);have y0:w.heap.size < w1.heap.size:=om;have y1:w.heap.size+1 < w1.heap.size:=om)
 have f4:w1.cell? ⟨w.heap.size,4,none⟩=some (.int .i64 n):=(hb1.cell so).trans gs
 have f2:w1.cell? ⟨w.heap.size+1,2,none⟩=some (.slice ma v.l.length mc):=(hb1.cell so).trans gs
 have hbw:Below w.heap.size w w1:=ZlD
 clear hc1 hf1 hb1
 as_aux_lemma=>
  (try dsimp only [List.append])
  refine wp_region_noPanic ?_
  refine wp_region_held_drew (S:=(fun W=>∀c k,c < w1.heap.size→W.cell? ⟨c,k,none⟩=w1.cell? ⟨c,k,none⟩)) kr ?_ (fun hHeld=>?_)
  ·((try dsimp only);(intro c k hc;refine Below.cell (B:=w1.heap.size) (w:=w1) (p:=⟨c,k,none⟩) ?_ hc;((repeat (first|with_reducible exact Below.refl _ _|with_reducible assumption|with_reducible refine Below.trans ?_ (Below.mono (by with_reducible assumption) (by first|omega|(simp;done)|(simp;omega)))|with_reducible refine Below.drew ?_|with_reducible refine Below.alloc ?_ (by first|omega|(simp;done)|(simp;omega)) _|with_reducible refine Below.setCell ?_ (by first|omega|(simp;done)|(simp;omega)) _));done)))
  refine tz 0 ?_
  try simp only [Act.put,sl,s0,ss]
  refine tz 1 ?_
  try simp only [Act.put,sl,s0,ss]
  refine tz 2 ?_
  try simp only [Act.put,sl,s0,ss]
  refine tz 3 ?_
  try simp only [Act.put,sl,s0,ss]
  refine tz 4 ?_
  try simp only [Act.put,sl,s0,ss]
  refine tz 5 ?_
  try simp only [Act.put,sl,s0,ss]
  refine tz 6 ?_
  try simp only [Act.put,sl,s0,ss]
  as_aux_lemma=>
   refine th 7 ?_
   try simp only [Act.put,sl,s0,ss]
   refine th 8 ?_
   try simp only [Act.put,sl,s0,ss]
   refine th 9 ?_
   try simp only [Act.put,sl,s0,ss]
   refine th 10 ?_
   try simp only [Act.put,sl,s0,ss]
   refine th 11 ?_
   try simp only [Act.put,sl,s0,ss]
   refine th 12 ?_
   try simp only [Act.put,sl,s0,ss]
   refine th 13 ?_
   try simp only [Act.put,sl,s0,ss]
   refine th 14 ?_
   try simp only [Act.put,sl,s0,ss]
   as_aux_lemma=>
    refine th 15 ?_
    try simp only [Act.put,sl,s0,ss]
    refine th 16 ?_
    try simp only [Act.put,sl,s0,ss]
    refine th 17 ?_
    try simp only [Act.put,sl,s0,ss]
    refine tz 18 ?_
    try simp only [Act.put,sl,s0,ss]
    refine tz 19 ?_
    try simp only [Act.put,sl,s0,ss]
    refine wpAnyH_done kr ?_ _
    as_aux_lemma=>
     (refine NoPanic.normal ?_;go_wp2_with fail;go_ret;exact ⟨rfl,ZlD⟩)
set_option maxHeartbeats 8000000
theorem QB (N:Nat) (ih:Kq N) (k:Int) (u:GV) (n:Int) (x:GP) (v:GV) (w:World) (A A2:Nat→Prop) (mp:PA) (m:VA) (hk:k=9∨k=10) (hN:Zm x≤N) (hg:VT x) (ox:okP x) (hx:RPs w A [x] mp.a) (ov:okV v) (hv:RV w A2 v m.a) (hrow:Ua v=true):
  Calls prog 66 #[PV ⟨k,u,n,[x]⟩ mp,VV v m] w fun e w'=>e=.returned (.bool (if k=9 then v.l.all (fun y=>Zh x y) else v.l.any (fun y=>Zh x y)))∧Below w.heap.size w w':=by
 obtain ⟨ma,mc⟩:=m
 obtain ⟨na,nb,nc,nd⟩:=mp
 dsimp only at hx hv
 have OX:=hid ox
 have HG:=hid hg
 have IH:=hid ih
 have HRW:=hid (show J0 v.k=true from hrow)
 obtain ⟨ov1,ov2,ov3,ov4⟩:=ZA.1 ov
 have OK:=hid ov1
 have OVL:=hid ov4
 have HVL:=hid (Zl.1 hv)
 simp only [RPs] at hx
 obtain ⟨b,o,mj,rfl,hA,g0,gx, -⟩:=hx
 have GX:=hid gx
 have G0:=hid g0
 have hbs:b < w.heap.size:=World.block_lt_of_cell? _ _ (At6.1 g0).1
 clear ov ox hg ih gx g0 hrow ov1 ov2 ov4 hv
 rcases hk with rfl|rfl
 all_goals
  go_enter func66,ntmps66
  go_wp2_with (go_at_call 107;refine (V1 v ⟨ma,mc⟩ _ OK.out).mono ?_;rw [HRW.out];rintro e w1 ⟨rfl,hb1⟩;obtain ⟨hc1,hf1⟩:=Za hb1;have hz1:=hb1.size;(try simp at hz1);have y0:w.heap.size < w1.heap.size:=om;have y1:w.heap.size+1 < w1.heap.size:=om)
  go_loopg [7,8,9] (v.l.length) (fun gk t7 t8 i wr=>∃j:Nat,gk+j=v.l.length∧i=.int .i64 j∧t7=.bool ((v.l.take j).any fun y=>Zh x y)∧t8=.bool ((v.l.take j).all fun y=>Zh x y)∧Below w.heap.size w wr∧w.heap.size+1 < wr.heap.size ∧
   wr.cell? ⟨w.heap.size,0,none⟩=w1.cell? ⟨w.heap.size,0,none⟩∧wr.cell? ⟨w.heap.size,5,none⟩=some (.slice (some ⟨b,o,none⟩) 1 nd)∧wr.cell? ⟨w.heap.size+1,2,none⟩=some (.slice ma v.l.length mc))
  case atStart=>exact ⟨0,om,rfl,sm,sm,ZlD,y1,rfl,gs,gs⟩
  case round=>
   obtain ⟨j,hj,rfl,rfl,rfl,hb,hz,ck,c5,c2⟩:=hrel
   by_cases hlt:j < v.l.length
   ·obtain ⟨b',o',mi,rfl,hA',hbs',g0',gy⟩:=HVL.out.get j hlt
    obtain ⟨k0,k1,k2,k3,k4,k5⟩:=At6.1 (G0.out.ext (ZlH hb) (A:=fun _=>True) trivial)
    obtain ⟨j0,j1,j2⟩:=At3.1 (g0'.ext (ZlH hb) (A:=fun _=>True) trivial)
    have GY:=hid gy
    have hs1:b < wr.heap.size:=om
    have hs2:b' < wr.heap.size:=om
    have HA1:=hid (ZhL (f:=fun y=>Zh x y) j hlt)
    have HA2:=hid (ZhK (f:=fun y=>Zh x y) j hlt)
    generalize hC:Zh x v.l[j]=C at HA1 HA2
    have HC:=hid hC
    generalize ((v.l.take j).any fun y=>Zh x y)=S at HA1 ⊢
    generalize ((v.l.take j).all fun y=>Zh x y)=E at HA2 ⊢
    clear hC gy g0'
    go_wp2_with fail
    refine Z0 9 kr kr ?_
    simp only [List.take_succ_cons,List.take_zero,List.drop_succ_cons,List.drop_zero]
    repeat still_step
    refine wpStill_nil ?_
    go_wp2_with (go_at_call 66;refine (IH.out x v.l[j] _ A A2 mj mi hN HG.out OX.out (by exact ZmP ar _ _ GX.out) (OVL.out.get j hlt) (by exact ZmG ar _ _ GY.out)).mono ?_;rw [HC.out];rintro e w2 ⟨rfl,hb2⟩;have hz2:=hb2.size;(try simp at hz2);have hbb:Below w.heap.size w w2:=ZlD;cases S<;>cases E<;>cases C)
    all_goals go_roundg (gk - 1)
    all_goals first
     | (case measure=>omega)
     | (case rel=>exact ⟨j+1,om,by go_num,by rw [HA1.out];rfl,by rw [HA2.out];rfl,hbb,om,(hb2.cell so).trans (by simpa using ck),(hb2.cell so).trans gs,(hb2.cell so).trans gs⟩)
   obtain rfl:j=v.l.length:=om
   go_wp2_with fail
   go_ret
   exact ⟨sm,ZlD⟩
set_option maxRecDepth 512
theorem Zkp {α:Type} {l:List α} (h:l.length=1):∃x,l=[x]:=by
 match l,h with
 | [x],_=>exact ⟨x,rfl⟩
theorem Zdp:∀N,Kq N:=by
 intro N
 induction N with
 | zero=>intro p;have:=ZS p;intros;omega
 | succ N ih=>
  rintro ⟨k,u,n,l⟩ v w A A2 mp m hN hg ox hr ov hv
  obtain ⟨hnd,hgs⟩:=Zbk.1 hg
  obtain ⟨h1,h2,h3,h4,h5⟩:=ZbB hnd
  obtain ⟨hu,hx⟩:=Wn.1 hr
  obtain ⟨o1,o2,o3,o4,o5⟩:=Y3.1 ox
  dsimp only at h1 h2 h3 h4 h5 hu hx hgs o1 o2 o3 o4 o5
  have hse:=Wk ⟨k,u,n,l⟩
  dsimp only at hse
  have hpos:=Zr u
  by_cases hleaf:k=1∨k=2∨k=3∨k=4
  ·exact Zb6 k u n l v w A A2 mp m hleaf o2 hu ov hv
  by_cases h6:k=6
  ·subst h6
   refine (Zdo N ih u n l v w A A2 mp m om hgs o5 (h4 (.inl rfl)) hx ov hv).mono fun e w' ⟨he,hb⟩=>⟨?_,hb⟩
   rw [he,←Zbp]
   simp [Zh]
  by_cases h7:k=7
  ·subst h7
   refine (Zep N ih u n l v w A A2 mp m om hgs o5 (h4 (.inr rfl)) hx ov hv).mono fun e w' ⟨he,hb⟩=>⟨?_,hb⟩
   rw [he,←Zbq]
   simp [Zh]
  obtain ⟨x,rfl⟩:=Zkp (h2 om)
  have hxN:Zm x≤N:=by simp only [ZY] at hse;omega
  have gx:VT x:=hgs.get 0 sm
  have okx:okP x:=o5.get 0 sm
  by_cases h50:k=5
  ·subst h50
   refine (Zdr N ih u n x v w A A2 mp m hxN gx okx hx ov hv).mono fun e w' ⟨he,hb⟩=>⟨?_,hb⟩
   rw [he]
   simp [Zh,Xz]
  cases hrow:Ua v with
  | false=>
   refine (Zeo k u n [x] v w mp m om ov hrow).mono fun e w' ⟨he,hb⟩=>⟨?_,hb⟩
   rw [he]
   rcases (show k=8∨k=9∨k=10∨k=11 by omega) with rfl|rfl|rfl|rfl<;>simp [Zh,hrow]
  | true=>
   rcases (show k=8∨k=9∨k=10∨k=11 by omega) with rfl|rfl|rfl|rfl
   ·obtain ⟨n0,n1⟩:=h3 rfl
    obtain ⟨q,rfl⟩:∃q:Nat,n=(q:Int):=⟨n.toNat,om⟩
    refine (Zen N ih u q x v w A A2 mp m om hxN gx okx hx ov hv hrow).mono fun e w' ⟨he,hb⟩=>⟨?_,hb⟩
    rw [he]
    simp [Zh,hrow,Xz]
    cases v.l[q]? <;>rfl
   ·refine (QB N ih 9 u n x v w A A2 mp m (.inl rfl) hxN gx okx hx ov hv hrow).mono fun e w' ⟨he,hb⟩=>⟨?_,hb⟩
    rw [he]
    simp [Zh,hrow,Xz]
   ·refine (QB N ih 10 u n x v w A A2 mp m (.inr rfl) hxN gx okx hx ov hv hrow).mono fun e w' ⟨he,hb⟩=>⟨?_,hb⟩
    rw [he]
    simp [Zh,hrow,Xz]
   refine (Zdq N ih u n x v w A A2 mp m hxN gx okx hx ov hrow).mono fun e w' ⟨he,hb⟩=>⟨?_,hb⟩
   rw [he]
   simp [Zh,hrow,Xz]
set_option maxRecDepth 100000
theorem Zfw (p:GP) (w:World) (A:Nat→Prop) (m:PA) (ox:okP p) (hs:Zm p≤1099511627776) (hl:RP w A p m):
  Calls prog 65 #[PV p m] w fun e w'=>e=.returned (.bool (Xo p))∧Below w.heap.size w w':=by
 obtain ⟨na,nb,nc,nd⟩:=m
 have HL:=hid hl
 have OX:=hid ox
 generalize hF:Xo p=F
 have HF:=hid (show (((Zw p).2==0)=F) from hF)
 clear hl ox hF
 go_enter func65,ntmps65
 go_wp2_with (go_at_call 23;refine (Z2 p _ A ⟨na,nb,nc,nd⟩ OX.out hs (by exact ZmP ar _ _ HL.out)).mono ?_;rintro e w1 ⟨rfl,hb1⟩)
 go_ret
 exact ⟨XA HF.out,ZlD⟩
set_option maxRecDepth 512
theorem Zdn (p:GP) (v:GV) (w:World) (A A2:Nat→Prop) (mp:PA) (m:VA) (ox:okP p) (hs:Zm p≤1099511627776) (hl:RP w A p mp) (ov:okV v) (hv:RV w A2 v m.a) (hmay:Xo p=true):
  Calls prog 42 #[PV p mp,VV v m] w fun e w'=>e=.returned (.bool (Zh p v))∧Below w.heap.size w w':=by
 obtain ⟨na,nb,nc,nd⟩:=mp
 obtain ⟨ma,mc⟩:=m
 have HL:=hid hl
 have OX:=hid ox
 have HV:=hid hv
 have OV:=hid ov
 have HM:=hid hmay
 have HG:=hid (Je hmay)
 clear hl ox hv ov hmay
 go_enter func42,ntmps42
 go_wp2_with (first
  | (go_at_call 65;refine (Zfw p _ A ⟨na,nb,nc,nd⟩ OX.out hs (by exact ZmP ar _ _ HL.out)).mono ?_;rw [HM.out];rintro e w1 ⟨rfl,hb1⟩;obtain ⟨hc1,hf1⟩:=Za hb1;have hz1:=hb1.size;(try simp at hz1);have y0:w.heap.size < w1.heap.size:=om;have y1:w.heap.size+1 < w1.heap.size:=om)
  | (go_at_call 66;refine (Zdp (Zm p) p v _ A A2 ⟨na,nb,nc,nd⟩ ⟨ma,mc⟩ (Nat.le_refl _) HG.out OX.out (by exact ZmP ar _ _ HL.out) OV.out (by exact ZmG ar _ _ HV.out)).mono ?_;rintro e w2 ⟨rfl,hb2⟩))
 go_ret
 exact ⟨sm,ZlD⟩
theorem Zkl:(prog.info? 77).map (fun i=>(i.zero,i.size,i.bytes))=some (some (.agg #[.int .i64 0,.int .i64 0,.int .u8 0,.int .i64 0,.slice none 0 0]),5,56):=kr
end Go.Proofs.YtclphfojkggcpaaGreatDoor
