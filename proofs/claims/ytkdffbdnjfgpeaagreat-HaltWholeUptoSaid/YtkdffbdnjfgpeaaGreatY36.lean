/- Part 37. -/
import Derived.Test.YtkdffbdnjfgpeaaGreatY13
import Derived.Test.YtkdffbdnjfgpeaaGreatY21
set_option linter.all false
namespace Go.Proofs.YtkdffbdnjfgpeaaGreat
open Go Go.RowKit
abbrev GH:=ByteArray×GV
theorem Zsd {w b o c0 c1 c2 c3}:At w b o [c0,c1,c2,c3]↔w.cell? ⟨b,o,none⟩=some c0∧w.cell? ⟨b,o+1,none⟩=some c1∧w.cell? ⟨b,o+2,none⟩=some c2∧w.cell? ⟨b,o+3,none⟩=some c3:=by
 simp only [At,Nat.add_assoc,Nat.reduceAdd,and_true]
def okJ (x:GH):Prop:=x.1.size≤1024∧okV x.2
def Zx7 (l:List GH):Prop:=∀x∈l,okJ x
def RJs (w:World) (A:Nat→Prop):List GH→Option Addr→Prop
 | [],_=>True
 | x::l,a=>∃b o m,a=some ⟨b,o,none⟩∧A b∧At w b o [.string x.1,.int .u8 x.2.k,.int .i64 x.2.n,.slice (VA.a m) x.2.l.length (VA.c m)]∧RV w A x.2 m.a∧RJs w A l (some ⟨b,o+4,none⟩)
theorem RJs.ext {w w':World} {A:Nat→Prop} (h:Agree A w w'):∀(l:List GH) a,RJs w A l a→RJs w' A l a
 | [],_,_=>by simp only [RJs]
 | x::l,a,hx=>by
  simp only [RJs] at hx ⊢
  obtain ⟨b,o,m,e,hA,h0,hx,hl⟩:=hx
  exact ⟨b,o,m,e,hA,h0.ext h hA,Zt5 h x.2 _ hx,RJs.ext h l _ hl⟩
theorem RJs.mono {w:World} {A A':Nat→Prop} (h:∀b,A b→b < w.heap.size→A' b):∀(l:List GH) a,RJs w A l a→RJs w A' l a
 | [],_,_=>by simp only [RJs]
 | x::l,a,hx=>by
  simp only [RJs] at hx ⊢
  obtain ⟨b,o,m,e,hA,h0,hx,hl⟩:=hx
  exact ⟨b,o,m,e,h b hA (World.block_lt_of_cell? _ _ h0.1),h0,Zt9 h x.2 _ hx,RJs.mono h l _ hl⟩
theorem RJs.get {w A}:∀{l:List GH} {a},RJs w A l a→∀i (h:i < l.length),∃b o m,a=some ⟨b,o,none⟩∧A b∧b < w.heap.size ∧
  At w b (o+i*4) [.string l[i].1,.int .u8 l[i].2.k,.int .i64 l[i].2.n,.slice (VA.a m) l[i].2.l.length (VA.c m)]∧RV w A l[i].2 m.a
 | [],_,_,i,h=>absurd h sm
 | x::l,a,h,i,hi=>by
  simp only [RJs] at h
  obtain ⟨b,o,m,rfl,hA,h0,hx,hl⟩:=h
  have hb:b < w.heap.size:=World.block_lt_of_cell? _ _ h0.1
  cases i with
  | zero=>exact ⟨b,o,m,rfl,hA,hb,by simpa using h0,hx⟩
  | succ i=>
   obtain ⟨b',o',m',e,hA',hb',g0,gx⟩:=hl.get i (by simpa using hi)
   simp at e
   obtain ⟨rfl,rfl⟩:=e
   exact ⟨b,o,m',rfl,hA,hb,by rw [show o+(i+1)*4=o+4+i*4 from om];exact g0,gx⟩
theorem RJs.drop {w A}:∀{l:List GH} {b o:Nat},RJs w A l (some ⟨b,o,none⟩)→∀k,RJs w A (l.drop k) (some ⟨b,o+k*4,none⟩)
 | [],_,_,_,k=>by simp only [List.drop_nil,RJs]
 | x::l,b,o,h,0=>by simpa using h
 | x::l,b,o,h,k+1=>by
  simp only [RJs] at h
  obtain ⟨b',o',m,e,hA,h0,hx,hl⟩:=h
  simp at e
  obtain ⟨rfl,rfl⟩:=e
  rw [List.drop_succ_cons,show o+(k+1)*4=o+4+k*4 by omega]
  exact RJs.drop hl k
theorem RJs.take {w A}:∀{l:List GH} {a},RJs w A l a→∀k,RJs w A (l.take k) a
 | [],_,_,k=>by simp only [List.take_nil,RJs]
 | x::l,a,h,0=>by simp only [List.take_zero,RJs]
 | x::l,a,h,k+1=>by
  simp only [List.take_succ_cons,RJs] at h ⊢
  obtain ⟨b',o',m,e,hA,h0,hx,hl⟩:=h
  exact ⟨b',o',m,e,hA,h0,hx,RJs.take hl k⟩
def W0:List (GH×VA)→List Value
 | []=>[]
 | (x,m)::r=>[.string x.1,.int .u8 x.2.k,.int .i64 x.2.n,.slice m.a x.2.l.length m.c]++W0 r
theorem Wr:∀ps:List (GH×VA),(W0 ps).length=ps.length*4
 | []=>rfl
 | (x,m)::r=>by simp only [W0,List.length_append,List.length_cons,List.length_nil,Wr r];omega
theorem Zqo:∀ps qs:List (GH×VA),W0 (ps++qs)=W0 ps++W0 qs
 | [],qs=>rfl
 | (x,m)::r,qs=>by simp only [List.cons_append,W0,Zqo r qs,List.nil_append]
theorem ZpJ {w:World} {g:Nat} {A:Nat→Prop} (hA:A g):∀(ps:List (GH×VA)) (o:Nat),(∀j u,(W0 ps)[j]? =some u→w.cell? ⟨g,o+j,none⟩=some u)→(∀p∈ps,RV w A p.1.2 p.2.a)→RJs w A (ps.map Prod.fst) (some ⟨g,o,none⟩)
 | [],o,_,_=>by simp only [List.map_nil,RJs]
 | (x,m)::r,o,h,hr=>by
  simp only [List.map_cons,RJs]
  refine ⟨g,o,m,rfl,hA,?_,hr (x,m) sm,ZpJ hA r (o+4) (fun j u hj=>?_) fun p hp=>hr p (by simp [hp])⟩
  ·rw [Zsd]
   exact ⟨h 0 _ rfl,h 1 _ rfl,h 2 _ rfl,h 3 _ rfl⟩
  have:=h (j+4) u (by simpa [W0] using hj)
  rw [show o+4+j=o+(j+4) by omega];exact this
theorem ZqM {w:World} {base e n:Nat} {v:Value} {ps:List (GH×VA)} {A:Nat→Prop} (h:w.ownsRow base e 4 v n (W0 ps)) (hA:∀b,base≤b→A b) (hr:∀p∈ps,RV w A p.1.2 p.2.a):∃a c,v=.slice a (ps.map Prod.fst).length ((ps.map Prod.fst).length+c)∧RJs w A (ps.map Prod.fst) a:=by
 have hn:ps.length=n:=by have:=h.1;rw [Wr] at this;omega
 rcases h.2 with ⟨rfl,h0⟩|⟨g,cap,cur,rfl,hb,h3,hcap,h4⟩
 ·have hz:ps=[]:=List.eq_nil_of_length_eq_zero om
  subst hz
  exact ⟨none,0,rfl,by simp only [List.map_nil,RJs]⟩
 refine ⟨_,cap - n,by rw [List.length_map,hn,Nat.add_sub_cancel' hcap],ZpJ (hA _ hb) ps 0 (fun j u hj=>?_) hr⟩
 have hl:=h.1
 have hj2:=(List.getElem?_eq_some_iff.1 hj).1
 rw [Nat.zero_add,h.cellAt j om];exact hj
def SpJ (w:World) (A:Nat→Prop) (l:List GH) (a:Option Addr):Prop:=∃ps:List (GH×VA),ps.map Prod.fst=l∧(ps=[]∨∃b,a=some ⟨b,0,none⟩∧A b∧b < w.heap.size ∧
 (∀j u,(W0 ps)[j]? =some u→w.cell? ⟨b,j,none⟩=some u∧(ZkJ A→w.frozen? ⟨b,j,none⟩=false))∧∀q∈ps,RV w (fun c=>A c∧c≠b) q.1.2 q.2.a)
def RJx (w:World) (A:Nat→Prop) (l:List GH) (a:Option Addr):Prop:=RJs w A l a∧SpJ w A l a
theorem Zmr {p:Prop} (h:p:=by
 have h0:=hc 0 _ (List.getElem?_eq_getElem hn)
 refine .inr ⟨b,ea,hA,World.block_lt_of_cell? _ _ (h _ _ hA h0.1).1,fun j u hj=>?_,fun q hq=>Zt5 (fun p v k kc=>h p v k.1 kc) _ _ (hv q hq)⟩
 obtain ⟨k1,k2⟩:=hc j u hj
 have k3:=h _ _ hA k1
 exact ⟨k3.1,fun hL=>k3.2.trans (k2 hL)⟩):p:=h
theorem RJx.ext {w w':World} {A:Nat→Prop} (h:Agree A w w') (l:List GH) (a:Option Addr) (hx:RJx w A l a):RJx w' A l a:=by
 obtain ⟨h1,ps,e,h2⟩:=hx
 refine ⟨RJs.ext h l a h1,ps,e,?_⟩
 rcases h2 with h2|⟨b,ea,hA,hb,hc,hv⟩
 ·exact .inl h2
 by_cases hz:ps=[]
 ·exact .inl hz
 have hn:0 < (W0 ps).length:=by rw [Wr];have:=List.length_pos_iff.2 hz;omega
 exact Zmr
theorem ZlF {p:Prop} (h:p:=by
 rcases h2 with h2|⟨b,ea,hA,hb,hc,hv⟩
 ·exact .inl h2
 refine .inr ⟨b,ea,h b hA hb,hb,fun j u hj=>⟨(hc j u hj).1,fun ⟨N,hN,hL⟩=>(hc j u hj).2 ⟨min N w.heap.size,om,fun q hq=>?_⟩⟩,fun q hq=>Zt9 (fun c k kb=>⟨h c k.1 kb,k.2⟩) _ _ (hv q hq)⟩
 by_cases hs:q < w.heap.size
 ·have:=hL q (h q hq hs);omega
 omega):p:=h
theorem RJx.mono {w:World} {A A':Nat→Prop} (h:∀b,A b→b < w.heap.size→A' b) (l:List GH) (a:Option Addr) (hx:RJx w A l a):RJx w A' l a:=by
 obtain ⟨h1,ps,e,h2⟩:=hx
 refine ⟨RJs.mono h l a h1,ps,e,?_⟩
 exact ZlF
theorem ZxS {w:World} {base e n:Nat} {v:Value} {ps:List (GH×VA)} {A:Nat→Prop} (h:w.ownsRow base e 4 v n (W0 ps)) (hA:∀b,base≤b→A b) (hr:∀p∈ps,RV w (fun b=>A b∧v.ownBlock≠some b) p.1.2 p.2.a):∃a c,v=.slice a (ps.map Prod.fst).length ((ps.map Prod.fst).length+c)∧RJx w A (ps.map Prod.fst) a:=by
 obtain ⟨a,c,ev,h1⟩:=ZqM h hA (fun p hp=>Zt9 (fun b k _=>k.1) _ _ (hr p hp))
 refine ⟨a,c,ev,h1,ps,rfl,?_⟩
 by_cases hz:ps=[]
 ·exact .inl hz
 have hn:ps.length=n:=by have:=h.1;rw [Wr] at this;omega
 have hp:=List.length_pos_iff.2 hz
 obtain ⟨g,cap,e2,hb,hl⟩:=h.form om
 subst e2
 cases ev
 refine .inr ⟨g,rfl,hA g hb,hl,fun j u hj=>?_,fun q hq=>Zt9 (fun c k _=>⟨k.1,fun e=>k.2 (by rw [e];rfl)⟩) _ _ (hr q hq)⟩
 have hl:=h.1
 have hj2:=(List.getElem?_eq_some_iff.1 hj).1
 exact ⟨by rw [h.cellAt j om];exact hj,fun _=>h.frozenAt j⟩
theorem At5 {w b o c0 c1 c2 c3 c4}:At w b o [c0,c1,c2,c3,c4]↔w.cell? ⟨b,o,none⟩=some c0∧w.cell? ⟨b,o+1,none⟩=some c1∧w.cell? ⟨b,o+2,none⟩=some c2 ∧
  w.cell? ⟨b,o+3,none⟩=some c3∧w.cell? ⟨b,o+4,none⟩=some c4:=by
 simp only [At,Nat.add_assoc,Nat.reduceAdd,and_true]
def RRs (w:World) (A:Nat→Prop):List GR→Option Addr→Prop
 | [],_=>True
 | x::l,a=>∃b o m,a=some ⟨b,o,none⟩∧A b∧At w b o [.int .i64 x.f,.int .i64 x.t,.int .u8 x.v.k,.int .i64 x.v.n,.slice (VA.a m) x.v.l.length (VA.c m)]∧RV w A x.v m.a∧RRs w A l (some ⟨b,o+5,none⟩)
theorem RRs.ext {w w':World} {A:Nat→Prop} (h:Agree A w w'):∀(l:List GR) a,RRs w A l a→RRs w' A l a
 | [],_,_=>by simp only [RRs]
 | x::l,a,hx=>by
  simp only [RRs] at hx ⊢
  obtain ⟨b,o,m,e,hA,h0,hx,hl⟩:=hx
  exact ⟨b,o,m,e,hA,h0.ext h hA,Zt5 h x.v _ hx,RRs.ext h l _ hl⟩
theorem RRs.mono {w:World} {A A':Nat→Prop} (h:∀b,A b→b < w.heap.size→A' b):∀(l:List GR) a,RRs w A l a→RRs w A' l a
 | [],_,_=>by simp only [RRs]
 | x::l,a,hx=>by
  simp only [RRs] at hx ⊢
  obtain ⟨b,o,m,e,hA,h0,hx,hl⟩:=hx
  exact ⟨b,o,m,e,h b hA (World.block_lt_of_cell? _ _ h0.1),h0,Zt9 h x.v _ hx,RRs.mono h l _ hl⟩
theorem RRs.get {w A}:∀{l:List GR} {a},RRs w A l a→∀i (h:i < l.length),∃b o m,a=some ⟨b,o,none⟩∧A b∧b < w.heap.size ∧
  At w b (o+i*5) [.int .i64 l[i].f,.int .i64 l[i].t,.int .u8 l[i].v.k,.int .i64 l[i].v.n,.slice (VA.a m) l[i].v.l.length (VA.c m)]∧RV w A l[i].v m.a
 | [],_,_,i,h=>absurd h sm
 | x::l,a,h,i,hi=>by
  simp only [RRs] at h
  obtain ⟨b,o,m,rfl,hA,h0,hx,hl⟩:=h
  have hb:b < w.heap.size:=World.block_lt_of_cell? _ _ h0.1
  cases i with
  | zero=>exact ⟨b,o,m,rfl,hA,hb,by simpa using h0,hx⟩
  | succ i=>
   obtain ⟨b',o',m',e,hA',hb',g0,gx⟩:=hl.get i (by simpa using hi)
   simp at e
   obtain ⟨rfl,rfl⟩:=e
   exact ⟨b,o,m',rfl,hA,hb,by rw [show o+(i+1)*5=o+5+i*5 from om];exact g0,gx⟩
theorem RRs.drop {w A}:∀{l:List GR} {b o:Nat},RRs w A l (some ⟨b,o,none⟩)→∀k,RRs w A (l.drop k) (some ⟨b,o+k*5,none⟩)
 | [],_,_,_,k=>by simp only [List.drop_nil,RRs]
 | x::l,b,o,h,0=>by simpa using h
 | x::l,b,o,h,k+1=>by
  simp only [RRs] at h
  obtain ⟨b',o',m,e,hA,h0,hx,hl⟩:=h
  simp at e
  obtain ⟨rfl,rfl⟩:=e
  rw [List.drop_succ_cons,show o+(k+1)*5=o+5+k*5 by omega]
  exact RRs.drop hl k
theorem RRs.take {w A}:∀{l:List GR} {a},RRs w A l a→∀k,RRs w A (l.take k) a
 | [],_,_,k=>by simp only [List.take_nil,RRs]
 | x::l,a,h,0=>by simp only [List.take_zero,RRs]
 | x::l,a,h,k+1=>by
  simp only [List.take_succ_cons,RRs] at h ⊢
  obtain ⟨b',o',m,e,hA,h0,hx,hl⟩:=h
  exact ⟨b',o',m,e,hA,h0,hx,RRs.take hl k⟩
def WM:List (GR×VA)→List Value
 | []=>[]
 | (x,m)::r=>[.int .i64 x.f,.int .i64 x.t,.int .u8 x.v.k,.int .i64 x.v.n,.slice m.a x.v.l.length m.c]++WM r
theorem Vr:∀ps:List (GR×VA),(WM ps).length=ps.length*5
 | []=>rfl
 | (x,m)::r=>by simp only [WM,List.length_append,List.length_cons,List.length_nil,Vr r];omega
def SpO (w:World) (A:Nat→Prop) (l:List GR) (a:Option Addr):Prop:=∃ps:List (GR×VA),ps.map Prod.fst=l∧(ps=[]∨∃b,a=some ⟨b,0,none⟩∧A b∧b < w.heap.size ∧
 (∀j u,(WM ps)[j]? =some u→w.cell? ⟨b,j,none⟩=some u∧(ZkJ A→w.frozen? ⟨b,j,none⟩=false))∧∀q∈ps,RV w (fun c=>A c∧c≠b) q.1.v q.2.a)
def RRx (w:World) (A:Nat→Prop) (l:List GR) (a:Option Addr):Prop:=RRs w A l a∧SpO w A l a
theorem RRx.ext {w w':World} {A:Nat→Prop} (h:Agree A w w') (l:List GR) (a:Option Addr) (hx:RRx w A l a):RRx w' A l a:=by
 obtain ⟨h1,ps,e,h2⟩:=hx
 refine ⟨RRs.ext h l a h1,ps,e,?_⟩
 rcases h2 with h2|⟨b,ea,hA,hb,hc,hv⟩
 ·exact .inl h2
 by_cases hz:ps=[]
 ·exact .inl hz
 have hn:0 < (WM ps).length:=by rw [Vr];have:=List.length_pos_iff.2 hz;omega
 exact Zmr
theorem RRx.mono {w:World} {A A':Nat→Prop} (h:∀b,A b→b < w.heap.size→A' b) (l:List GR) (a:Option Addr) (hx:RRx w A l a):RRx w A' l a:=by
 obtain ⟨h1,ps,e,h2⟩:=hx
 refine ⟨RRs.mono h l a h1,ps,e,?_⟩
 exact ZlF
theorem tq {P:Program} {md:Region.Mode} {l:List Oper} {Q:Exit→Act→World→Prop} {S:World→Prop} (i:Nat) {oi:Oper} {v:Value} {fuel:Nat} {listed:Array Bool} {a:Act} {w:World} (hi:l[i]? =some oi) (hy:YieldsIf P l.toArray S oi v a)
  (h:wpAnyH P md l.toArray Q S fuel (listed.setIfInBounds i true) (a.put oi.dst v) w) (hS:S w:=by assumption) (hs:Region.noSelect l.toArray=true:=by kernel_rfl) (hf:Region.free md l.toArray listed i=true:=by kernel_rfl) (hr:(Region.ready md l.toArray listed).contains i=true:=by kernel_rfl)
  (hQ:∀c a w,Q (.panic c) (a.put oi.dst v) w→Q (.panic c) a w:=by exact fun _ _ _ h=>h):wpAnyH P md l.toArray Q S (fuel+1) listed a w:=wpAnyH_take (by simpa using hi) hs hf hr hQ hy hS h
theorem Zxs {w:World} {b:Nat} {c0 c1 c2 c3 c4:Value}:At w b 0 [c0,c1,c2,c3,c4]↔w.cell? ⟨b,0,none⟩=some c0∧w.cell? ⟨b,1,none⟩=some c1∧w.cell? ⟨b,2,none⟩=some c2∧w.cell? ⟨b,3,none⟩=some c3∧w.cell? ⟨b,4,none⟩=some c4:=At5
end Go.Proofs.YtkdffbdnjfgpeaaGreat
