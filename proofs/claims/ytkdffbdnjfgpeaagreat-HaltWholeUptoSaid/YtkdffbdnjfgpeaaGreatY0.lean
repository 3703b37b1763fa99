/- Part 1. -/
import Derived.Deep.LoopGhost
import Derived.Lib.Hide
import Derived.StillTailTactics
import Derived.WalkKit
import Derived.WalkSpells
set_option linter.all false
namespace Go.Proofs.YtkdffbdnjfgpeaaGreat
open Go Go.RowKit
theorem sz {p:Prop} (h:p:=by first|omega|(simp;done)|(simp;omega)):p:=h
theorem so {p:Prop} (h:p:=by first|(simp;done)|(simp;omega)):p:=h
theorem gs {p:Prop} (h:p:=by go_simp):p:=h
theorem om {p:Prop} (h:p:=by omega):p:=h
theorem sm {p:Prop} (h:p:=by simp):p:=h
theorem kr {p:Prop} (h:p:=by kernel_rfl):p:=h
theorem _root_.Go.RowKit.Below.m {B B':Nat} {w w':World} (h:Below B w w') (k:B'≤B:=by first|omega|(simp;done)|(simp;omega)):Below B' w w':=Below.mono h k
theorem _root_.Go.RowKit.Below.a {B:Nat} {w w':World} (h:Below B w w') (o:Obj) (k:B≤w'.heap.size:=by first|omega|(simp;done)|(simp;omega)):Below B w (w'.alloc o):=Below.alloc h k o
theorem _root_.Go.RowKit.Below.s {B:Nat} {w w':World} (h:Below B w w') (u:Value) {p:Addr} (k:B≤p.block:=by first|omega|(simp;done)|(simp;omega)):Below B w (w'.setCell p u):=Below.setCell h k u
theorem _root_.Go.RowKit.Below.z {B:Nat} {w w':World} (h:Below B w w':=by repeat (first|exact .refl _ _|assumption|refine .trans ?_ (.m (by assumption))|refine .drew ?_|refine .a ?_ _|refine .s ?_ _)):Below B w w':=h
abbrev ZtX:=@Below.z
theorem _root_.Go.RowKit.Below.r {B:Nat} {w w':World} (h:Below B w w':=by with_reducible repeat (first|exact .refl _ _|assumption|refine .trans ?_ (.m (by assumption))|refine .drew ?_|refine .a ?_ _|refine .s ?_ _)):Below B w w':=h

abbrev ZtZ:=@Below.r
structure GV where
 k:Int
 n:Int
 l:List GV
structure GP where
 k:Int
 v:GV
 n:Int
 a:List GP
structure GT where
 k:Int
 v:GV
 vs:List GV
 lo:Int
 hi:Int
 w:List Int
 p:GP
 a:List GT

def Yg (k:Int):Prop:=0≤k∧k≤255
def Zv (n:Int):Prop:= -9223372036854775808≤n∧n≤9223372036854775807

mutual
def Zg:GV→Nat
 | ⟨_,_,l⟩=>1+Zi l
def Zi:List GV→Nat
 | []=>0
 | x::l=>Zg x+Zi l
end
mutual
def Zm:GP→Nat
 | ⟨_,v,_,l⟩=>1+Zg v+ZY l
def ZY:List GP→Nat
 | []=>0
 | x::l=>Zm x+ZY l
end
mutual
def Zb:GT→Nat
 | ⟨_,v,vs,_,_,w,p,l⟩=>1+Zg v+Zi vs+w.length+Zm p+Z5 l
def Z5:List GT→Nat
 | []=>0
 | x::l=>Zb x+Z5 l
end

mutual

def okV:GV→Prop
 | ⟨k,n,l⟩=>Yg k∧Zv n∧l.length≤1048576∧okVs l
def okVs:List GV→Prop
 | []=>True
 | x::l=>okV x∧okVs l
end
mutual
def okP:GP→Prop
 | ⟨k,v,n,l⟩=>Yg k∧okV v∧Zv n∧l.length≤1048576∧okPs l
def okPs:List GP→Prop
 | []=>True
 | x::l=>okP x∧okPs l
end
def okIs:List Int→Prop
 | []=>True
 | x::l=>Zv x∧okIs l
mutual
def okT:GT→Prop
 | ⟨k,v,vs,lo,hi,w,p,l⟩=>Yg k∧okV v∧(vs.length≤1048576∧okVs vs)∧Zv lo∧Zv hi∧(w.length≤1048576∧okIs w)∧okP p∧l.length≤1048576∧okTs l
def okTs:List GT→Prop
 | []=>True
 | x::l=>okT x∧okTs l
end

structure VA where
 a:Option Addr
 c:Nat
structure PA where
 va:Option Addr
 vc:Nat
 a:Option Addr
 c:Nat
structure TA where
 va:Option Addr
 vc:Nat
 vsa:Option Addr
 vsc:Nat
 wa:Option Addr
 wc:Nat
 pva:Option Addr
 pvc:Nat
 pa:Option Addr
 pc:Nat
 a:Option Addr
 c:Nat

abbrev VV (x:GV) (m:VA):Value:=.agg #[.int .u8 x.k,.int .i64 x.n,.slice m.a x.l.length m.c]
abbrev PV (x:GP) (m:PA):Value:=.agg #[.int .u8 x.k,.int .u8 x.v.k,.int .i64 x.v.n,.slice m.va x.v.l.length m.vc,.int .i64 x.n,.slice m.a x.a.length m.c]
abbrev TV (x:GT) (m:TA):Value:=.agg #[.int .u8 x.k,.int .u8 x.v.k,.int .i64 x.v.n,.slice m.va x.v.l.length m.vc,.slice m.vsa x.vs.length m.vsc,.int .i64 x.lo,.int .i64 x.hi,.slice m.wa x.w.length m.wc,
 .int .u8 x.p.k,.int .u8 x.p.v.k,.int .i64 x.p.v.n,.slice m.pva x.p.v.l.length m.pvc,.int .i64 x.p.n,.slice m.pa x.p.a.length m.pc,.slice m.a x.a.length m.c]

def At (w:World) (b:Nat):Nat→List Value→Prop
 | _,[]=>True
 | o,v::l=>w.cell? ⟨b,o,none⟩=some v∧At w b (o+1) l

theorem At3 {w b o c0 c1 c2}:At w b o [c0,c1,c2]↔w.cell? ⟨b,o,none⟩=some c0∧w.cell? ⟨b,o+1,none⟩=some c1∧w.cell? ⟨b,o+2,none⟩=some c2:=by
 simp only [At,Nat.add_assoc,Nat.reduceAdd,and_true]
theorem At6 {w b o c0 c1 c2 c3 c4 c5}:At w b o [c0,c1,c2,c3,c4,c5]↔w.cell? ⟨b,o,none⟩=some c0∧w.cell? ⟨b,o+1,none⟩=some c1∧w.cell? ⟨b,o+2,none⟩=some c2 ∧
  w.cell? ⟨b,o+3,none⟩=some c3∧w.cell? ⟨b,o+4,none⟩=some c4∧w.cell? ⟨b,o+5,none⟩=some c5:=by
 simp only [At,Nat.add_assoc,Nat.reduceAdd,and_true]
theorem Yp {w b o c0 c1 c2 c3 c4 c5 c6 c7 c8 c9 ca cb cc cd ce}:At w b o [c0,c1,c2,c3,c4,c5,c6,c7,c8,c9,ca,cb,cc,cd,ce]↔w.cell? ⟨b,o,none⟩=some c0∧w.cell? ⟨b,o+1,none⟩=some c1∧w.cell? ⟨b,o+2,none⟩=some c2 ∧
  w.cell? ⟨b,o+3,none⟩=some c3∧w.cell? ⟨b,o+4,none⟩=some c4∧w.cell? ⟨b,o+5,none⟩=some c5∧w.cell? ⟨b,o+6,none⟩=some c6∧w.cell? ⟨b,o+7,none⟩=some c7∧w.cell? ⟨b,o+8,none⟩=some c8 ∧
  w.cell? ⟨b,o+9,none⟩=some c9∧w.cell? ⟨b,o+10,none⟩=some ca∧w.cell? ⟨b,o+11,none⟩=some cb∧w.cell? ⟨b,o+12,none⟩=some cc∧w.cell? ⟨b,o+13,none⟩=some cd∧w.cell? ⟨b,o+14,none⟩=some ce:=by
 simp only [At,Nat.add_assoc,Nat.reduceAdd,and_true]
def ZkJ (A:Nat→Prop):Prop:=∃N,0 < N∧∀b,A b→N≤b
def Fz (w:World) (A:Nat→Prop) (b o:Nat):Prop:=ZkJ A→∀j,j < 3→w.frozen? ⟨b,o+j,none⟩=false
theorem ZaK (w:World) (b o:Nat):Fz w (fun _=>True) b o:=fun ⟨N,h,k⟩=>by have:=k 0 trivial;omega
mutual
def RV (w:World) (A:Nat→Prop):GV→Option Addr→Prop
 | ⟨_,_,l⟩,a=>RVs w A l a
def RVs (w:World) (A:Nat→Prop):List GV→Option Addr→Prop
 | [],_=>True
 | x::l,a=>∃b o m,a=some ⟨b,o,none⟩∧A b∧At w b o [.int .u8 x.k,.int .i64 x.n,.slice (VA.a m) x.l.length (VA.c m)]∧RV w A x m.a∧RVs w A l (some ⟨b,o+3,none⟩)∧Fz w A b o
end
mutual
def RP (w:World) (A:Nat→Prop):GP→PA→Prop
 | ⟨_,v,_,l⟩,m=>RV w A v m.va∧RPs w A l m.a
def RPs (w:World) (A:Nat→Prop):List GP→Option Addr→Prop
 | [],_=>True
 | x::l,a=>∃b o m,a=some ⟨b,o,none⟩∧A b∧At w b o [.int .u8 x.k,.int .u8 x.v.k,.int .i64 x.v.n,.slice (PA.va m) x.v.l.length (PA.vc m),.int .i64 x.n,.slice (PA.a m) x.a.length (PA.c m)] ∧
   RP w A x m∧RPs w A l (some ⟨b,o+6,none⟩)
end
def RIs (w:World) (A:Nat→Prop):List Int→Option Addr→Prop
 | [],_=>True
 | x::l,a=>∃b o,a=some ⟨b,o,none⟩∧A b∧At w b o [.int .i64 x]∧RIs w A l (some ⟨b,o+1,none⟩)
mutual
def RT (w:World) (A:Nat→Prop):GT→TA→Prop
 | ⟨_,v,vs,_,_,ws,p,l⟩,m=>RV w A v m.va∧RVs w A vs m.vsa∧RIs w A ws m.wa∧RP w A p ⟨m.pva,m.pvc,m.pa,m.pc⟩∧RTs w A l m.a
def RTs (w:World) (A:Nat→Prop):List GT→Option Addr→Prop
 | [],_=>True
 | x::l,a=>∃b o m,a=some ⟨b,o,none⟩∧A b∧At w b o [.int .u8 x.k,.int .u8 x.v.k,.int .i64 x.v.n,.slice (TA.va m) x.v.l.length (TA.vc m),.slice (TA.vsa m) x.vs.length (TA.vsc m),.int .i64 x.lo,.int .i64 x.hi,
    .slice (TA.wa m) x.w.length (TA.wc m),.int .u8 x.p.k,.int .u8 x.p.v.k,.int .i64 x.p.v.n,.slice (TA.pva m) x.p.v.l.length (TA.pvc m),.int .i64 x.p.n,.slice (TA.pa m) x.p.a.length (TA.pc m),.slice (TA.a m) x.a.length (TA.c m)] ∧
   RT w A x m∧RTs w A l (some ⟨b,o+15,none⟩)
end
theorem Zl {w A} {x:GV} {a}:RV w A x a↔RVs w A x.l a:=by cases x;simp only [RV]
theorem Wn {w A} {x:GP} {m}:RP w A x m↔RV w A x.v m.va∧RPs w A x.a m.a:=by cases x;simp only [RP]
theorem Zo {w A} {x:GT} {m}:RT w A x m↔RV w A x.v m.va∧RVs w A x.vs m.vsa∧RIs w A x.w m.wa∧RP w A x.p ⟨m.pva,m.pvc,m.pa,m.pc⟩∧RTs w A x.a m.a:=by cases x;simp only [RT]
theorem ZA {x:GV}:okV x↔Yg x.k∧Zv x.n∧x.l.length≤1048576∧okVs x.l:=by cases x;simp only [okV]
theorem Y3 {x:GP}:okP x↔Yg x.k∧okV x.v∧Zv x.n∧x.a.length≤1048576∧okPs x.a:=by cases x;simp only [okP]
theorem Ze {x:GT}:okT x↔Yg x.k∧okV x.v∧(x.vs.length≤1048576∧okVs x.vs)∧Zv x.lo∧Zv x.hi∧(x.w.length≤1048576∧okIs x.w)∧okP x.p∧x.a.length≤1048576∧okTs x.a:=by cases x;simp only [okT]

def Agree (A:Nat→Prop) (w w':World):Prop:=∀(p:Addr) (v:Value),A p.block→w.cell? p=some v→w'.cell? p=some v∧w'.frozen? p=w.frozen? p
theorem At.ext {w w':World} {A:Nat→Prop} (h:Agree A w w') {b:Nat} (hA:A b):∀(l:List Value) (o:Nat),At w b o l→At w' b o l
 | [],_,_=>by simp only [At]
 | v::l,o,hx=>by
  simp only [At] at hx ⊢
  exact ⟨(h ⟨b,o,none⟩ v hA hx.1).1,At.ext h hA l _ hx.2⟩
mutual
theorem RV.ext {w w':World} {A:Nat→Prop} (h:Agree A w w'):∀(x:GV) a,RV w A x a→RV w' A x a
 | ⟨k,n,l⟩,a,hx=>by simp only [RV] at hx ⊢;exact RVs.ext h l a hx
theorem RVs.ext {w w':World} {A:Nat→Prop} (h:Agree A w w'):∀(l:List GV) a,RVs w A l a→RVs w' A l a
 | [],_,_=>by simp only [RVs]
 | x::l,a,hx=>by
  simp only [RVs] at hx ⊢
  obtain ⟨b,o,m,e,hA,h0,hx,hl,hf⟩:=hx
  refine ⟨b,o,m,e,hA,h0.ext h hA,RV.ext h x _ hx,RVs.ext h l _ hl,fun hL j hj=>?_⟩
  obtain ⟨c0,c1,c2⟩:=At3.1 h0
  have:=hf hL j hj
  rcases (by omega:j=0∨j=1∨j=2) with rfl|rfl|rfl
  ·exact ((h _ _ hA c0).2).trans this
  ·exact ((h _ _ hA c1).2).trans this
  exact ((h _ _ hA c2).2).trans this
end
mutual
theorem RP.ext {w w':World} {A:Nat→Prop} (h:Agree A w w'):∀(x:GP) m,RP w A x m→RP w' A x m
 | ⟨k,v,n,l⟩,a,hx=>by simp only [RP] at hx ⊢;exact ⟨RV.ext h v _ hx.1,RPs.ext h l _ hx.2⟩
theorem RPs.ext {w w':World} {A:Nat→Prop} (h:Agree A w w'):∀(l:List GP) a,RPs w A l a→RPs w' A l a
 | [],_,_=>by simp only [RPs]
 | x::l,a,hx=>by
  simp only [RPs] at hx ⊢
  obtain ⟨b,o,m,e,hA,h0,hx,hl⟩:=hx
  exact ⟨b,o,m,e,hA,h0.ext h hA,RP.ext h x _ hx,RPs.ext h l _ hl⟩
end
abbrev Zuf:=@At.ext
abbrev Zt5:=@RV.ext
abbrev Zt8:=@RVs.ext
abbrev Zub:=@RP.ext
theorem RIs.ext {w w':World} {A:Nat→Prop} (h:Agree A w w'):∀(l:List Int) a,RIs w A l a→RIs w' A l a
 | [],_,_=>by simp only [RIs]
 | x::l,a,hx=>by
  simp only [RIs] at hx ⊢
  obtain ⟨b,o,e,hA,h0,hl⟩:=hx
  exact ⟨b,o,e,hA,h0.ext h hA,RIs.ext h l _ hl⟩
mutual
theorem RT.ext {w w':World} {A:Nat→Prop} (h:Agree A w w'):∀(x:GT) m,RT w A x m→RT w' A x m
 | ⟨k,v,vs,lo,hi,ws,p,l⟩,a,hx=>by
  simp only [RT] at hx ⊢;exact ⟨Zt5 h v _ hx.1,Zt8 h vs _ hx.2.1,RIs.ext h ws _ hx.2.2.1,Zub h p _ hx.2.2.2.1,RTs.ext h l _ hx.2.2.2.2⟩
theorem RTs.ext {w w':World} {A:Nat→Prop} (h:Agree A w w'):∀(l:List GT) a,RTs w A l a→RTs w' A l a
 | [],_,_=>by simp only [RTs]
 | x::l,a,hx=>by
  simp only [RTs] at hx ⊢
  obtain ⟨b,o,m,e,hA,h0,hx,hl⟩:=hx
  exact ⟨b,o,m,e,hA,h0.ext h hA,RT.ext h x _ hx,RTs.ext h l _ hl⟩
end
abbrev Zuc:=@RIs.ext
abbrev Zt2:=@RT.ext
theorem Agree.below {w w':World} {A:Nat→Prop} (h:Below w.heap.size w w'):Agree A w w':=fun _ _ _ hc=>⟨(h.cell (World.block_lt_of_cell? _ _ hc)).trans hc,h.frozen (World.block_lt_of_cell? _ _ hc)⟩
abbrev ZtY:=@Agree.below
theorem Agree.trans {w w' w2:World} {A:Nat→Prop} (h:Agree A w w') (h':Agree A w' w2):Agree A w w2:=fun p v ha hc=>have k:=h p v ha hc;have k':=h' p v ha k.1;⟨k'.1,k'.2.trans k.2⟩

mutual
theorem RV.mono {w:World} {A A':Nat→Prop} (h:∀b,A b→b < w.heap.size→A' b):∀(x:GV) a,RV w A x a→RV w A' x a
 | ⟨k,n,l⟩,a,hx=>by simp only [RV] at hx ⊢;exact RVs.mono h l a hx
theorem RVs.mono {w:World} {A A':Nat→Prop} (h:∀b,A b→b < w.heap.size→A' b):∀(l:List GV) a,RVs w A l a→RVs w A' l a
 | [],_,_=>by simp only [RVs]
 | x::l,a,hx=>by
  simp only [RVs] at hx ⊢
  obtain ⟨b,o,m,e,hA,h0,hx,hl,hf⟩:=hx
  have hb:=World.block_lt_of_cell? _ _ h0.1
  refine ⟨b,o,m,e,h b hA hb,h0,RV.mono h x _ hx,RVs.mono h l _ hl,fun ⟨N,hN,hL⟩=>hf ⟨min N w.heap.size,om,fun q hq=>?_⟩⟩
  by_cases hs:q < w.heap.size
  ·have:=hL q (h q hq hs);omega
  omega
end
mutual
theorem RP.mono {w:World} {A A':Nat→Prop} (h:∀b,A b→b < w.heap.size→A' b):∀(x:GP) m,RP w A x m→RP w A' x m
 | ⟨k,v,n,l⟩,a,hx=>by simp only [RP] at hx ⊢;exact ⟨RV.mono h v _ hx.1,RPs.mono h l _ hx.2⟩
theorem RPs.mono {w:World} {A A':Nat→Prop} (h:∀b,A b→b < w.heap.size→A' b):∀(l:List GP) a,RPs w A l a→RPs w A' l a
 | [],_,_=>by simp only [RPs]
 | x::l,a,hx=>by
  simp only [RPs] at hx ⊢
  obtain ⟨b,o,m,e,hA,h0,hx,hl⟩:=hx
  exact ⟨b,o,m,e,h b hA (World.block_lt_of_cell? _ _ h0.1),h0,RP.mono h x _ hx,RPs.mono h l _ hl⟩
end
abbrev Zt9:=@RV.mono
abbrev Zug:=@RVs.mono
theorem RIs.mono {w:World} {A A':Nat→Prop} (h:∀b,A b→b < w.heap.size→A' b):∀(l:List Int) a,RIs w A l a→RIs w A' l a
 | [],_,_=>by simp only [RIs]
 | x::l,a,hx=>by
  simp only [RIs] at hx ⊢
  obtain ⟨b,o,e,hA,h0,hl⟩:=hx
  exact ⟨b,o,e,h b hA (World.block_lt_of_cell? _ _ h0.1),h0,RIs.mono h l _ hl⟩
mutual
theorem RT.mono {w:World} {A A':Nat→Prop} (h:∀b,A b→b < w.heap.size→A' b):∀(x:GT) m,RT w A x m→RT w A' x m
 | ⟨k,v,vs,lo,hi,ws,p,l⟩,a,hx=>by
  simp only [RT] at hx ⊢;exact ⟨Zt9 h v _ hx.1,Zug h vs _ hx.2.1,RIs.mono h ws _ hx.2.2.1,RP.mono h p _ hx.2.2.2.1,RTs.mono h l _ hx.2.2.2.2⟩
theorem RTs.mono {w:World} {A A':Nat→Prop} (h:∀b,A b→b < w.heap.size→A' b):∀(l:List GT) a,RTs w A l a→RTs w A' l a
 | [],_,_=>by simp only [RTs]
 | x::l,a,hx=>by
  simp only [RTs] at hx ⊢
  obtain ⟨b,o,m,e,hA,h0,hx,hl⟩:=hx
  exact ⟨b,o,m,e,h b hA (World.block_lt_of_cell? _ _ h0.1),h0,RT.mono h x _ hx,RTs.mono h l _ hl⟩
end
abbrev ZxH:=@RIs.mono
abbrev Zud:=@RT.mono
theorem RVs.get {w A}:∀{l:List GV} {a},RVs w A l a→∀i (h:i < l.length),∃b o m,a=some ⟨b,o,none⟩∧A b∧b < w.heap.size ∧
  At w b (o+i*3) [.int .u8 l[i].k,.int .i64 l[i].n,.slice (VA.a m) l[i].l.length (VA.c m)]∧RV w A l[i] m.a
 | [],_,_,i,h=>absurd h sm
 | x::l,a,h,i,hi=>by
  simp only [RVs] at h
  obtain ⟨b,o,m,rfl,hA,h0,hx,hl, -⟩:=h
  have hb:b < w.heap.size:=World.block_lt_of_cell? _ _ h0.1
  cases i with
  | zero=>exact ⟨b,o,m,rfl,hA,hb,by simpa using h0,hx⟩
  | succ i=>
   obtain ⟨b',o',m',e,hA',hb',g0,gx⟩:=hl.get i (by simpa using hi)
   simp at e
   obtain ⟨rfl,rfl⟩:=e
   exact ⟨b,o,m',rfl,hA,hb,by rw [show o+(i+1)*3=o+3+i*3 from om];exact g0,gx⟩
theorem RVs.getF {w A}:∀{l:List GV} {a},RVs w A l a→∀i (h:i < l.length),∃b o m,a=some ⟨b,o,none⟩∧A b∧b < w.heap.size ∧
  At w b (o+i*3) [.int .u8 l[i].k,.int .i64 l[i].n,.slice (VA.a m) l[i].l.length (VA.c m)]∧RV w A l[i] m.a∧Fz w A b (o+i*3)
 | [],_,_,i,h=>absurd h sm
 | x::l,a,h,i,hi=>by
  simp only [RVs] at h
  obtain ⟨b,o,m,rfl,hA,h0,hx,hl,hf⟩:=h
  have hb:b < w.heap.size:=World.block_lt_of_cell? _ _ h0.1
  cases i with
  | zero=>exact ⟨b,o,m,rfl,hA,hb,by simpa using h0,hx,by simpa using hf⟩
  | succ i=>
   obtain ⟨b',o',m',e,hA',hb',g0,gx,gf⟩:=hl.getF i (by simpa using hi)
   simp at e
   obtain ⟨rfl,rfl⟩:=e
   exact ⟨b,o,m',rfl,hA,hb,by rw [show o+(i+1)*3=o+3+i*3 from om];exact g0,gx,by rw [show o+(i+1)*3=o+3+i*3 from om];exact gf⟩
theorem RPs.get {w A}:∀{l:List GP} {a},RPs w A l a→∀i (h:i < l.length),∃b o m,a=some ⟨b,o,none⟩∧A b∧b < w.heap.size ∧
  At w b (o+i*6) [.int .u8 l[i].k,.int .u8 l[i].v.k,.int .i64 l[i].v.n,.slice (PA.va m) l[i].v.l.length (PA.vc m),.int .i64 l[i].n,.slice (PA.a m) l[i].a.length (PA.c m)]∧RP w A l[i] m
 | [],_,_,i,h=>absurd h sm
 | x::l,a,h,i,hi=>by
  simp only [RPs] at h
  obtain ⟨b,o,m,rfl,hA,h0,hx,hl⟩:=h
  have hb:b < w.heap.size:=World.block_lt_of_cell? _ _ h0.1
  cases i with
  | zero=>exact ⟨b,o,m,rfl,hA,hb,by simpa using h0,hx⟩
  | succ i=>
   obtain ⟨b',o',m',e,hA',hb',g0,gx⟩:=hl.get i (by simpa using hi)
   simp at e
   obtain ⟨rfl,rfl⟩:=e
   exact ⟨b,o,m',rfl,hA,hb,by rw [show o+(i+1)*6=o+6+i*6 from om];exact g0,gx⟩
theorem RIs.get {w A}:∀{l:List Int} {a},RIs w A l a→∀i (h:i < l.length),∃b o,a=some ⟨b,o,none⟩∧A b∧b < w.heap.size∧w.cell? ⟨b,o+i,none⟩=some (.int .i64 l[i])
 | [],_,_,i,h=>absurd h sm
 | x::l,a,h,i,hi=>by
  simp only [RIs] at h
  obtain ⟨b,o,rfl,hA,h0,hl⟩:=h
  have hb:b < w.heap.size:=World.block_lt_of_cell? _ _ h0.1
  cases i with
  | zero=>exact ⟨b,o,rfl,hA,hb,by simpa using h0.1⟩
  | succ i=>
   obtain ⟨b',o',e,hA',hb',g0⟩:=hl.get i (by simpa using hi)
   simp at e
   obtain ⟨rfl,rfl⟩:=e
   exact ⟨b,o,rfl,hA,hb,by rw [show o+(i+1)=o+1+i from om];exact g0⟩
theorem RTs.get {w A}:∀{l:List GT} {a},RTs w A l a→∀i (h:i < l.length),∃b o m,a=some ⟨b,o,none⟩∧A b∧b < w.heap.size ∧
  At w b (o+i*15) [.int .u8 l[i].k,.int .u8 l[i].v.k,.int .i64 l[i].v.n,.slice (TA.va m) l[i].v.l.length (TA.vc m),.slice (TA.vsa m) l[i].vs.length (TA.vsc m),.int .i64 l[i].lo,.int .i64 l[i].hi,
    .slice (TA.wa m) l[i].w.length (TA.wc m),.int .u8 l[i].p.k,.int .u8 l[i].p.v.k,.int .i64 l[i].p.v.n,.slice (TA.pva m) l[i].p.v.l.length (TA.pvc m),.int .i64 l[i].p.n,.slice (TA.pa m) l[i].p.a.length (TA.pc m),.slice (TA.a m) l[i].a.length (TA.c m)]∧RT w A l[i] m
 | [],_,_,i,h=>absurd h sm
 | x::l,a,h,i,hi=>by
  simp only [RTs] at h
  obtain ⟨b,o,m,rfl,hA,h0,hx,hl⟩:=h
  have hb:b < w.heap.size:=World.block_lt_of_cell? _ _ h0.1
  cases i with
  | zero=>exact ⟨b,o,m,rfl,hA,hb,by simpa using h0,hx⟩
  | succ i=>
   obtain ⟨b',o',m',e,hA',hb',g0,gx⟩:=hl.get i (by simpa using hi)
   simp at e
   obtain ⟨rfl,rfl⟩:=e
   exact ⟨b,o,m',rfl,hA,hb,by rw [show o+(i+1)*15=o+15+i*15 from om];exact g0,gx⟩

theorem okVs.get:∀{l:List GV},okVs l→∀i (h:i < l.length),okV l[i]
 | [],_,i,h=>absurd h sm
 | x::l,hx,0,_=>by simp only [okVs] at hx;exact hx.1
 | x::l,hx,i+1,h=>by simp only [okVs] at hx;exact okVs.get hx.2 i (by simpa using h)
theorem okPs.get:∀{l:List GP},okPs l→∀i (h:i < l.length),okP l[i]
 | [],_,i,h=>absurd h sm
 | x::l,hx,0,_=>by simp only [okPs] at hx;exact hx.1
 | x::l,hx,i+1,h=>by simp only [okPs] at hx;exact okPs.get hx.2 i (by simpa using h)
theorem okIs.get:∀{l:List Int},okIs l→∀i (h:i < l.length),Zv l[i]
 | [],_,i,h=>absurd h sm
 | x::l,hx,0,_=>by simp only [okIs] at hx;exact hx.1
 | x::l,hx,i+1,h=>by simp only [okIs] at hx;exact okIs.get hx.2 i (by simpa using h)
theorem okTs.get:∀{l:List GT},okTs l→∀i (h:i < l.length),okT l[i]
 | [],_,i,h=>absurd h sm
 | x::l,hx,0,_=>by simp only [okTs] at hx;exact hx.1
 | x::l,hx,i+1,h=>by simp only [okTs] at hx;exact okTs.get hx.2 i (by simpa using h)
theorem Zr (x:GV):1≤Zg x:=by cases x;simp only [Zg];omega
theorem ZS (x:GP):1≤Zm x:=by cases x;simp only [Zm];omega
theorem X8 (x:GT):1≤Zb x:=by cases x;simp only [Zb];omega
theorem XZ (x:GV):Zg x=1+Zi x.l:=by cases x;simp only [Zg]
theorem Wk (x:GP):Zm x=1+Zg x.v+ZY x.a:=by cases x;simp only [Zm]
theorem Zq (x:GT):Zb x=1+Zg x.v+Zi x.vs+x.w.length+Zm x.p+Z5 x.a:=by cases x;simp only [Zb]
theorem ZX:∀(l:List GV) i (h:i < l.length),Zg l[i]≤Zi l
 | [],i,h=>absurd h sm
 | x::l,0,h=>by simp [Zi]
 | x::l,i+1,h=>by have:=ZX l i (by simpa using h);simp [Zi];omega
theorem Xq:∀(l:List GP) i (h:i < l.length),Zm l[i]≤ZY l
 | [],i,h=>absurd h sm
 | x::l,0,h=>by simp [ZY]
 | x::l,i+1,h=>by have:=Xq l i (by simpa using h);simp [ZY];omega
theorem ZD:∀(l:List GT) i (h:i < l.length),Zb l[i]≤Z5 l
 | [],i,h=>absurd h sm
 | x::l,0,h=>by simp [Z5]
 | x::l,i+1,h=>by have:=ZD l i (by simpa using h);simp [Z5];omega
theorem WW:∀(l:List GV),l.length≤Zi l
 | []=>sm
 | x::l=>by have:=WW l;have:=Zr x;simp [Zi];omega
theorem Km:∀(l:List GP),l.length≤ZY l
 | []=>sm
 | x::l=>by have:=Km l;have:=ZS x;simp [ZY];omega
theorem Kn:∀(l:List GT),l.length≤Z5 l
 | []=>sm
 | x::l=>by have:=Kn l;have:=X8 x;simp [Z5];omega

theorem Za {B:Nat} {W w1:World} (hb:Below B W w1):(∀b o,b < B→w1.cell? ⟨b,o,none⟩=W.cell? ⟨b,o,none⟩)∧(∀b o,b < B→w1.frozen? ⟨b,o,none⟩=W.frozen? ⟨b,o,none⟩):=
 ⟨fun b o h=>hb.cell (p:=⟨b,o,none⟩) h,fun b o h=>hb.frozen (p:=⟨b,o,none⟩) h⟩
theorem Z0 {P:Program} {id:Nat} {Q:Exit→Act→World→Prop} {a:Act} {w:World} {l:List Oper} (n:Nat) (hm:P.follows .mixedOrders=true) (hB:Region.lexTailB .any l.toArray n=true)
  (h:wpStill P l.toArray w.drew (fun a'=>wpList P l.toArray Q (l.drop n) a' w.drew) (l.take n) a):(Code.region id l.toArray true).wp P Q a w:=
 wp_region_still_tail n hm hB h
theorem az {w w':World} {A:Nat→Prop} (h:Below w.heap.size w w':=by repeat (first|exact .refl _ _|assumption|refine .trans ?_ (.m (by assumption))|refine .drew ?_|refine .a ?_ _|refine .s ?_ _)):Agree A w w':=ZtY h
theorem ar {w w':World} {A:Nat→Prop} (h:Below w.heap.size w w':=by with_reducible repeat (first|exact .refl _ _|assumption|refine .trans ?_ (.m (by assumption))|refine .drew ?_|refine .a ?_ _|refine .s ?_ _)):Agree A w w':=ZtY h
end Go.Proofs.YtkdffbdnjfgpeaaGreat
