/- Part 1. -/
import Derived.Deep.LoopGhost
import Derived.Lib.Hide
import Derived.ProofKit
import Derived.StillTailTactics
import Derived.WalkKit
import Derived.WalkSpells
set_option linter.all false
namespace Go.Proofs.YtkdffbdnjfgpeaaGreat
open Go Go.RowKit
theorem sz {p:Prop} (h:p:=by first|omega|(simp;done)|(simp;omega)):p:=h
theorem so {p:Prop} (h:p:=by first|(simp;done)|(simp;omega)):p:=h
theorem gs {p:Prop} (h:p:=by go_simp):p:=h
theorem om {p:Prop} (h:p:=by omega):p:=h
theorem sm {p:Prop} (h:p:=by simp):p:=h
theorem kr {p:Prop} (h:p:=by kernel_rfl):p:=h
theorem _root_.Go.RowKit.Below.m {B B':Nat} {w w':World} (h:Below B w w') (k:B'≤B:=by first|omega|(simp;done)|(simp;omega)):Below B' w w':=Below.mono h k
theorem _root_.Go.RowKit.Below.a {B:Nat} {w w':World} (h:Below B w w') (o:Obj) (k:B≤w'.heap.size:=by first|omega|(simp;done)|(simp;omega)):Below B w (w'.alloc o):=Below.alloc h k o
theorem _root_.Go.RowKit.Below.s {B:Nat} {w w':World} (h:Below B w w') (u:Value) {p:Addr} (k:B≤p.block:=by first|omega|(simp;done)|(simp;omega)):Below B w (w'.setCell p u):=Below.setCell h k u
theorem _root_.Go.RowKit.Below.z {B:Nat} {w w':World} (h:Below B w w':=by repeat (first|exact .refl _ _|assumption|refine .trans ?_ (.m (by assumption))|refine .drew ?_|refine .a ?_ _|refine .s ?_ _)):Below B w w':=h
abbrev ZtX:=@Below.z
theorem _root_.Go.RowKit.Below.r {B:Nat} {w w':World} (h:Below B w w':=by with_reducible repeat (first|exact .refl _ _|assumption|refine .trans ?_ (.m (by assumption))|refine .drew ?_|refine .a ?_ _|refine .s ?_ _)):Below B w w':=h

abbrev ZtZ:=@Below.r
structure GV where
 k:Int
 n:Int
 l:List GV
structure GP where
 k:Int
 v:GV
 n:Int
 a:List GP
structure GT where
 k:Int
 v:GV
 vs:List GV
 lo:Int
 hi:Int
 w:List Int
 p:GP
 a:List GT

def Yg (k:Int):Prop:=0≤k∧k≤255
def Zv (n:Int):Prop:= -9223372036854775808≤n∧n≤9223372036854775807

mutual
def Zg:GV→Nat
 | ⟨_,_,l⟩=>1+Zi l
def Zi:List GV→Nat
 | []=>0
 | x::l=>Zg x+Zi l
end
mutual
def Zm:GP→Nat
 | ⟨_,v,_,l⟩=>1+Zg v+ZY l
def ZY:List GP→Nat
 | []=>0
 | x::l=>Zm x+ZY l
end
mutual
def Zb:GT→Nat
 | ⟨_,v,vs,_,_,w,p,l⟩=>1+Zg v+Zi vs+w.length+Zm p+Z5 l
def Z5:List GT→Nat
 | []=>0
 | x::l=>Zb x+Z5 l
end

mutual

def okV:GV→Prop
 | ⟨k,n,l⟩=>Yg k∧Zv n∧l.length≤1048576∧okVs l
def okVs:List GV→Prop
 | []=>True
 | x::l=>okV x∧okVs l
end
mutual
def okP:GP→Prop
 | ⟨k,v,n,l⟩=>Yg k∧okV v∧Zv n∧l.length≤1048576∧okPs l
def okPs:List GP→Prop
 | []=>True
 | x::l=>okP x∧okPs l
end
def okIs:List Int→Prop
 | []=>True
 | x::l=>Zv x∧okIs l
mutual
def okT:GT→Prop
 | ⟨k,v,vs,lo,hi,w,p,l⟩=>Yg k∧okV v∧(vs.length≤1048576∧okVs vs)∧Zv lo∧Zv hi∧(w.length≤1048576∧okIs w)∧okP p∧l.length≤1048576∧okTs l
def okTs:List GT→Prop
 | []=>True
 | x::l=>okT x∧okTs l
end

structure VA where
 a:Option Addr
 c:Nat
structure PA where
 va:Option Addr
 vc:Nat
 a:Option Addr
 c:Nat
structure TA where
 va:Option Addr
 vc:Nat
 vsa:Option Addr
 vsc:Nat
 wa:Option Addr
 wc:Nat
 pva:Option Addr
 pvc:Nat
 pa:Option Addr
 pc:Nat
 a:Option Addr
 c:Nat

abbrev VV (x:GV) (m:VA):Value:=.agg #[.int .u8 x.k,.int .i64 x.n,.slice m.a x.l.length m.c]
abbrev PV (x:GP) (m:PA):Value:=.agg #[.int .u8 x.k,.int .u8 x.v.k,.int .i64 x.v.n,.slice m.va x.v.l.length m.vc,.int .i64 x.n,.slice m.a x.a.length m.c]
abbrev TV (x:GT) (m:TA):Value:=.agg #[.int .u8 x.k,.int .u8 x.v.k,.int .i64 x.v.n,.slice m.va x.v.l.length m.vc,.slice m.vsa x.vs.length m.vsc,.int .i64 x.lo,.int .i64 x.hi,.slice m.wa x.w.length m.wc,
 .int .u8 x.p.k,.int .u8 x.p.v.k,.int .i64 x.p.v.n,.slice m.pva x.p.v.l.length m.pvc,.int .i64 x.p.n,.slice m.pa x.p.a.length m.pc,.slice m.a x.a.length m.c]

def At (w:World) (b:Nat):Nat→List Value→Prop
 | _,[]=>True
 | o,v::l=>w.cell? ⟨b,o,none⟩=some v∧At w b (o+1) l

theorem At3 {w b o c0 c1 c2}:At w b o [c0,c1,c2]↔w.cell? ⟨b,o,none⟩=some c0∧w.cell? ⟨b,o+1,none⟩=some c1∧w.cell? ⟨b,o+2,none⟩=some c2:=by
 simp only [At,Nat.add_assoc,Nat.reduceAdd,and_true]
theorem At6 {w b o c0 c1 c2 c3 c4 c5}:At w b o [c0,c1,c2,c3,c4,c5]↔w.cell? ⟨b,o,none⟩=some c0∧w.cell? ⟨b,o+1,none⟩=some c1∧w.cell? ⟨b,o+2,none⟩=some c2 ∧
  w.cell? ⟨b,o+3,none⟩=some c3∧w.cell? ⟨b,o+4,none⟩=some c4∧w.cell? ⟨b,o+5,none⟩=some c5:=by
 simp only [At,Nat.add_assoc,Nat.reduceAdd,and_true]
theorem Yp {w b o c0 c1 c2 c3 c4 c5 c6 c7 c8 c9 ca cb cc cd ce}:At w b o [c0,c1,c2,c3,c4,c5,c6,c7,c8,c9,ca,cb,cc,cd,ce]↔w.cell? ⟨b,o,none⟩=some c0∧w.cell? ⟨b,o+1,none⟩=some c1∧w.cell? ⟨b,o+2,none⟩=some c2 ∧
  w.cell? ⟨b,o+3,none⟩=some c3∧w.cell? ⟨b,o+4,none⟩=some c4∧w.cell? ⟨b,o+5,none⟩=some c5∧w.cell? ⟨b,o+6,none⟩=some c6∧w.cell? ⟨b,o+7,none⟩=some c7∧w.cell? ⟨b,o+8,none⟩=some c8 ∧
  w.cell? ⟨b,o+9,none⟩=some c9∧w.cell? ⟨b,o+10,none⟩=some ca∧w.cell? ⟨b,o+11,none⟩=some cb∧w.cell? ⟨b,o+12,none⟩=some cc∧w.cell? ⟨b,o+13,none⟩=some cd∧w.cell? ⟨b,o+14,none⟩=some ce:=by
 simp only [At,Nat.add_assoc,Nat.reduceAdd,and_true]
def ZkJ (A:Nat→Prop):Prop:=∃N,0 < N∧∀b,A b→N≤b
def Fz (w:World) (A:Nat→Prop) (b o:Nat):Prop:=ZkJ A→∀j,j < 3→w.frozen? ⟨b,o+j,none⟩=false
theorem ZaK (w:World) (b o:Nat):Fz w (fun _=>True) b o:=fun ⟨N,h,k⟩=>by have:=k 0 trivial;omega
mutual
def RV (w:World) (A:Nat→Prop):GV→Option Addr→Prop
 | ⟨_,_,l⟩,a=>RVs w A l a
def RVs (w:World) (A:Nat→Prop):List GV→Option Addr→Prop
 | [],_=>True
 | x::l,a=>∃b o m,a=some ⟨b,o,none⟩∧A b∧At w b o [.int .u8 x.k,.int .i64 x.n,.slice (VA.a m) x.l.length (VA.c m)]∧RV w A x m.a∧RVs w A l (some ⟨b,o+3,none⟩)∧Fz w A b o
end
mutual
def RP (w:World) (A:Nat→Prop):GP→PA→Prop
 | ⟨_,v,_,l⟩,m=>RV w A v m.va∧RPs w A l m.a
def RPs (w:World) (A:Nat→Prop):List GP→Option Addr→Prop
 | [],_=>True
 | x::l,a=>∃b o m,a=some ⟨b,o,none⟩∧A b∧At w b o [.int .u8 x.k,.int .u8 x.v.k,.int .i64 x.v.n,.slice (PA.va m) x.v.l.length (PA.vc m),.int .i64 x.n,.slice (PA.a m) x.a.length (PA.c m)] ∧
   RP w A x m∧RPs w A l (some ⟨b,o+6,none⟩)
end
def RIs (w:World) (A:Nat→Prop):List Int→Option Addr→Prop
 | [],_=>True
 | x::l,a=>∃b o,a=some ⟨b,o,none⟩∧A b∧At w b o [.int .i64 x]∧RIs w A l (some ⟨b,o+1,none⟩)
mutual
def RT (w:World) (A:Nat→Prop):GT→TA→Prop
 | ⟨_,v,vs,_,_,ws,p,l⟩,m=>RV w A v m.va∧RVs w A vs m.vsa∧RIs w A ws m.wa∧RP w A p ⟨m.pva,m.pvc,m.pa,m.pc⟩∧RTs w A l m.a
def RTs (w:World) (A:Nat→Prop):List GT→Option Addr→Prop
 | [],_=>True
 | x::l,a=>∃b o m,a=some ⟨b,o,none⟩∧A b∧At w b o [.int .u8 x.k,.int .u8 x.v.k,.int .i64 x.v.n,.slice (TA.va m) x.v.l.length (TA.vc m),.slice (TA.vsa m) x.vs.length (TA.vsc m),.int .i64 x.lo,.int .i64 x.hi,
    .slice (TA.wa m) x.w.length (TA.wc m),.int .u8 x.p.k,.int .u8 x.p.v.k,.int .i64 x.p.v.n,.slice (TA.pva m) x.p.v.l.length (TA.pvc m),.int .i64 x.p.n,.slice (TA.pa m) x.p.a.length (TA.pc m),.slice (TA.a m) x.a.length (TA.c m)] ∧
   RT w A x m∧RTs w A l (some ⟨b,o+15,none⟩)
end
theorem Zl {w A} {x:GV} {a}:RV w A x a↔RVs w A x.l a:=by cases x;simp only [RV]
theorem Wn {w A} {x:GP} {m}:RP w A x m↔RV w A x.v m.va∧RPs w A x.a m.a:=by cases x;simp only [RP]
theorem Zo {w A} {x:GT} {m}:RT w A x m↔RV w A x.v m.va∧RVs w A x.vs m.vsa∧RIs w A x.w m.wa∧RP w A x.p ⟨m.pva,m.pvc,m.pa,m.pc⟩∧RTs w A x.a m.a:=by cases x;simp only [RT]
theorem ZA {x:GV}:okV x↔Yg x.k∧Zv x.n∧x.l.length≤1048576∧okVs x.l:=by cases x;simp only [okV]
theorem Y3 {x:GP}:okP x↔Yg x.k∧okV x.v∧Zv x.n∧x.a.length≤1048576∧okPs x.a:=by cases x;simp only [okP]
theorem Ze {x:GT}:okT x↔Yg x.k∧okV x.v∧(x.vs.length≤1048576∧okVs x.vs)∧Zv x.lo∧Zv x.hi∧(x.w.length≤1048576∧okIs x.w)∧okP x.p∧x.a.length≤1048576∧okTs x.a:=by cases x;simp only [okT]

def Agree (A:Nat→Prop) (w w':World):Prop:=∀(p:Addr) (v:Value),A p.block→w.cell? p=some v→w'.cell? p=some v∧w'.frozen? p=w.frozen? p
theorem At.ext {w w':World} {A:Nat→Prop} (h:Agree A w w') {b:Nat} (hA:A b):∀(l:List Value) (o:Nat),At w b o l→At w' b o l
 | [],_,_=>by simp only [At]
 | v::l,o,hx=>by
  simp only [At] at hx ⊢
  exact ⟨(h ⟨b,o,none⟩ v hA hx.1).1,At.ext h hA l _ hx.2⟩
mutual
theorem RV.ext {w w':World} {A:Nat→Prop} (h:Agree A w w'):∀(x:GV) a,RV w A x a→RV w' A x a
 | ⟨k,n,l⟩,a,hx=>by simp only [RV] at hx ⊢;exact RVs.ext h l a hx
theorem RVs.ext {w w':World} {A:Nat→Prop} (h:Agree A w w'):∀(l:List GV) a,RVs w A l a→RVs w' A l a
 | [],_,_=>by simp only [RVs]
 | x::l,a,hx=>by
  simp only [RVs] at hx ⊢
  obtain ⟨b,o,m,e,hA,h0,hx,hl,hf⟩:=hx
  refine ⟨b,o,m,e,hA,h0.ext h hA,RV.ext h x _ hx,RVs.ext h l _ hl,fun hL j hj=>?_⟩
  obtain ⟨c0,c1,c2⟩:=At3.1 h0
  have:=hf hL j hj
  rcases (by omega:j=0∨j=1∨j=2) with rfl|rfl|rfl
  ·exact ((h _ _ hA c0).2).trans this
  ·exact ((h _ _ hA c1).2).trans this
  exact ((h _ _ hA c2).2).trans this
end
mutual
theorem RP.ext {w w':World} {A:Nat→Prop} (h:Agree A w w'):∀(x:GP) m,RP w A x m→RP w' A x m
 | ⟨k,v,n,l⟩,a,hx=>by simp only [RP] at hx ⊢;exact ⟨RV.ext h v _ hx.1,RPs.ext h l _ hx.2⟩
theorem RPs.ext {w w':World} {A:Nat→Prop} (h:Agree A w w'):∀(l:List GP) a,RPs w A l a→RPs w' A l a
 | [],_,_=>by simp only [RPs]
 | x::l,a,hx=>by
  simp only [RPs] at hx ⊢
  obtain ⟨b,o,m,e,hA,h0,hx,hl⟩:=hx
  exact ⟨b,o,m,e,hA,h0.ext h hA,RP.ext h x _ hx,RPs.ext h l _ hl⟩
end
abbrev Zuf:=@At.ext
abbrev Zt5:=@RV.ext
abbrev Zt8:=@RVs.ext
abbrev Zub:=@RP.ext
theorem RIs.ext {w w':World} {A:Nat→Prop} (h:Agree A w w'):∀(l:List Int) a,RIs w A l a→RIs w' A l a
 | [],_,_=>by simp only [RIs]
 | x::l,a,hx=>by
  simp only [RIs] at hx ⊢
  obtain ⟨b,o,e,hA,h0,hl⟩:=hx
  exact ⟨b,o,e,hA,h0.ext h hA,RIs.ext h l _ hl⟩
mutual
theorem RT.ext {w w':World} {A:Nat→Prop} (h:Agree A w w'):∀(x:GT) m,RT w A x m→RT w' A x m
 | ⟨k,v,vs,lo,hi,ws,p,l⟩,a,hx=>by
  simp only [RT] at hx ⊢;exact ⟨Zt5 h v _ hx.1,Zt8 h vs _ hx.2.1,RIs.ext h ws _ hx.2.2.1,Zub h p _ hx.2.2.2.1,RTs.ext h l _ hx.2.2.2.2⟩
theorem RTs.ext {w w':World} {A:Nat→Prop} (h:Agree A w w'):∀(l:List GT) a,RTs w A l a→RTs w' A l a
 | [],_,_=>by simp only [RTs]
 | x::l,a,hx=>by
  simp only [RTs] at hx ⊢
  obtain ⟨b,o,m,e,hA,h0,hx,hl⟩:=hx
  exact ⟨b,o,m,e,hA,h0.ext h hA,RT.ext h x _ hx,RTs.ext h l _ hl⟩
end
abbrev Zuc:=@RIs.ext
abbrev Zt2:=@RT.ext
theorem Agree.below {w w':World} {A:Nat→Prop} (h:Below w.heap.size w w'):Agree A w w':=fun _ _ _ hc=>⟨(h.cell (World.block_lt_of_cell? _ _ hc)).trans hc,h.frozen (World.block_lt_of_cell? _ _ hc)⟩
abbrev ZtY:=@Agree.below
theorem Agree.trans {w w' w2:World} {A:Nat→Prop} (h:Agree A w w') (h':Agree A w' w2):Agree A w w2:=fun p v ha hc=>have k:=h p v ha hc;have k':=h' p v ha k.1;⟨k'.1,k'.2.trans k.2⟩

mutual
theorem RV.mono {w:World} {A A':Nat→Prop} (h:∀b,A b→b < w.heap.size→A' b):∀(x:GV) a,RV w A x a→RV w A' x a
 | ⟨k,n,l⟩,a,hx=>by simp only [RV] at hx ⊢;exact RVs.mono h l a hx
theorem RVs.mono {w:World} {A A':Nat→Prop} (h:∀b,A b→b < w.heap.size→A' b):∀(l:List GV) a,RVs w A l a→RVs w A' l a
 | [],_,_=>by simp only [RVs]
 | x::l,a,hx=>by
  simp only [RVs] at hx ⊢
  obtain ⟨b,o,m,e,hA,h0,hx,hl,hf⟩:=hx
  have hb:=World.block_lt_of_cell? _ _ h0.1
  refine ⟨b,o,m,e,h b hA hb,h0,RV.mono h x _ hx,RVs.mono h l _ hl,fun ⟨N,hN,hL⟩=>hf ⟨min N w.heap.size,om,fun q hq=>?_⟩⟩
  by_cases hs:q < w.heap.size
  ·have:=hL q (h q hq hs);omega
  omega
end
mutual
theorem RP.mono {w:World} {A A':Nat→Prop} (h:∀b,A b→b < w.heap.size→A' b):∀(x:GP) m,RP w A x m→RP w A' x m
 | ⟨k,v,n,l⟩,a,hx=>by simp only [RP] at hx ⊢;exact ⟨RV.mono h v _ hx.1,RPs.mono h l _ hx.2⟩
theorem RPs.mono {w:World} {A A':Nat→Prop} (h:∀b,A b→b < w.heap.size→A' b):∀(l:List GP) a,RPs w A l a→RPs w A' l a
 | [],_,_=>by simp only [RPs]
 | x::l,a,hx=>by
  simp only [RPs] at hx ⊢
  obtain ⟨b,o,m,e,hA,h0,hx,hl⟩:=hx
  exact ⟨b,o,m,e,h b hA (World.block_lt_of_cell? _ _ h0.1),h0,RP.mono h x _ hx,RPs.mono h l _ hl⟩
end
abbrev Zt9:=@RV.mono
abbrev Zug:=@RVs.mono
theorem RIs.mono {w:World} {A A':Nat→Prop} (h:∀b,A b→b < w.heap.size→A' b):∀(l:List Int) a,RIs w A l a→RIs w A' l a
 | [],_,_=>by simp only [RIs]
 | x::l,a,hx=>by
  simp only [RIs] at hx ⊢
  obtain ⟨b,o,e,hA,h0,hl⟩:=hx
  exact ⟨b,o,e,h b hA (World.block_lt_of_cell? _ _ h0.1),h0,RIs.mono h l _ hl⟩
mutual
theorem RT.mono {w:World} {A A':Nat→Prop} (h:∀b,A b→b < w.heap.size→A' b):∀(x:GT) m,RT w A x m→RT w A' x m
 | ⟨k,v,vs,lo,hi,ws,p,l⟩,a,hx=>by
  simp only [RT] at hx ⊢;exact ⟨Zt9 h v _ hx.1,Zug h vs _ hx.2.1,RIs.mono h ws _ hx.2.2.1,RP.mono h p _ hx.2.2.2.1,RTs.mono h l _ hx.2.2.2.2⟩
theorem RTs.mono {w:World} {A A':Nat→Prop} (h:∀b,A b→b < w.heap.size→A' b):∀(l:List GT) a,RTs w A l a→RTs w A' l a
 | [],_,_=>by simp only [RTs]
 | x::l,a,hx=>by
  simp only [RTs] at hx ⊢
  obtain ⟨b,o,m,e,hA,h0,hx,hl⟩:=hx
  exact ⟨b,o,m,e,h b hA (World.block_lt_of_cell? _ _ h0.1),h0,RT.mono h x _ hx,RTs.mono h l _ hl⟩
end
abbrev Zud:=@RT.mono
theorem RVs.get {w A}:∀{l:List GV} {a},RVs w A l a→∀i (h:i < l.length),∃b o m,a=some ⟨b,o,none⟩∧A b∧b < w.heap.size ∧
  At w b (o+i*3) [.int .u8 l[i].k,.int .i64 l[i].n,.slice (VA.a m) l[i].l.length (VA.c m)]∧RV w A l[i] m.a
 | [],_,_,i,h=>absurd h sm
 | x::l,a,h,i,hi=>by
  simp only [RVs] at h
  obtain ⟨b,o,m,rfl,hA,h0,hx,hl, -⟩:=h
  have hb:b < w.heap.size:=World.block_lt_of_cell? _ _ h0.1
  cases i with
  | zero=>exact ⟨b,o,m,rfl,hA,hb,by simpa using h0,hx⟩
  | succ i=>
   obtain ⟨b',o',m',e,hA',hb',g0,gx⟩:=hl.get i (by simpa using hi)
   simp at e
   obtain ⟨rfl,rfl⟩:=e
   exact ⟨b,o,m',rfl,hA,hb,by rw [show o+(i+1)*3=o+3+i*3 from om];exact g0,gx⟩
theorem RPs.get {w A}:∀{l:List GP} {a},RPs w A l a→∀i (h:i < l.length),∃b o m,a=some ⟨b,o,none⟩∧A b∧b < w.heap.size ∧
  At w b (o+i*6) [.int .u8 l[i].k,.int .u8 l[i].v.k,.int .i64 l[i].v.n,.slice (PA.va m) l[i].v.l.length (PA.vc m),.int .i64 l[i].n,.slice (PA.a m) l[i].a.length (PA.c m)]∧RP w A l[i] m
 | [],_,_,i,h=>absurd h sm
 | x::l,a,h,i,hi=>by
  simp only [RPs] at h
  obtain ⟨b,o,m,rfl,hA,h0,hx,hl⟩:=h
  have hb:b < w.heap.size:=World.block_lt_of_cell? _ _ h0.1
  cases i with
  | zero=>exact ⟨b,o,m,rfl,hA,hb,by simpa using h0,hx⟩
  | succ i=>
   obtain ⟨b',o',m',e,hA',hb',g0,gx⟩:=hl.get i (by simpa using hi)
   simp at e
   obtain ⟨rfl,rfl⟩:=e
   exact ⟨b,o,m',rfl,hA,hb,by rw [show o+(i+1)*6=o+6+i*6 from om];exact g0,gx⟩
theorem RIs.get {w A}:∀{l:List Int} {a},RIs w A l a→∀i (h:i < l.length),∃b o,a=some ⟨b,o,none⟩∧A b∧b < w.heap.size∧w.cell? ⟨b,o+i,none⟩=some (.int .i64 l[i])
 | [],_,_,i,h=>absurd h sm
 | x::l,a,h,i,hi=>by
  simp only [RIs] at h
  obtain ⟨b,o,rfl,hA,h0,hl⟩:=h
  have hb:b < w.heap.size:=World.block_lt_of_cell? _ _ h0.1
  cases i with
  | zero=>exact ⟨b,o,rfl,hA,hb,by simpa using h0.1⟩
  | succ i=>
   obtain ⟨b',o',e,hA',hb',g0⟩:=hl.get i (by simpa using hi)
   simp at e
   obtain ⟨rfl,rfl⟩:=e
   exact ⟨b,o,rfl,hA,hb,by rw [show o+(i+1)=o+1+i from om];exact g0⟩
theorem RTs.get {w A}:∀{l:List GT} {a},RTs w A l a→∀i (h:i < l.length),∃b o m,a=some ⟨b,o,none⟩∧A b∧b < w.heap.size ∧
  At w b (o+i*15) [.int .u8 l[i].k,.int .u8 l[i].v.k,.int .i64 l[i].v.n,.slice (TA.va m) l[i].v.l.length (TA.vc m),.slice (TA.vsa m) l[i].vs.length (TA.vsc m),.int .i64 l[i].lo,.int .i64 l[i].hi,
    .slice (TA.wa m) l[i].w.length (TA.wc m),.int .u8 l[i].p.k,.int .u8 l[i].p.v.k,.int .i64 l[i].p.v.n,.slice (TA.pva m) l[i].p.v.l.length (TA.pvc m),.int .i64 l[i].p.n,.slice (TA.pa m) l[i].p.a.length (TA.pc m),.slice (TA.a m) l[i].a.length (TA.c m)]∧RT w A l[i] m
 | [],_,_,i,h=>absurd h sm
 | x::l,a,h,i,hi=>by
  simp only [RTs] at h
  obtain ⟨b,o,m,rfl,hA,h0,hx,hl⟩:=h
  have hb:b < w.heap.size:=World.block_lt_of_cell? _ _ h0.1
  cases i with
  | zero=>exact ⟨b,o,m,rfl,hA,hb,by simpa using h0,hx⟩
  | succ i=>
   obtain ⟨b',o',m',e,hA',hb',g0,gx⟩:=hl.get i (by simpa using hi)
   simp at e
   obtain ⟨rfl,rfl⟩:=e
   exact ⟨b,o,m',rfl,hA,hb,by rw [show o+(i+1)*15=o+15+i*15 from om];exact g0,gx⟩

theorem okVs.get:∀{l:List GV},okVs l→∀i (h:i < l.length),okV l[i]
 | [],_,i,h=>absurd h sm
 | x::l,hx,0,_=>by simp only [okVs] at hx;exact hx.1
 | x::l,hx,i+1,h=>by simp only [okVs] at hx;exact okVs.get hx.2 i (by simpa using h)
theorem okPs.get:∀{l:List GP},okPs l→∀i (h:i < l.length),okP l[i]
 | [],_,i,h=>absurd h sm
 | x::l,hx,0,_=>by simp only [okPs] at hx;exact hx.1
 | x::l,hx,i+1,h=>by simp only [okPs] at hx;exact okPs.get hx.2 i (by simpa using h)
theorem okIs.get:∀{l:List Int},okIs l→∀i (h:i < l.length),Zv l[i]
 | [],_,i,h=>absurd h sm
 | x::l,hx,0,_=>by simp only [okIs] at hx;exact hx.1
 | x::l,hx,i+1,h=>by simp only [okIs] at hx;exact okIs.get hx.2 i (by simpa using h)
theorem okTs.get:∀{l:List GT},okTs l→∀i (h:i < l.length),okT l[i]
 | [],_,i,h=>absurd h sm
 | x::l,hx,0,_=>by simp only [okTs] at hx;exact hx.1
 | x::l,hx,i+1,h=>by simp only [okTs] at hx;exact okTs.get hx.2 i (by simpa using h)
theorem Zr (x:GV):1≤Zg x:=by cases x;simp only [Zg];omega
theorem ZS (x:GP):1≤Zm x:=by cases x;simp only [Zm];omega
theorem X8 (x:GT):1≤Zb x:=by cases x;simp only [Zb];omega
theorem XZ (x:GV):Zg x=1+Zi x.l:=by cases x;simp only [Zg]
theorem Wk (x:GP):Zm x=1+Zg x.v+ZY x.a:=by cases x;simp only [Zm]
theorem Zq (x:GT):Zb x=1+Zg x.v+Zi x.vs+x.w.length+Zm x.p+Z5 x.a:=by cases x;simp only [Zb]
theorem ZX:∀(l:List GV) i (h:i < l.length),Zg l[i]≤Zi l
 | [],i,h=>absurd h sm
 | x::l,0,h=>by simp [Zi]
 | x::l,i+1,h=>by have:=ZX l i (by simpa using h);simp [Zi];omega
theorem Xq:∀(l:List GP) i (h:i < l.length),Zm l[i]≤ZY l
 | [],i,h=>absurd h sm
 | x::l,0,h=>by simp [ZY]
 | x::l,i+1,h=>by have:=Xq l i (by simpa using h);simp [ZY];omega
theorem ZD:∀(l:List GT) i (h:i < l.length),Zb l[i]≤Z5 l
 | [],i,h=>absurd h sm
 | x::l,0,h=>by simp [Z5]
 | x::l,i+1,h=>by have:=ZD l i (by simpa using h);simp [Z5];omega
theorem WW:∀(l:List GV),l.length≤Zi l
 | []=>sm
 | x::l=>by have:=WW l;have:=Zr x;simp [Zi];omega
theorem Km:∀(l:List GP),l.length≤ZY l
 | []=>sm
 | x::l=>by have:=Km l;have:=ZS x;simp [ZY];omega
theorem Kn:∀(l:List GT),l.length≤Z5 l
 | []=>sm
 | x::l=>by have:=Kn l;have:=X8 x;simp [Z5];omega

theorem Za {B:Nat} {W w1:World} (hb:Below B W w1):(∀b o,b < B→w1.cell? ⟨b,o,none⟩=W.cell? ⟨b,o,none⟩)∧(∀b o,b < B→w1.frozen? ⟨b,o,none⟩=W.frozen? ⟨b,o,none⟩):=
 ⟨fun b o h=>hb.cell (p:=⟨b,o,none⟩) h,fun b o h=>hb.frozen (p:=⟨b,o,none⟩) h⟩
theorem Z0 {P:Program} {id:Nat} {Q:Exit→Act→World→Prop} {a:Act} {w:World} {l:List Oper} (n:Nat) (hm:P.follows .mixedOrders=true) (hB:Region.lexTailB .any l.toArray n=true)
  (h:wpStill P l.toArray w.drew (fun a'=>wpList P l.toArray Q (l.drop n) a' w.drew) (l.take n) a):(Code.region id l.toArray true).wp P Q a w:=
 wp_region_still_tail n hm hB h
theorem az {w w':World} {A:Nat→Prop} (h:Below w.heap.size w w':=by repeat (first|exact .refl _ _|assumption|refine .trans ?_ (.m (by assumption))|refine .drew ?_|refine .a ?_ _|refine .s ?_ _)):Agree A w w':=ZtY h
theorem ar {w w':World} {A:Nat→Prop} (h:Below w.heap.size w w':=by with_reducible repeat (first|exact .refl _ _|assumption|refine .trans ?_ (.m (by assumption))|refine .drew ?_|refine .a ?_ _|refine .s ?_ _)):Agree A w w':=ZtY h
structure But (c B:Nat) (w w':World):Prop where
 os:w'.os=w.os
 tape:w'.tape=w.tape
 output:w'.output=w.output
 size:w.heap.size≤w'.heap.size
 block:∀k,k < B→k≠c→w'.heap[k]? =w.heap[k]?
theorem But.refl (c B:Nat) (w:World):But c B w w:=⟨rfl,rfl,rfl,Nat.le_refl _,fun _ _ _=>rfl⟩
theorem But.trans {c B:Nat} {a b d:World} (h:But c B a b) (k:But c B b d):But c B a d:=
 ⟨k.os.trans h.os,k.tape.trans h.tape,k.output.trans h.output,Nat.le_trans h.size k.size,fun i hi hc=>(k.block i hi hc).trans (h.block i hi hc)⟩
theorem But.mono {c B B':Nat} {w w':World} (h:But c B w w') (hB:B'≤B):But c B' w w':=⟨h.os,h.tape,h.output,h.size,fun k hk hc=>h.block k (Nat.lt_of_lt_of_le hk hB) hc⟩
theorem But.drew {c B:Nat} {a w:World} (h:But c B a w):But c B a w.drew:=⟨h.os,h.tape,h.output,h.size,h.block⟩
theorem But.of {c B:Nat} {w w':World} (h:Below B w w'):But c B w w':=⟨h.os,h.tape,h.output,h.size,fun k hk _=>h.block k hk⟩
abbrev Zue:=@But.of
theorem But.alloc {c B:Nat} {a w:World} (h:But c B a w) (hB:B≤w.heap.size) (o:Obj):But c B a (w.alloc o):=
 h.trans (Zue (Below.alloc (Below.refl B w) hB o))
theorem But.setCell {c B:Nat} {a w:World} (h:But c B a w) {p:Addr} (hp:B≤p.block) (u:Value):But c B a (w.setCell p u):=
 h.trans (Zue (Below.setCell (Below.refl B w) hp u))
theorem But.setOwn {c B:Nat} {a w:World} (h:But c B a w) (o:Nat) (u:Value):But c B a (w.setCell ⟨c,o,none⟩ u):=
 h.trans ⟨rfl,rfl,rfl,by simp [World.setCell],fun k hk hc=>Below.heap_setCell _ _ _ _ hc⟩
theorem But.cell {c B:Nat} {w w':World} (h:But c B w w') {p:Addr} (hp:p.block < B) (hc:p.block≠c):w'.cell? p=w.cell? p:=World.cell?_of_block (w:=w) (h.block p.block hp hc)
theorem But.frozen {c B:Nat} {w w':World} (h:But c B w w') {p:Addr} (hp:p.block < B) (hc:p.block≠c):w'.frozen? p=w.frozen? p:=World.frozen?_of_block (w:=w) (h.block p.block hp hc)
theorem But.ag {c B:Nat} {w w':World} (h:But c B w w') {p:Addr} {v:Value} (hp:p.block < B) (hc:p.block≠c) (hv:w.cell? p=some v):w'.cell? p=some v∧w'.frozen? p=w.frozen? p:=⟨(h.cell hp hc).trans hv,h.frozen hp hc⟩
theorem But.below {c B:Nat} {w w':World} (h:But c B w w') (hc:B≤c):Below B w w':=⟨h.os,h.tape,h.output,h.size,fun k hk=>h.block k hk om⟩
theorem Agree.but {c:Nat} {w w':World} (h:But c w.heap.size w w'):Agree (fun b=>b≠c) w w':=fun _ _ hA hc=>⟨(h.cell (World.block_lt_of_cell? _ _ hc) hA).trans hc,h.frozen (World.block_lt_of_cell? _ _ hc) hA⟩
abbrev Zt0:=@Agree.but
theorem ZE {c B:Nat} {W w1:World} (hb:But c B W w1):(∀b o,b < B→¬b=c→w1.cell? ⟨b,o,none⟩=W.cell? ⟨b,o,none⟩)∧(∀b o,b < B→¬b=c→w1.frozen? ⟨b,o,none⟩=W.frozen? ⟨b,o,none⟩):=
 ⟨fun b o h k=>hb.cell (p:=⟨b,o,none⟩) h k,fun b o h k=>hb.frozen (p:=⟨b,o,none⟩) h k⟩
theorem But.m {c B B':Nat} {w w':World} (h:But c B w w') (k:B'≤B:=by first|omega|(simp;done)|(simp;omega)):But c B' w w':=But.mono h k
theorem But.a {c B:Nat} {w w':World} (h:But c B w w') (o:Obj) (k:B≤w'.heap.size:=by first|omega|(simp;done)|(simp;omega)):But c B w (w'.alloc o):=But.alloc h k o
theorem But.s {c B:Nat} {w w':World} (h:But c B w w') (u:Value) {p:Addr} (k:B≤p.block:=by first|omega|(simp;done)|(simp;omega)):But c B w (w'.setCell p u):=But.setCell h k u
theorem But.z {c B:Nat} {w w':World} (h:But c B w w':=by repeat (first|exact .refl _ _ _|assumption|refine .trans ?_ (.m (by assumption))|refine .trans ?_ (.of (.m (by assumption)))|refine .drew ?_|refine .a ?_ _|refine .setOwn ?_ _ _|refine .s ?_ _)):But c B w w':=h
abbrev Zt1:=@But.z
theorem But.r {c B:Nat} {w w':World} (h:But c B w w':=by with_reducible repeat (first|exact .refl _ _ _|assumption|refine .trans ?_ (.m (by assumption))|refine .trans ?_ (.of (.m (by assumption)))|refine .drew ?_|refine .a ?_ _|refine .setOwn ?_ _ _|refine .s ?_ _)):But c B w w':=h
section
def Qq (n:Nat):Nat:=if n=0 then 0 else Nat.log2 n+1
theorem Zcx (n:Nat) (h:n≠0):Qq n=1+Qq (n / 2):=by
 unfold Qq
 rw [if_neg h,Nat.log2_def]
 split
 ·rw [if_neg om];omega
 rw [if_pos om]
theorem Wq (n:Nat):∀s,n / 2 ^ s≠0→Qq n=s+Qq (n / 2 ^ s)
 | 0,_=>sm
 | s+1,h=>by
  have e:n / 2 ^ (s+1)=n / 2 ^ s / 2:=by rw [Nat.pow_succ,Nat.div_div_eq_div_mul]
  rw [e] at h ⊢
  have h2:n / 2 ^ s≠0:=by intro h3;rw [h3] at h;exact h sm
  rw [Wq n s h2,Zcx _ h2]
  omega
theorem Zbv (n:Nat) (h:n < 2):Qq n=n:=by
 rcases Nat.lt_or_ge n 1 with h1|h1
 ·obtain rfl:n=0:=om
  simp [Qq]
 obtain rfl:n=1:=om
 decide
end
theorem ZO {w b c0 c1 c2 c3 c4 c5 c6 c7 c8 c9 ca cb cc cd ce}:At w b 0 [c0,c1,c2,c3,c4,c5,c6,c7,c8,c9,ca,cb,cc,cd,ce]↔w.cell? ⟨b,0,none⟩=some c0∧w.cell? ⟨b,1,none⟩=some c1∧w.cell? ⟨b,2,none⟩=some c2 ∧
  w.cell? ⟨b,3,none⟩=some c3∧w.cell? ⟨b,4,none⟩=some c4∧w.cell? ⟨b,5,none⟩=some c5∧w.cell? ⟨b,6,none⟩=some c6∧w.cell? ⟨b,7,none⟩=some c7∧w.cell? ⟨b,8,none⟩=some c8 ∧
  w.cell? ⟨b,9,none⟩=some c9∧w.cell? ⟨b,10,none⟩=some ca∧w.cell? ⟨b,11,none⟩=some cb∧w.cell? ⟨b,12,none⟩=some cc∧w.cell? ⟨b,13,none⟩=some cd∧w.cell? ⟨b,14,none⟩=some ce:=by
 simp only [At,Nat.add_assoc,Nat.reduceAdd,and_true,Nat.zero_add]
theorem ZT {P:Program} {c:Code} {Q:Exit→Act→World→Prop} {a:Act} {W:World} (F:World→Prop) (hF:F W) (h:∀W1,F W1→c.wp P Q a W1):c.wp P Q a W:=h W hF
def RL (w:World) (A:Nat→Prop) (l:List Nat) (a:Option Addr):Prop:=
 l=[]∨∃b o,a=some ⟨b,o,none⟩∧A b∧∀i (h:i < l.length),w.cell? ⟨b,o+i,none⟩=some (.int .u64 (l[i]:Int))
theorem RL.nil (w:World) (A:Nat→Prop) (a:Option Addr):RL w A [] a:=.inl rfl
theorem RL.ext {w w':World} {A:Nat→Prop} (h:Agree A w w') {l:List Nat} {a:Option Addr} (hx:RL w A l a):RL w' A l a:=
 hx.elim .inl fun ⟨b,o,e,hA,hc⟩=>.inr ⟨b,o,e,hA,fun i hi=>(h _ _ hA (hc i hi)).1⟩
abbrev Zt6:=@RL.ext
theorem RL.get {w:World} {A:Nat→Prop} {l:List Nat} {a:Option Addr} (hx:RL w A l a) (i:Nat) (hi:i < l.length):∃b o,a=some ⟨b,o,none⟩∧A b∧b < w.heap.size∧w.cell? ⟨b,o+i,none⟩=some (.int .u64 (l[i]:Int)):=by
 rcases hx with rfl|⟨b,o,e,hA,hc⟩
 ·exact absurd hi sm
 exact ⟨b,o,e,hA,World.block_lt_of_cell? _ _ (hc i hi),hc i hi⟩
theorem RL.mono {w:World} {A A':Nat→Prop} (h:∀b,A b→b < w.heap.size→A' b) {l:List Nat} {a:Option Addr} (hx:RL w A l a):RL w A' l a:=by
 cases l with
 | nil=>exact .inl rfl
 | cons x l=>
  obtain ⟨b,o,e,hA,hb, -⟩:=hx.get 0 sm
  rcases hx with hx|⟨b',o',e',hA',hc⟩
  ·cases hx
  rw [e] at e'
  cases e'
  exact .inr ⟨b,o,e,h b hA hb,hc⟩
abbrev Zt7:=@RL.mono
theorem RL.take {w:World} {A:Nat→Prop} {l:List Nat} {a:Option Addr} (hx:RL w A l a) (k:Nat):RL w A (l.take k) a:=
 hx.elim (fun h=>.inl (by rw [h,List.take_nil])) fun ⟨b,o,e,hA,hc⟩=>.inr ⟨b,o,e,hA,fun i hi=>by
  rw [List.length_take] at hi
  rw [List.getElem_take]
  exact hc i om⟩
def W7 (x:Nat):List Nat:=if x=0 then [] else [x]
theorem Zpu:W7 0=[]:=rfl
theorem W8 {x:Nat} (h:0 < x):W7 x=[x]:=if_neg om
theorem Zr2 (x:Nat):(W7 x).length≤1:=by unfold W7;split<;>simp
theorem Zrn (x:Nat):(W7 x).length≤1048576:=by have:=Zr2 x;omega
def Zrg (l r:List Nat):Prop:=r=l.take r.length∧(∀j (h:j < l.length),r.length≤j→l[j]=0)∧(r≠[]→r.getLast? ≠some 0)
theorem ZqX (l:List Nat) (k:Nat) (hk:k≤l.length) (hz:∀j (h:j < l.length),k≤j→l[j]=0) (hl:k=0∨∃h:k - 1 < l.length,l[k - 1]≠0):Zrg l (l.take k):=by
 have hk:(l.take k).length=k:=by rw [List.length_take];omega
 refine ⟨by rw [hk],fun j h hj=>hz j h (by rw [hk] at hj;exact hj),fun hne=>?_⟩
 rcases hl with h0|⟨h,h1⟩
 ·rw [h0] at hne;exact absurd rfl hne
 rw [List.getLast?_eq_getElem?,hk,List.getElem?_take,if_pos (by have:0 < k:=Nat.pos_of_ne_zero (fun e=>by rw [e] at hne;exact absurd rfl hne);omega),List.getElem?_eq_getElem h]
 simpa using h1
def Zrx (l:List Nat) (x:Nat):Prop:=l=[]∧x=0∨∃n,l=x::List.replicate n 0
theorem Zp6 (x:Nat):Zrx [x] x:=.inr ⟨0,rfl⟩
theorem ZqT (x:Nat):Zrx (W7 x) x:=by
 rcases Nat.eq_zero_or_pos x with rfl|h
 ·exact .inl ⟨rfl,rfl⟩
 rw [W8 h];exact Zp6 x
def One (l:List Nat) (x:Nat):Prop:=l=[]∧x=0∨l=[x]
theorem QT (x:Nat):One (W7 x) x:=by
 rcases Nat.eq_zero_or_pos x with rfl|h
 ·exact .inl ⟨rfl,rfl⟩
 exact .inr (W8 h)
theorem ZqI {l r:List Nat} {x:Nat} (h:Zrg l r) (hl:Zrx l x):r=W7 x:=by
 obtain ⟨h1,h2,h3⟩:=h
 have hlen:r.length≤l.length:=by rw [h1,List.length_take];omega
 rcases hl with ⟨rfl,rfl⟩|⟨n,hy⟩
 ·have:r=[]:=List.length_eq_zero_iff.1 (by simpa using hlen)
  rw [this];rfl
 subst hy
 cases r with
 | nil=>
  have:=h2 0 sm sm
  simp at this
  rw [this];rfl
 | cons a r=>
  simp only [List.length_cons,List.take_succ_cons,List.cons.injEq] at h1
  obtain ⟨rfl,h4⟩:=h1
  cases r with
  | nil=>
   have:a≠0:=fun e=>h3 sm (by simp [e])
   rw [W8 om]
  | cons b r=>
   exfalso
   have hm:∀z∈b::r,z=0:=fun z hz'=>by
    have:z∈List.replicate n 0:=by rw [h4] at hz';exact List.mem_of_mem_take hz'
    exact (List.mem_replicate.1 this).2
   refine h3 sm ?_
   rw [List.getLast?_cons_cons,List.getLast?_eq_some_getLast sm]
   exact congrArg some (hm _ (List.getLast_mem _))
theorem Ztr (z:Nat):((z:Int) % 2==1)=(z % 2==1):=by
 rw [Bool.eq_iff_iff];simp;omega
def Zpw (a b:Nat):Nat×Nat:=(a / Nat.gcd a b,b / Nat.gcd a b)
section
theorem ZsT {n:Nat} (h:0 < n):n < 2 ^ Qq n:=by
 unfold Qq
 rw [if_neg om]
 exact Nat.lt_log2_self
theorem ZrL {n:Nat} (h:n < 65536):Qq n≤16:=by
 unfold Qq
 split
 ·omega
 have:Nat.log2 n < 16:=(Nat.log2_lt om).2 (by simpa using h)
 omega
theorem Zsu {n:Nat} (h:0 < n):1≤Qq n:=by
 unfold Qq
 rw [if_neg om]
 omega
theorem Zq1 (x k:Nat):x / 2 % 2 ^ (k+1)=x / 2 % 2 ^ k+2 ^ k*(x / 2 ^ (k+1) % 2):=by
 rw [Nat.mod_pow_succ,Nat.div_div_eq_div_mul,Nat.pow_succ,Nat.mul_comm 2 (2 ^ k)]
theorem ZsO {x k:Nat} (h:(x / 2 ^ (k+1) % 2==1)=true):x / 2 % 2 ^ (k+1)=x / 2 % 2 ^ k+2 ^ k:=by
 rw [Zq1,beq_iff_eq.1 h,Nat.mul_one]
theorem Zsq {x k:Nat} (h:(x / 2 ^ (k+1) % 2==1)=false):x / 2 % 2 ^ (k+1)=x / 2 % 2 ^ k:=by
 have:x / 2 ^ (k+1) % 2=0:=by have:=beq_eq_false_iff_ne.1 h;omega
 rw [Zq1,this,Nat.mul_zero,Nat.add_zero]
theorem Zsp {x k:Nat} (h:Qq x=k+1) (h0:0 < x):x / 2 % 2 ^ k=x / 2:=by
 have:=ZsT h0
 rw [h,Nat.pow_succ] at this
 exact Nat.mod_eq_of_lt om
theorem ZrP {k:Nat} (h:k≤15):2 ^ k≤32768:=by
 have:=Nat.pow_le_pow_right (n:=2) om h
 simpa using this
end
def noV:GV:=⟨0,0,[]⟩
def noP:GP:=⟨0,noV,0,[]⟩
def VZ:TA:=⟨none,0,none,0,none,0,none,0,none,0,none,0⟩
def Yh (lo hi:Int):GT:=⟨2,noV,[],lo,hi,[],noP,[]⟩
def ZpB (n:Int):GT:=⟨1,⟨1,n,[]⟩,[],0,0,[],noP,[]⟩
theorem Zj9 {w:World} {A:Nat→Prop} {t:GT} {m:TA} (h1:t.v.l=[]) (h2:t.vs=[]) (h3:t.w=[]) (h4:t.p.v.l=[]) (h5:t.p.a=[]) (h6:t.a=[]):RT w A t m:=by
 rw [Zo,Zl,Wn,Zl,h1,h2,h3,h4,h5,h6]
 simp only [RVs,RIs,RPs,RTs,and_self]
theorem ZaW (lo hi:Int) (h:Zv lo) (h2:Zv hi):okT (Yh lo hi):=by
 refine Ze.2 ⟨by unfold Yg Yh;simp,ZA.2 ⟨by unfold Yg Yh noV;simp,by unfold Zv Yh noV;simp,by simp [Yh,noV],by simp [Yh,noV,okVs]⟩,⟨by simp [Yh],by simp [Yh,okVs]⟩,h,h2,⟨by simp [Yh],by simp [Yh,okIs]⟩,Y3.2 ⟨by unfold Yg Yh noP;simp,ZA.2 ⟨by unfold Yg Yh noP noV;simp,by unfold Zv Yh noP noV;simp,by simp [Yh,noP,noV],by simp [Yh,noP,noV,okVs]⟩,by unfold Zv Yh noP;simp,by simp [Yh,noP],by simp [Yh,noP,okPs]⟩,by simp [Yh],by simp [Yh,okTs]⟩
theorem Zsz (n:Int) (h:Zv n):okT (ZpB n):=by
 refine Ze.2 ⟨by unfold Yg ZpB;simp,ZA.2 ⟨by unfold Yg ZpB;simp,h,by simp [ZpB],by simp [ZpB,okVs]⟩,⟨by simp [ZpB],by simp [ZpB,okVs]⟩,by unfold Zv ZpB;simp,by unfold Zv ZpB;simp,⟨by simp [ZpB],by simp [ZpB,okIs]⟩,Y3.2 ⟨by unfold Yg ZpB noP;simp,ZA.2 ⟨by unfold Yg ZpB noP noV;simp,by unfold Zv ZpB noP noV;simp,by simp [ZpB,noP,noV],by simp [ZpB,noP,noV,okVs]⟩,by unfold Zv ZpB noP;simp,by simp [ZpB,noP],by simp [ZpB,noP,okPs]⟩,by simp [ZpB],by simp [ZpB,okTs]⟩
theorem Zgy {w:World} {A:Nat→Prop} (lo hi:Int):RT w A (Yh lo hi) VZ:=Zj9 rfl rfl rfl rfl rfl rfl
theorem Zts {w:World} {A:Nat→Prop} (n:Int):RT w A (ZpB n) VZ:=Zj9 rfl rfl rfl rfl rfl rfl
theorem J4 (lo hi:Int):Zb (Yh lo hi)≤1099511627776:=by simp [Yh,Zb,Zg,Zi,Zm,ZY,Z5,noV,noP]
theorem Zru (n:Int):Zb (ZpB n)≤1099511627776:=by simp [ZpB,Zb,Zg,Zi,Zm,ZY,Z5,noV,noP]
end Go.Proofs.YtkdffbdnjfgpeaaGreat
