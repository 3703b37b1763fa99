/- Part 26. -/
import Derived.Test.YtkdffbdnjfgpeaaGreatY15
set_option linter.all false
namespace Go.Proofs.YtkdffbdnjfgpeaaGreat
open Go.Lib (hid)
open Go Go.RowKit Go.Proofs.Tryz
section
theorem IRow.of_heap {e base g} {w:World} {zs:List Int} (h:w.heap[g]? =some (.cells (zs.map (Value.int .i64)).toArray e (0,0))) (hb:base≤g) (hm:zs.length≤maxLen):IRow e w base g zs.length zs:=
 ⟨sm,.inr ⟨g,zs.length,_,rfl,hb,h,Nat.le_refl _,hm,sm,by simp [List.take_of_length_le]⟩⟩
theorem Zdf {P:Program} {t e:TypeId} (ht:P.underlying t=some (.slice e)) (hi:(P.info? e).map (fun i=>(i.zero,i.size,i.bytes))=some (some (.int .i64 0),1,8)) (n:Nat) (hn:n≤1048576) (w:World):
  (Instr.makeSlice t (.int .i64 (n:Int)) (.int .i64 (n:Int))).run P w=.ok (.slice (some ⟨w.heap.size,0,none⟩) n n) (w.alloc (.cells (List.replicate n (Value.int .i64 0)).toArray e)):=by
 obtain ⟨i,h1,h2,h3,h4⟩:=info_parts hi
 have h:=run_make (P:=P) w t e i _ ht h1 h2 .i64 .i64 n n om (Int.le_refl _) (by rw [h4];omega) om
 rw [h,h3,Nat.mul_one,Int.toNat_natCast]
 congr 3
 apply Array.ext'
 exact toList_madeCells_one _ _
theorem Zfh {P:Program} {t e:TypeId} (ht:P.underlying t=some (.slice e)) (hi:(P.info? e).map (fun i=>(i.zero,i.size,i.bytes))=some (some (.int .i64 0),1,8)) (n:Nat) (N:Int) (hN:N=n) (hn:n≤1048576) (w:World):
  (Instr.makeSlice t (.int .i64 N) (.int .i64 N)).run P w=.ok (.slice (some ⟨w.heap.size,0,none⟩) n n) (w.alloc (.cells (List.replicate n (Value.int .i64 0)).toArray e)):=by
 subst hN;exact Zdf ht hi n hn w
theorem IRow.made2 {e base n g:Nat} (w:World) (hg:g=w.heap.size) (hb:base≤w.heap.size) (hn:n≤1048576):IRow e (w.alloc (.cells (Array.replicate n (Value.int .i64 0)) e)) base g n (List.replicate n 0):=by
 subst hg
 have h:=IRow.of_heap (e:=e) (base:=base) (g:=w.heap.size) (w:=w.alloc (.cells (Array.replicate n (Value.int .i64 0)) e)) (zs:=List.replicate n 0) (by rw [heap_alloc_new];simp) hb (by simp;unfold maxLen;omega)
 simpa using h
theorem IRow.al {e base g cap} {w:World} {zs:List Int} (h:IRow e w base g cap zs) (o:Obj):IRow e (w.alloc o) base g cap zs:=World.ownsRow.alloc h o
theorem IRow.dr {e base g cap} {w:World} {zs:List Int} (h:IRow e w base g cap zs):IRow e w.drew base g cap zs:=h
theorem VL (S m:Int) (l:List Int) (i:Nat) (h:i < l.length) (T:AT):Yr S m (l.drop i) i T=Yr S m (l.drop (i+1)) ((i+1:Nat):Int) (if m*l[i] < S then ⟨T.c++[S],T.o++[(i:Int)],T.h++[m*l[i]],T.lo++[(i:Int)],T.hi⟩ else ⟨T.c++[S],T.o++[(i:Int)],T.h++[m*l[i]],T.lo,T.hi++[(i:Int)]⟩):=by
 rw [List.drop_eq_getElem_cons h,Yr];rfl
theorem UC (D:List Int) (v:Int) (n q:Nat) (h:D.length=q) (hn:q < n):(D++List.replicate (n - q) (0:Int)).set q v=(D++[v])++List.replicate (n - (q+1)) 0:=by
 have h1:n - q=(n - (q+1))+1:=om
 rw [h1,List.replicate_succ,List.set_append_right _ _ om,h,Nat.sub_self,List.set_cons_zero]
 simp
structure TabAt (w:World) (b gc go n:Nat) (S:Int):Prop where
 s:w.cell? ⟨b,0,none⟩=some (.int .i64 S)
 c:w.cell? ⟨b,1,none⟩=some (.slice (some ⟨gc,0,none⟩) n n)
 o:w.cell? ⟨b,2,none⟩=some (.slice (some ⟨go,0,none⟩) n n)
 f:∀j,w.frozen? ⟨b,j,none⟩=false
theorem IRow.congr {e base g cap} {w w':World} {zs:List Int} (h:IRow e w base g cap zs) (hw:w'.heap=w.heap):IRow e w' base g cap zs:=by
 obtain ⟨h1,h2⟩:=h
 refine ⟨h1,?_⟩
 rcases h2 with h|⟨k,cap',cur,hv,hbs,hg,h3⟩
 ·exact .inl h
 exact .inr ⟨k,cap',cur,hv,hbs,by rw [hw];exact hg,h3⟩
structure Zca (B bt gc go gr gh:Nat):Prop where
 b1:B≤bt
 b2:B≤gc
 b3:B≤go
 b4:B≤gr
 b5:B≤gh
 d1:bt≠gc
 d2:bt≠go
 d3:bt≠gr
 d4:bt≠gh
 d5:gc≠go
 d6:gc≠gr
 d7:gc≠gh
 d8:go≠gr
 d9:go≠gh
 da:gr≠gh
structure AState (w wr:World) (eI eJ:TypeId) (B bt gc go gr gh n i:Nat) (S:Int) (T:AT) (Rm:List Int):Prop where
 below:Below B w wr
 z1:bt < wr.heap.size
 z2:gc < wr.heap.size
 z3:go < wr.heap.size
 z4:gr < wr.heap.size
 z5:gh < wr.heap.size
 tab:TabAt wr bt gc go n S
 ok:T.Ok i
 ht:HtOk S 67108864 T.h T.lo T.hi
 rm:RoomOk n Rm T.lo T.hi
 rc:IRow eI wr B gc n (T.c++List.replicate (n - i) 0)
 ro:IRow eJ wr B go n (T.o++List.replicate (n - i) 0)
 rh:IRow eI wr B gh n (T.h++List.replicate (n - i) 0)
 rr:IRow eJ wr B gr (2*n) Rm
theorem TabAt.congr {w w':World} {b gc go n:Nat} {S:Int} (h:TabAt w b gc go n S) (hw:w'.heap=w.heap):TabAt w' b gc go n S:=
 ⟨(World.cell?_of_block (by rw [hw])).trans h.s,(World.cell?_of_block (by rw [hw])).trans h.c,(World.cell?_of_block (by rw [hw])).trans h.o,fun j=>(World.frozen?_of_block (by rw [hw])).trans (h.f j)⟩
theorem TabAt.far {w:World} {b gc go n:Nat} {S:Int} (h:TabAt w b gc go n S) (p:Addr) (v:Value) (hp:b≠p.block):TabAt (w.setCell p v) b gc go n S:=
 have e:(w.setCell p v).heap[b]? =w.heap[b]? :=Below.heap_setCell _ _ _ _ hp
 ⟨(World.cell?_of_block e).trans h.s,(World.cell?_of_block e).trans h.c,(World.cell?_of_block e).trans h.o,fun j=>(World.frozen?_of_block e).trans (h.f j)⟩
theorem TabAt.al {w:World} {b gc go n:Nat} {S:Int} (h:TabAt w b gc go n S) (o:Obj) (hp:b < w.heap.size):TabAt (w.alloc o) b gc go n S:=
 have e:(w.alloc o).heap[b]? =w.heap[b]? :=Below.heap_alloc _ _ _ hp
 ⟨(World.cell?_of_block e).trans h.s,(World.cell?_of_block e).trans h.c,(World.cell?_of_block e).trans h.o,fun j=>(World.frozen?_of_block e).trans (h.f j)⟩
theorem AT.Ok.push {n:Nat} {T:AT} (h:T.Ok n) (S P:Int):AT.Ok (n+1) ⟨T.c++[S],T.o++[(n:Int)],T.h++[P],T.lo++[(n:Int)],T.hi⟩∧AT.Ok (n+1) ⟨T.c++[S],T.o++[(n:Int)],T.h++[P],T.lo,T.hi++[(n:Int)]⟩:=by
 have hm:∀(L:List Int),(∀x∈L,0≤x∧x < (n:Int))→∀x∈L++[(n:Int)],0≤x∧x < ((n+1:Nat):Int):=fun L hL x hx=>by
  rcases List.mem_append.1 hx with hx|hx
  ·have:=hL x hx;omega
  simp at hx;omega
 have hm2:∀(L:List Int),(∀x∈L,0≤x∧x < (n:Int))→∀x∈L,0≤x∧x < ((n+1:Nat):Int):=fun L hL x hx=>by have:=hL x hx;omega
 exact ⟨⟨by simp [h.c],by simp [h.o],hm _ h.m,by simp [h.h],hm _ h.lo,hm2 _ h.hi⟩,⟨by simp [h.c],by simp [h.o],hm _ h.m,by simp [h.h],hm2 _ h.lo,hm _ h.hi⟩⟩
section
variable {w wr W:World} {eI eJ:TypeId} {bt gc go gr gh n i:Nat} {S:Int} {T:AT} {Rm:List Int}
theorem Zma {p:Prop} (h:p:=by exact ((((hb.setCell b5 _).setCell b2 _).setCell b3 _).setCell b4 _).alloc (by simp;exact hb.size) _):p:=h
theorem AState.fillLo (D:Zca w.heap.size bt gc go gr gh) (h:AState w wr eI eJ w.heap.size bt gc go gr gh n i S T Rm) (hi:i < n) (hl:T.lo.length+T.hi.length=i) (P:Int) (hP:0≤P∧P < S) (q:Obj)
  (hW:W=((((wr.setCell ⟨gh,i,none⟩ (.int .i64 P)).setCell ⟨gc,i,none⟩ (.int .i64 S)).setCell ⟨go,i,none⟩ (.int .i64 i)).setCell ⟨gr,T.lo.length,none⟩ (.int .i64 i)).alloc q):
  AState w W eI eJ w.heap.size bt gc go gr gh n (i+1) S ⟨T.c++[S],T.o++[(i:Int)],T.h++[P],T.lo++[(i:Int)],T.hi⟩ (Rm.set T.lo.length i):=by
 subst hW
 obtain ⟨b1,b2,b3,b4,b5,d1,d2,d3,d4,d5,d6,d7,d8,d9,da⟩:=D
 obtain ⟨hb,z1,z2,z3,z4,z5,ht,hk,hh,hr,c,o,g,r⟩:=h
 have sc:=(((c.far ⟨gh,i,none⟩ (.int .i64 P) (Ne.symm d7)).set i S).1.far ⟨go,i,none⟩ (.int .i64 i) (Ne.symm d5)).far ⟨gr,T.lo.length,none⟩ (.int .i64 i) (Ne.symm d6) |>.al q
 have so:=((((o.far ⟨gh,i,none⟩ (.int .i64 P) (Ne.symm d9)).far ⟨gc,i,none⟩ (.int .i64 S) d5).set i i).1.far ⟨gr,T.lo.length,none⟩ (.int .i64 i) (Ne.symm d8)).al q
 have sg:=(((g.set i P).1.far ⟨gc,i,none⟩ (.int .i64 S) d7).far ⟨go,i,none⟩ (.int .i64 i) d9).far ⟨gr,T.lo.length,none⟩ (.int .i64 i) da |>.al q
 have sr:=(((((r.far ⟨gh,i,none⟩ (.int .i64 P) (Ne.symm da)).far ⟨gc,i,none⟩ (.int .i64 S) d6).far ⟨go,i,none⟩ (.int .i64 i) d8).set T.lo.length i).1.al q)
 rw [UC _ _ _ _ hk.c hi] at sc
 rw [UC _ _ _ _ hk.o hi] at so
 rw [UC _ _ _ _ hk.h hi] at sg
 refine ⟨?_,by simp;omega,by simp;omega,by simp;omega,by simp;omega,by simp;omega,?_,(hk.push S P).1,?_,hr.pushLo _ om,sc,so,sg,sr⟩
 ·exact Zma
 ·exact ((((ht.far _ _ d4).far _ _ d1).far _ _ d2).far _ _ d3).al _ (by simpa using z1)
 have:=hh.pushLo P hP;rw [hk.h] at this;exact this
theorem AState.fillHi (D:Zca w.heap.size bt gc go gr gh) (h:AState w wr eI eJ w.heap.size bt gc go gr gh n i S T Rm) (hi:i < n) (hl:T.lo.length+T.hi.length=i) (P:Int) (hP:S≤P∧P≤67108864) (q:Obj)
  (hW:W=((((wr.setCell ⟨gh,i,none⟩ (.int .i64 P)).setCell ⟨gc,i,none⟩ (.int .i64 S)).setCell ⟨go,i,none⟩ (.int .i64 i)).setCell ⟨gr,n+T.hi.length,none⟩ (.int .i64 i)).alloc q):
  AState w W eI eJ w.heap.size bt gc go gr gh n (i+1) S ⟨T.c++[S],T.o++[(i:Int)],T.h++[P],T.lo,T.hi++[(i:Int)]⟩ (Rm.set (n+T.hi.length) i):=by
 subst hW
 obtain ⟨b1,b2,b3,b4,b5,d1,d2,d3,d4,d5,d6,d7,d8,d9,da⟩:=D
 obtain ⟨hb,z1,z2,z3,z4,z5,ht,hk,hh,hr,c,o,g,r⟩:=h
 have sc:=(((c.far ⟨gh,i,none⟩ (.int .i64 P) (Ne.symm d7)).set i S).1.far ⟨go,i,none⟩ (.int .i64 i) (Ne.symm d5)).far ⟨gr,n+T.hi.length,none⟩ (.int .i64 i) (Ne.symm d6) |>.al q
 have so:=((((o.far ⟨gh,i,none⟩ (.int .i64 P) (Ne.symm d9)).far ⟨gc,i,none⟩ (.int .i64 S) d5).set i i).1.far ⟨gr,n+T.hi.length,none⟩ (.int .i64 i) (Ne.symm d8)).al q
 have sg:=(((g.set i P).1.far ⟨gc,i,none⟩ (.int .i64 S) d7).far ⟨go,i,none⟩ (.int .i64 i) d9).far ⟨gr,n+T.hi.length,none⟩ (.int .i64 i) da |>.al q
 have sr:=(((((r.far ⟨gh,i,none⟩ (.int .i64 P) (Ne.symm da)).far ⟨gc,i,none⟩ (.int .i64 S) d6).far ⟨go,i,none⟩ (.int .i64 i) d8).set (n+T.hi.length) i).1.al q)
 rw [UC _ _ _ _ hk.c hi] at sc
 rw [UC _ _ _ _ hk.o hi] at so
 rw [UC _ _ _ _ hk.h hi] at sg
 refine ⟨?_,by simp;omega,by simp;omega,by simp;omega,by simp;omega,by simp;omega,?_,(hk.push S P).2,?_,hr.pushHi _ om,sc,so,sg,sr⟩
 ·exact Zma
 ·exact ((((ht.far _ _ d4).far _ _ d1).far _ _ d2).far _ _ d3).al _ (by simpa using z1)
 have:=hh.pushHi P hP;rw [hk.h] at this;exact this
theorem AState.dr (h:AState w wr eI eJ w.heap.size bt gc go gr gh n i S T Rm):AState w wr.drew eI eJ w.heap.size bt gc go gr gh n i S T Rm:=
 ⟨h.below.drew,h.z1,h.z2,h.z3,h.z4,h.z5,h.tab.congr rfl,h.ok,h.ht,h.rm,h.rc,h.ro,h.rh,h.rr⟩
abbrev Zuh:=@AState.dr
theorem AState.stepHi (D:Zca w.heap.size bt gc go gr gh) {lo hi:List Int} {l x:Nat} (hlo:T.lo=lo++[(l:Int)]) (hhi:T.hi=hi++[(x:Int)]) (h:AState w wr eI eJ w.heap.size bt gc go gr gh n n S T Rm) (hv v:Int) (hh1:hv=T.h.getD l 0) (hv1:v=T.h.getD x 0 - (S - hv)) (hS:S≤v)
  (hW:W=((wr.setCell ⟨gc,l,none⟩ (.int .i64 hv)).setCell ⟨go,l,none⟩ (.int .i64 x)).setCell ⟨gh,x,none⟩ (.int .i64 v)):
  AState w W eI eJ w.heap.size bt gc go gr gh n n S (ZM S T l x) Rm:=by
 subst hW
 obtain ⟨b1,b2,b3,b4,b5,d1,d2,d3,d4,d5,d6,d7,d8,d9,da⟩:=D
 obtain ⟨hb,z1,z2,z3,z4,z5,ht,hk,hh,hr,c,o,g,r⟩:=h
 rw [Nat.sub_self,List.replicate_zero,List.append_nil] at c o g
 have e1:ZM S T l x=⟨T.c.set l hv,T.o.set l x,T.h.set x v,lo,T.hi⟩:=by
  unfold ZM
  simp only [Int.toNat_natCast,←hh1,←hv1]
  rw [if_neg om,hlo,List.dropLast_concat]
 have hst:=(HtOk.step (S:=S) (M:=67108864) (g:=T.h) (lo:=lo) (hi:=hi) (l:=l) (h:=x) (by rw [←hlo,←hhi];exact hh) v (by simp only [Int.toNat_natCast];rw [←hh1];exact hv1)).2.2 hS
 have hok:=WA (S:=S) (l:=l) hk (h:=x) (hk.hi x (by rw [hhi];simp))
 have hpop:=hr.popLo
 rw [e1] at hok ⊢
 refine ⟨((hb.setCell b2 _).setCell b3 _).setCell b5 _,by simp;omega,by simp;omega,by simp;omega,by simp;omega,by simp;omega,((ht.far _ _ d1).far _ _ d2).far _ _ d4,hok,?_,?_,?_,?_,?_,?_⟩
 ·rw [hhi];exact hst
 ·rw [hlo,List.dropLast_concat] at hpop;exact hpop
 ·rw [Nat.sub_self,List.replicate_zero,List.append_nil];exact (((c.set l hv).1).far _ _ (Ne.symm d5)).far _ _ (Ne.symm d7)
 ·rw [Nat.sub_self,List.replicate_zero,List.append_nil];exact ((((o.far ⟨gc,l,none⟩ (.int .i64 hv) d5).set l x).1).far _ _ (Ne.symm d9))
 ·rw [Nat.sub_self,List.replicate_zero,List.append_nil];exact (((g.far ⟨gc,l,none⟩ (.int .i64 hv) d7).far ⟨go,l,none⟩ (.int .i64 x) d9).set x v).1
 exact ((r.far _ _ d6).far _ _ d8).far _ _ (Ne.symm da)
theorem AState.stepLo (D:Zca w.heap.size bt gc go gr gh) {lo hi:List Int} {l x:Nat} (hlo:T.lo=lo++[(l:Int)]) (hhi:T.hi=hi++[(x:Int)]) (h:AState w wr eI eJ w.heap.size bt gc go gr gh n n S T Rm) (hv v:Int) (hh1:hv=T.h.getD l 0) (hv1:v=T.h.getD x 0 - (S - hv)) (hS:v < S) (q:Obj)
  (hW:W=((((wr.setCell ⟨gc,l,none⟩ (.int .i64 hv)).setCell ⟨go,l,none⟩ (.int .i64 x)).setCell ⟨gh,x,none⟩ (.int .i64 v)).setCell ⟨gr,lo.length,none⟩ (.int .i64 x)).alloc q):
  AState w W eI eJ w.heap.size bt gc go gr gh n n S (ZM S T l x) (Rm.set lo.length x):=by
 subst hW
 obtain ⟨b1,b2,b3,b4,b5,d1,d2,d3,d4,d5,d6,d7,d8,d9,da⟩:=D
 obtain ⟨hb,z1,z2,z3,z4,z5,ht,hk,hh,hr,c,o,g,r⟩:=h
 rw [Nat.sub_self,List.replicate_zero,List.append_nil] at c o g
 have e1:ZM S T l x=⟨T.c.set l hv,T.o.set l x,T.h.set x v,lo++[(x:Int)],hi⟩:=by
  unfold ZM
  simp only [Int.toNat_natCast,←hh1,←hv1]
  rw [if_pos hS,hlo,hhi,List.dropLast_concat,List.dropLast_concat]
 have hst:=(HtOk.step (S:=S) (M:=67108864) (g:=T.h) (lo:=lo) (hi:=hi) (l:=l) (h:=x) (by rw [←hlo,←hhi];exact hh) v (by simp only [Int.toNat_natCast];rw [←hh1];exact hv1)).2.1 hS
 have hok:=WA (S:=S) (l:=l) hk (h:=x) (hk.hi x (by rw [hhi];simp))
 have hsum:=hr.sum
 have hpop:=hr.popLo.popHi
 rw [hlo,hhi,List.dropLast_concat,List.dropLast_concat] at hpop
 rw [hlo,hhi] at hsum
 simp at hsum
 rw [e1] at hok ⊢
 refine ⟨((((hb.setCell b2 _).setCell b3 _).setCell b5 _).setCell b4 _).alloc (by simp;exact hb.size) _,by simp;omega,by simp;omega,by simp;omega,by simp;omega,by simp;omega,((((ht.far _ _ d1).far _ _ d2).far _ _ d4).far _ _ d3).al _ (by simpa using z1),hok,hst,hpop.pushLo _ om,?_,?_,?_,?_⟩
 ·rw [Nat.sub_self,List.replicate_zero,List.append_nil];exact ((((c.set l hv).1).far _ _ (Ne.symm d5)).far _ _ (Ne.symm d7)).far _ _ (Ne.symm d6) |>.al q
 ·rw [Nat.sub_self,List.replicate_zero,List.append_nil];exact ((((o.far ⟨gc,l,none⟩ (.int .i64 hv) d5).set l x).1).far _ _ (Ne.symm d9)).far _ _ (Ne.symm d8) |>.al q
 ·rw [Nat.sub_self,List.replicate_zero,List.append_nil];exact ((((g.far ⟨gc,l,none⟩ (.int .i64 hv) d7).far ⟨go,l,none⟩ (.int .i64 x) d9).set x v).1).far _ _ da |>.al q
 exact ((((r.far ⟨gc,l,none⟩ (.int .i64 hv) d6).far ⟨go,l,none⟩ (.int .i64 x) d8).far ⟨gh,x,none⟩ (.int .i64 v) (Ne.symm da)).set lo.length x).1.al q
end
theorem VM {S:Int} {T:AT} (h:T.lo=[]∨T.hi=[]):∀f,YF S f T=T
 | 0=>rfl
 | f+1=>by
  rw [YF]
  rcases h with h|h
  ·rw [h];simp
  rw [h];split<;>simp_all
theorem Wz {S:Int} {T:AT} {lo hi:List Int} {l x:Int} (h1:T.lo=lo++[l]) (h2:T.hi=hi++[x]) (f:Nat):YF S (f+1) T=YF S f (ZM S T l x):=by
 rw [YF,h1,h2]
 simp
theorem VE {L:List Int} {n:Nat} (h:L≠[]) (hm:∀x∈L,0≤x∧x < (n:Int)):∃L' l,L=L'++[((l:Nat):Int)]∧l < n:=by
 have h1:=hm _ (List.getLast_mem h)
 refine ⟨L.dropLast,(L.getLast h).toNat,?_,om⟩
 rw [show (((L.getLast h).toNat:Nat):Int)=L.getLast h by omega]
 exact (List.dropLast_concat_getLast h).symm
theorem Kc {S:Int} {T:AT} {lo hi:List Int} {l x:Nat} (h1:T.lo=lo++[(l:Int)]) (h2:T.hi=hi++[(x:Int)]):
  (T.h.getD x 0 - (S - T.h.getD l 0) < S→(ZM S T l x).lo=lo++[(x:Int)]∧(ZM S T l x).hi=hi)∧(¬T.h.getD x 0 - (S - T.h.getD l 0) < S→(ZM S T l x).lo=lo∧(ZM S T l x).hi=hi++[(x:Int)]):=by
 unfold ZM
 simp only [Int.toNat_natCast]
 refine ⟨fun h=>?_,fun h=>?_⟩
 ·rw [if_pos h,h1,h2];simp
 rw [if_neg h,h1,h2];simp
end
theorem Zia:(prog.info? 310).map (fun i=>(i.zero,i.size,i.bytes))=some (some (.nilIface),1,16):=kr
def OfR (A:Nat→Prop) (p:GP) (w:World):Ending→World→Prop:=fun e w'=>Below w.heap.size w w'∧∃h,e=.returned h∧RH w' (fun b=>A b∨w.heap.size≤b) p h
set_option maxRecDepth 100000
set_option maxHeartbeats 1000000
theorem KA (N:Nat):∀(p:GP) (w:World) (A:Nat→Prop) (m:PA),Zm p≤N→VT p→okP p→RP w A p m →
  Calls prog 270 #[PV p m] w (OfR A p w):=by
 induction N with
 | zero=>intro p;have:=ZS p;intros;omega
 | succ N ih=>
  rintro p w A ⟨ma,mc,mb,md⟩ hN hg ox hr
  obtain ⟨⟨x1,x2⟩,ov,⟨x3,x4⟩,x5,oa⟩:=Y3.1 ox
  obtain ⟨hgn,hga⟩:=Zbk.1 hg
  obtain ⟨hrv,hra⟩:=Wn.1 hr
  obtain ⟨⟨k1,k2⟩,k3,k4,k5,k6⟩:=ZbB hgn
  have IH:=hid ih
  have HG:=hid hga
  have HV:=hid hrv
  have HL:=hid (RPs.mono (A':=fun b=>A b∧b < w.heap.size) (fun b h hb=>⟨h,hb⟩) _ _ hra)
  have O:=hid oa
  have hse:=Wk p
  obtain ⟨j0,hj0,y0,y1,y2⟩:=info_parts Zia
  clear ih hg ox hr hga hrv hra oa ov hgn
  dsimp only at HV HL
  have HK3:=hid k3
  have HK4:=hid k4
  have HK6:=hid k6
  clear k3 k4 k6
  go_enter func270,ntmps270
  go_wp2_with fail
  go_loopg [3,9] (p.a.length) (fun gk t3 i wr=>∃(j:Nat) (hs:List Value) (v:Value),v=t3∧gk+j=p.a.length∧i=.int .i64 j∧Below w.heap.size w wr∧w.heap.size < wr.heap.size∧Hid (At wr w.heap.size 0 [.int .u8 p.k,.int .u8 p.v.k,.int .i64 p.v.n,.slice ma p.v.l.length mc,.int .i64 p.n,.slice mb p.a.length md])∧Hid (hs.length=j)∧Hid (wr.ownsRow (w.heap.size+1) 310 1 v j hs) ∧
   Hid (∀q (h:q < p.a.length) (h':q < hs.length),RH wr (Own w.heap.size A v) p.a[q] hs[q]))
  case atStart=>exact ⟨0,[],_,rfl,om,rfl,ZtX,sm,hid (At6.2 ⟨gs,gs,gs,gs,gs,gs⟩),hid rfl,hid (World.ownsRow_nil _ _ _ _),fun q h h'=>absurd h' sm⟩
  case round=>
   obtain ⟨j,hs,v,rfl,hj,rfl,hb,hz,HP,HH,HO,HQ⟩:=hrel
   by_cases hlt:j < p.a.length
   ·obtain ⟨b,o,mj,rfl,hA,hbs,g0,gx⟩:=HL.out.get j hlt
    obtain ⟨z0,z1,z2,z3,z4,z5⟩:=At6.1 (g0.ext (ZtY hb) (A:=fun _=>True) trivial)
    have hs1:b < wr.heap.size:=om
    have hq1:=Xq p.a j hlt
    clear g0
    go_wp2_with (first
     | (go_at_call 270;refine (IH.out p.a[j] _ (fun b=>A b∧b < w.heap.size) mj om (HG.out.get j hlt) (O.out.get j hlt) (by exact Zub az _ _ gx)).mono ?_;(rintro e w2 ⟨hb2,h,rfl,hrh⟩;have HRH:=hid hrh;obtain ⟨ht,hv,rfl⟩:=Ut hrh;clear hrh;have hz2:=hb2.size;simp at hz2;have hbb:Below wr.heap.size wr w2:=ZtX;have HO2:=hid (ZR HO.out hbb (fun q hq=>(by have:=(HO.out.lt _ hq).2;omega)))))
     | (at_builtin;refine wpList_append_lies _ rfl _ _ 316 rfl (w.heap.size+1) 310 j0 _ 1 16 underlying316 hj0 y0 y1 y2 rfl (by decide) _ j _ (by rfl) (HO2.out.alloc _) ⟨w2.heap.size,0,none⟩ 1 1 [.iface ht hv] (by rfl) rfl (cell_one_new _ _ _) (by simp [Value.oneCell']) (by decide) (by unfold maxLen;omega) om (by simp;omega) (w2.heap.size+1) sm ?_;intro g cap w4 hown hgrow hat hlt1))
    have hbw:Below (w.heap.size+1) w2 w4:=Below.grown ((Below.refl _ _).alloc om _) hgrow (by simp;omega) (fun q e=>(HO2.out.lt _ e).1)
    have hownk:∀k,v.ownBlock=some k→w.heap.size≤k:=fun k e=>by have:=(HO.out.lt _ e).1;omega
    have hownl:∀k,v.ownBlock=some k→k < wr.heap.size:=fun k e=>(HO.out.lt _ e).2
    have hag2:Agree (Own w.heap.size A v) w2 (w2.alloc (.cells #[.iface ht hv] 310)):=ZtY ((Below.refl _ _).alloc (Nat.le_refl _) _)
    go_roundg (gk - 1)
    case measure=>omega
    case rel=>
     refine ⟨j+1,hs++[.iface ht hv],_,rfl,om,by go_num,((hb.trans (hbb.mono om)).trans (hbw.mono om)),by have:=hbw.size;omega,hid ((HP.out.ext (ZtY hbb) (A:=fun b=>True) trivial).ext (A:=fun b=>b=w.heap.size) (fun q u hq hc=>⟨(hbw.cell (p:=q) om).trans hc,hbw.frozen (p:=q) om⟩) rfl),hid (by have:=HH.out;simp;omega),hid hown,?_⟩
     intro q h h'
     by_cases hqj:q < hs.length
     ·rw [List.getElem_append_left hqj]
      exact RH.own hgrow hownk hat sm (RH.ext hag2 _ _ (RH.ext (ZtY hbb) _ _ (HQ.out q h hqj)))
     have hqe:q=j:=by have:=HH.out;simp at h';omega
     subst hqe
     rw [List.getElem_append_right om]
     simp only [HH.out,Nat.sub_self,List.getElem_cons_zero]
     refine RH.own hgrow hownk hat sm (RH.ext hag2 _ _ (RH.mono (fun b h _=>?_) _ _ HRH.out))
     rcases h with ⟨h1,h2⟩|h
     ·exact .inl ⟨h1,h2⟩
     simp at h
     exact .inr ⟨om,fun e=>by have:=hownl b e;omega⟩
   have hjl:j=p.a.length:=om
   have hE:=ZdH (A:=fun b=>A b∨w.heap.size≤b) p.a HO.out hjl (fun b h=>.inr om) (fun q h h'=>RH.mono (fun b hb _=>by rcases hb with ⟨h1,_⟩|⟨h1,_⟩;exact .inl h1;exact .inr h1) _ _ (HQ.out q h h'))
   obtain ⟨av,cv,rfl,hrd⟩:=hE
   have HRD:=hid hrd
   clear hrd
   obtain ⟨z0,z1,z2,z3,z4,z5⟩:=At6.1 HP.out
   rcases (by omega:p.k=1∨p.k=2∨p.k=3∨p.k=4∨p.k=5∨p.k=6∨p.k=7∨p.k=8∨p.k=9∨p.k=10∨p.k=11) with hk|hk|hk|hk|hk|hk|hk|hk|hk|hk|hk
   ·have HK:=hid hk
    go_wp2_with fail
    go_ret
    exact ⟨hb,_,rfl,(ZkM HK.out).2 rfl⟩
   ·have HK:=hid hk
    go_wp2_with fail
    go_ret
    exact ⟨hb,_,rfl,(ZkN HK.out).2 rfl⟩
   ·have HK:=hid hk
    go_wp2_with fail
    go_ret
    exact ⟨hb,_,rfl,(Zj1 HK.out).2 ⟨⟨ma,mc⟩,rfl,ZjM (Zt5 (ZtY hb) _ _ HV.out)⟩⟩
   ·have HK:=hid hk
    go_wp2_with fail
    go_ret
    exact ⟨hb,_,rfl,(Zj2 HK.out).2 ⟨⟨ma,mc⟩,rfl,ZjM (Zt5 (ZtY hb) _ _ HV.out)⟩⟩
   ·have HK:=hid hk
    obtain ⟨hb0,ho0,hx0,rfl,hA0,hs0,hc0,hr0⟩:=HRD.out.get 0 (by have:=HK3.out;omega)
    rw [Nat.add_zero] at hc0
    have HR0:=hid hr0
    obtain ⟨ht0,hv0,rfl⟩:=Ut hr0
    have hpl:p.a.length=1:=by have:=HK3.out;omega
    have HPL:=hid hpl
    have hp1:0 < p.a.length:=om
    clear hr0 hpl
    go_wp2_with fail
    go_ret
    exact ⟨hb,_,rfl,(Zj3 HK.out).2 ⟨_,rfl,(WS HPL.out).2 HR0.out⟩⟩
   ·have HK:=hid hk
    go_wp2_with fail
    go_ret
    exact ⟨hb,_,rfl,(Zj4 HK.out).2 ⟨_,_,rfl,HRD.out⟩⟩
   ·have HK:=hid hk
    go_wp2_with fail
    go_ret
    exact ⟨hb,_,rfl,(Zj5 HK.out).2 ⟨_,_,rfl,HRD.out⟩⟩
   ·have HK:=hid hk
    obtain ⟨hb0,ho0,hx0,rfl,hA0,hs0,hc0,hr0⟩:=HRD.out.get 0 (by have:=HK3.out;omega)
    rw [Nat.add_zero] at hc0
    have HR0:=hid hr0
    obtain ⟨ht0,hv0,rfl⟩:=Ut hr0
    have hpl:p.a.length=1:=by have:=HK3.out;omega
    have HPL:=hid hpl
    have hp1:0 < p.a.length:=om
    clear hr0 hpl
    go_wp2_with fail
    refine Z0 7 kr kr ?_
    simp only [List.take_succ_cons,List.take_zero,List.drop_succ_cons,List.drop_zero]
    repeat still_step
    refine wpStill_nil ?_
    go_wp2_with fail
    go_ret
    exact ⟨ZtX,_,rfl,(Zj6 HK.out).2 ⟨_,rfl,(WS HPL.out).2 (RH.ext (ZtY ((Below.refl _ _).drew)) _ _ HR0.out)⟩⟩
   ·have HK:=hid hk
    obtain ⟨hb0,ho0,hx0,rfl,hA0,hs0,hc0,hr0⟩:=HRD.out.get 0 (by have:=HK3.out;omega)
    rw [Nat.add_zero] at hc0
    have HR0:=hid hr0
    obtain ⟨ht0,hv0,rfl⟩:=Ut hr0
    have hpl:p.a.length=1:=by have:=HK3.out;omega
    have HPL:=hid hpl
    have hp1:0 < p.a.length:=om
    clear hr0 hpl
    go_wp2_with fail
    refine Z0 8 kr kr ?_
    simp only [List.take_succ_cons,List.take_zero,List.drop_succ_cons,List.drop_zero]
    repeat still_step
    refine wpStill_nil ?_
    go_wp2_with fail
    go_ret
    exact ⟨ZtX,_,rfl,(Zj7 HK.out).2 ⟨_,rfl,(WS HPL.out).2 (RH.ext (ZtY ((Below.refl _ _).drew)) _ _ HR0.out)⟩⟩
   ·have HK:=hid hk
    obtain ⟨hb0,ho0,hx0,rfl,hA0,hs0,hc0,hr0⟩:=HRD.out.get 0 (by have:=HK3.out;omega)
    rw [Nat.add_zero] at hc0
    have HR0:=hid hr0
    obtain ⟨ht0,hv0,rfl⟩:=Ut hr0
    have hpl:p.a.length=1:=by have:=HK3.out;omega
    have HPL:=hid hpl
    have hp1:0 < p.a.length:=om
    clear hr0 hpl
    go_wp2_with fail
    refine Z0 8 kr kr ?_
    simp only [List.take_succ_cons,List.take_zero,List.drop_succ_cons,List.drop_zero]
    repeat still_step
    refine wpStill_nil ?_
    go_wp2_with fail
    go_ret
    exact ⟨ZtX,_,rfl,(ZhG HK.out).2 ⟨_,rfl,(WS HPL.out).2 (RH.ext (ZtY ((Below.refl _ _).drew)) _ _ HR0.out)⟩⟩
   have HK:=hid hk
   obtain ⟨hb0,ho0,hx0,rfl,hA0,hs0,hc0,hr0⟩:=HRD.out.get 0 (by have:=HK3.out;omega)
   rw [Nat.add_zero] at hc0
   have HR0:=hid hr0
   obtain ⟨ht0,hv0,rfl⟩:=Ut hr0
   have hpl:p.a.length=1:=by have:=HK3.out;omega
   have HPL:=hid hpl
   have hp1:0 < p.a.length:=om
   clear hr0 hpl
   go_wp2_with fail
   go_ret
   exact ⟨hb,_,rfl,(ZhH HK.out).2 ⟨_,rfl,(WS HPL.out).2 HR0.out⟩⟩
end Go.Proofs.YtkdffbdnjfgpeaaGreat
