/- Part 16. -/
import Derived.Test.YtkdffbdnjfgpeaaGreatY10
import Derived.Test.YtkdffbdnjfgpeaaGreatY13
set_option linter.all false
namespace Go.Proofs.YtkdffbdnjfgpeaaGreat
open Go Go.RowKit
def IRow (e:TypeId) (w:World) (base g cap:Nat) (zs:List Int):Prop:=w.ownsRow base e 1 (.slice (some ⟨g,0,none⟩) zs.length cap) zs.length (zs.map (Value.int .i64))
theorem IRow.lt {e base g cap} {w:World} {zs:List Int} (h:IRow e w base g cap zs):base≤g∧g < w.heap.size:=World.ownsRow.lt h g rfl
theorem IRow.cell {e base g cap} {w:World} {zs:List Int} (h:IRow e w base g cap zs) (j:Nat) (hj:j < zs.length):w.cell? ⟨g,j,none⟩=some (.int .i64 zs[j]):=by
 have:=World.ownsRow.cellAt h j om
 rw [this,List.getElem?_map,List.getElem?_eq_getElem hj];rfl
theorem IRow.frz {e base g cap} {w:World} {zs:List Int} (h:IRow e w base g cap zs):∀j,w.frozen? ⟨g,j,none⟩=false:=World.ownsRow.frozenAt h
theorem IRow.set {e base g cap} {w:World} {zs:List Int} (h:IRow e w base g cap zs) (j:Nat) (x:Int):IRow e (w.setCell ⟨g,j,none⟩ (.int .i64 x)) base g cap (zs.set j x)∧w.grownBy (w.setCell ⟨g,j,none⟩ (.int .i64 x)) (some g):=by
 obtain ⟨h1,h2⟩:=World.ownsRow.stored h j (.int .i64 x)
 refine ⟨?_,h2⟩
 unfold IRow
 rw [List.map_set,List.length_set]
 exact h1
theorem ZhI {w:World} {g:Nat} {A:Nat→Prop} (hA:A g):∀(l:List Int) (o:Nat),(∀j u,(l.map (Value.int .i64))[j]? =some u→w.cell? ⟨g,o+j,none⟩=some u)→RIs w A l (some ⟨g,o,none⟩)
 | [],_,_=>by simp only [RIs]
 | x::l,o,h=>by
  simp only [RIs]
  refine ⟨g,o,rfl,hA,?_,ZhI hA l (o+1) fun j u hj=>?_⟩
  ·simp only [At,and_true];exact h 0 _ sm
  have:=h (j+1) u (by simpa using hj);rw [show o+1+j=o+(j+1) by omega];exact this
theorem IRow.ris {e base g cap} {w:World} {zs:List Int} {A:Nat→Prop} (h:IRow e w base g cap zs) (hA:A g):RIs w A zs (some ⟨g,0,none⟩):=
 ZhI hA zs 0 fun j u hj=>by
  have hl:=(List.getElem?_eq_some_iff.1 hj).1
  rw [List.length_map] at hl
  rw [Nat.zero_add,h.cell j hl]
  simpa [List.getElem?_eq_getElem hl] using hj
theorem IRow.below {e base g cap B} {w w':World} {zs:List Int} (h:IRow e w base g cap zs) (hb:Below B w w') (hB:g < B):IRow e w' base g cap zs:=ZR h hb fun k hk=>by cases hk;exact hB
theorem Vf {w w':World} {c B base e size n:Nat} {v:Value} {xs:List Value} (h:w.ownsRow base e size v n xs) (hb:But c B w w') (hv:∀k,v.ownBlock=some k→k < B∧k≠c):w'.ownsRow base e size v n xs:=by
 obtain ⟨h1,h2⟩:=h
 refine ⟨h1,?_⟩
 rcases h2 with h|⟨g,cap,cur,rfl,hbs,hg,h3⟩
 ·exact .inl h
 exact .inr ⟨g,cap,cur,rfl,hbs,(hb.block g (hv g rfl).1 (hv g rfl).2).trans hg,h3⟩
theorem IRow.but {e base g cap c B} {w w':World} {zs:List Int} (h:IRow e w base g cap zs) (hb:But c B w w') (hB:g < B) (hc:g≠c):IRow e w' base g cap zs:=Vf h hb fun k hk=>by cases hk;exact ⟨hB,hc⟩
theorem IRow.far {e base g cap} {w:World} {zs:List Int} (h:IRow e w base g cap zs) (p:Addr) (v:Value) (hp:p.block≠g):IRow e (w.setCell p v) base g cap zs:=by
 obtain ⟨h1,h2⟩:=h
 refine ⟨h1,?_⟩
 rcases h2 with ⟨h,_⟩|⟨k,cap',cur,hv,hbs,hg,h3⟩
 ·cases h
 cases hv
 exact .inr ⟨_,_,cur,rfl,hbs,(Below.heap_setCell _ _ _ _ (fun e=>hp e.symm)).trans hg,h3⟩
theorem IRow.zero {e base g n} {w:World} (h:w.ownsRow base e 1 (.slice (some ⟨g,0,none⟩) n n) n (madeCells (Value.int .i64 0).cells (n*1)).toList):IRow e w base g n (List.replicate n 0):=by
 simp only [Value.cells,Nat.mul_one,toList_madeCells_one] at h
 unfold IRow
 simpa using h
theorem Qa (n j:Nat) (h:j < n):(Zt j++List.replicate (n - j) (0:Int)).set j (j:Int)=Zt (j+1)++List.replicate (n - (j+1)) 0:=by
 have h1:n - j=(n - (j+1))+1:=om
 rw [h1,List.replicate_succ,List.set_append_right _ _ (by rw [Zs];exact Nat.le_refl _),Zs,Nat.sub_self,List.set_cons_zero]
 simp [Zt,List.range_succ]
theorem ZcY (l:List Int) (i j:Nat) (hi:i < l.length) (hj:j < l.length):JD l i j=(l.set i l[j]).set j l[i]:=by
 unfold JD
 simp [List.getD_eq_getElem?_getD,List.getElem?_eq_getElem hi,List.getElem?_eq_getElem hj]
theorem UN:∀(l:List Int) (k:Nat) (h:k < l.length),JP l→0≤l[k]∧l[k]≤((l.length - k:Nat):Int)
 | j::l,0,_,⟨h1,_⟩=>by simp;omega
 | j::l,k+1,h,⟨_,h2⟩=>by
  have:=UN l k (by simpa using h) h2
  simp only [List.getElem_cons_succ,List.length_cons];omega
theorem JE:∀(l:List Int) (m k:Nat) (h:k < l.length),Zhv m l→0≤l[k]∧l[k]≤((m+k:Nat):Int)
 | j::l,m,0,_,⟨h1,_⟩=>by simp;omega
 | j::l,m,k+1,h,⟨_,h2⟩=>by
  have:=JE l (m+1) k (by simpa using h) h2
  simp only [List.getElem_cons_succ];omega
theorem Zar (l row:List Int) (k:Nat) (h:k < l.length):Y7 (l.drop k) row=Y7 (l.drop (k+1)) (JD row (l.length - k) l[k].toNat):=by
 rw [List.drop_eq_getElem_cons h,Y7,List.length_drop,show l.length - (k+1)+1=l.length - k by omega]
theorem Zas (K:Nat) (l row:List Int) (k i:Nat) (h:k < l.length):XO K (l.drop k) i row=XO K (l.drop (k+1)) (i+1) (if l[k] < K then row.set l[k].toNat (i:Int) else row):=by
 rw [List.drop_eq_getElem_cons h,XO]
theorem IRow.base {e base base' g cap} {w:World} {zs:List Int} (h:IRow e w base g cap zs) (hb:base'≤base):IRow e w base' g cap zs:=by
 obtain ⟨h1,h2⟩:=h
 refine ⟨h1,?_⟩
 rcases h2 with h|⟨k,cap',cur,hv,hbs,h3⟩
 ·exact .inl h
 exact .inr ⟨k,cap',cur,hv,Nat.le_trans hb hbs,h3⟩
theorem QW {w:World} {base e n:Nat} {v:Value} {zs:List Int} (h:w.ownsRow base e 1 v n (zs.map (Value.int .i64))):∃a cp,v=.slice a zs.length cp∧RIs w (fun b=>base≤b) zs a:=by
 have hn:zs.length=n:=by have:=h.1;simpa using this
 rcases h.2 with ⟨rfl,h0⟩|⟨g,cap,cur,rfl,hb,_⟩
 ·have hz:zs=[]:=List.eq_nil_of_length_eq_zero om
  subst hz
  exact ⟨none,0,rfl,by simp only [RIs]⟩
 refine ⟨_,cap,by rw [hn],?_⟩
 have h':IRow e w base g cap zs:=by unfold IRow;rw [hn];exact h
 exact h'.ris hb
structure RoomOk (n:Nat) (R lo hi:List Int):Prop where
 len:R.length=2*n
 sum:lo.length+hi.length≤n
 lo:∀j (h:j < lo.length),R.getD j 0=lo[j]
 hi:∀j (h:j < hi.length),R.getD (n+j) 0=hi[j]
theorem Uw {l:List Int} {i j:Nat} {x:Int}:(l.set i x).getD j 0=if i=j∧j < l.length then x else l.getD j 0:=by
 simp only [List.getD_eq_getElem?_getD,List.getElem?_set]
 split
 ·rename_i h;subst h
  by_cases hl:i < l.length
  ·simp [hl]
  simp [hl]
 rename_i h;simp [h]
theorem RoomOk.pushLo {n:Nat} {R lo hi:List Int} (h:RoomOk n R lo hi) (x:Int) (hl:lo.length+hi.length < n):RoomOk n (R.set lo.length x) (lo++[x]) hi:=by
 refine ⟨by simp [h.len],by simp;omega,fun j hj=>?_,fun j hj=>?_⟩
 ·rw [Uw]
  simp at hj
  by_cases e:lo.length=j
  ·rw [if_pos ⟨e,by rw [h.len];omega⟩];subst e;simp
  rw [if_neg (fun q=>e q.1),List.getElem_append_left om];exact h.lo j om
 rw [Uw,if_neg om];exact h.hi j hj
theorem RoomOk.pushHi {n:Nat} {R lo hi:List Int} (h:RoomOk n R lo hi) (x:Int) (hl:lo.length+hi.length < n):RoomOk n (R.set (n+hi.length) x) lo (hi++[x]):=by
 refine ⟨by simp [h.len],by simp;omega,fun j hj=>?_,fun j hj=>?_⟩
 ·rw [Uw,if_neg (by have:=h.sum;omega)];exact h.lo j hj
 rw [Uw]
 simp at hj
 by_cases e:hi.length=j
 ·rw [if_pos ⟨om,by rw [h.len];omega⟩];subst e;simp
 rw [if_neg om,List.getElem_append_left om];exact h.hi j om
theorem RoomOk.popLo {n:Nat} {R lo hi:List Int} (h:RoomOk n R lo hi):RoomOk n R lo.dropLast hi:=
 ⟨h.len,by simp;have:=h.sum;omega,fun j hj=>by simp at hj;rw [List.getElem_dropLast];exact h.lo j om,h.hi⟩
theorem RoomOk.popHi {n:Nat} {R lo hi:List Int} (h:RoomOk n R lo hi):RoomOk n R lo hi.dropLast:=
 ⟨h.len,by simp;have:=h.sum;omega,h.lo,fun j hj=>by simp at hj;rw [List.getElem_dropLast];exact h.hi j om⟩
structure HtOk (S M:Int) (h lo hi:List Int):Prop where
 nd:(lo++hi).Nodup
 rg:∀x∈lo++hi,0≤x∧x < (h.length:Int)
 lo:∀x∈lo,0≤h.getD x.toNat 0∧h.getD x.toNat 0 < S
 hi:∀x∈hi,S≤h.getD x.toNat 0∧h.getD x.toNat 0≤M
theorem Ug {l:List Int} {i:Nat} {x:Int} (h:i < l.length):(l++[x]).getD i 0=l.getD i 0:=by
 simp only [List.getD_eq_getElem?_getD,List.getElem?_append_left h]
theorem Jc {l:List Int} {x:Int}:(l++[x]).getD l.length 0=x:=sm
theorem HtOk.pushLo {S M:Int} {h lo hi:List Int} (k:HtOk S M h lo hi) (v:Int) (hv:0≤v∧v < S):HtOk S M (h++[v]) (lo++[(h.length:Int)]) hi:=by
 have hn:∀x∈lo++hi,x≠(h.length:Int):=fun x hx=>by have:=k.rg x hx;omega
 refine ⟨?_,fun x hx=>?_,fun x hx=>?_,fun x hx=>?_⟩
 ·rw [List.append_assoc,List.nodup_append]
  have h1:=List.nodup_append.1 k.nd
  refine ⟨h1.1,List.nodup_cons.2 ⟨fun q=>hn _ (List.mem_append_right _ q) rfl,h1.2.1⟩,fun a ha b hb e=>?_⟩
  simp at hb
  rcases hb with rfl|hb
  ·exact hn a (List.mem_append_left _ ha) e
  exact h1.2.2 a ha b hb e
 ·simp at hx
  rcases hx with hx|rfl|hx
  ·have:=k.rg x (List.mem_append_left _ hx);simp;omega
  ·simp;omega
  have:=k.rg x (List.mem_append_right _ hx);simp;omega
 ·simp at hx
  rcases hx with hx|rfl
  ·have h2:=k.rg x (List.mem_append_left _ hx)
   rw [Ug om];exact k.lo x hx
  rw [Int.toNat_natCast,Jc];exact hv
 have h2:=k.rg x (List.mem_append_right _ hx)
 rw [Ug om];exact k.hi x hx
theorem HtOk.pushHi {S M:Int} {h lo hi:List Int} (k:HtOk S M h lo hi) (v:Int) (hv:S≤v∧v≤M):HtOk S M (h++[v]) lo (hi++[(h.length:Int)]):=by
 have hn:∀x∈lo++hi,x≠(h.length:Int):=fun x hx=>by have:=k.rg x hx;omega
 refine ⟨?_,fun x hx=>?_,fun x hx=>?_,fun x hx=>?_⟩
 ·rw [←List.append_assoc,List.nodup_append]
  refine ⟨k.nd,sm,fun a ha b hb e=>?_⟩
  simp at hb
  subst hb
  exact hn a ha e
 ·rw [←List.append_assoc,List.mem_append] at hx
  rcases hx with hx|hx
  ·have:=k.rg x hx;simp;omega
  simp at hx;subst hx;simp;omega
 ·have h2:=k.rg x (List.mem_append_left _ hx)
  rw [Ug om];exact k.lo x hx
 simp at hx
 rcases hx with hx|rfl
 ·have h2:=k.rg x (List.mem_append_right _ hx)
  rw [Ug om];exact k.hi x hx
 rw [Int.toNat_natCast,Jc];exact hv
theorem HtOk.step {S M:Int} {g lo hi:List Int} {l h:Int} (k:HtOk S M g (lo++[l]) (hi++[h])) (v:Int) (hv:v=g.getD h.toNat 0 - (S - g.getD l.toNat 0)):
  (0≤v∧v≤M)∧(v < S→HtOk S M (g.set h.toNat v) (lo++[h]) hi)∧(S≤v→HtOk S M (g.set h.toNat v) lo (hi++[h])):=by
 have hl:=k.lo l sm
 have hh:=k.hi h sm
 have hr:=k.rg h sm
 have hvb:0≤v∧v≤M:=om
 have hnd:=k.nd
 have hnd1:=List.nodup_append.1 hnd
 have hndl:=List.nodup_append.1 hnd1.1
 have hndh:=List.nodup_append.1 hnd1.2.1
 have hhlo:∀x∈lo,x≠h:=fun x hx e=>hnd1.2.2 x (by simp [hx]) h sm e
 have hhhi:∀x∈hi,x≠h:=fun x hx e=>hndh.2.2 x hx h sm e
 have hlohi:∀x∈lo,∀y∈hi,x≠y:=fun x hx y hy e=>hnd1.2.2 x (by simp [hx]) y (by simp [hy]) e
 have hrlo:∀x∈lo,0≤x∧x < (g.length:Int):=fun x hx=>k.rg x (by simp [hx])
 have hrhi:∀x∈hi,0≤x∧x < (g.length:Int):=fun x hx=>k.rg x (by simp [hx])
 have hset:∀x,0≤x→x≠h→(g.set h.toNat v).getD x.toNat 0=g.getD x.toNat 0:=fun x hx e=>by rw [Uw,if_neg om]
 have hsame:(g.set h.toNat v).getD h.toNat 0=v:=by rw [Uw,if_pos ⟨rfl,om⟩]
 refine ⟨hvb,fun hS=>⟨?_,fun x hx=>?_,fun x hx=>?_,fun x hx=>?_⟩,fun hS=>⟨?_,fun x hx=>?_,fun x hx=>?_,fun x hx=>?_⟩⟩
 ·rw [List.append_assoc,List.nodup_append]
  refine ⟨hndl.1,List.nodup_cons.2 ⟨fun q=>hhhi _ q rfl,hndh.1⟩,fun a ha b hb e=>?_⟩
  simp at hb
  rcases hb with rfl|hb
  ·exact hhlo a ha e
  exact hlohi a ha b hb e
 ·simp at hx
  rw [List.length_set]
  rcases hx with hx|rfl|hx
  ·exact hrlo x hx
  ·exact hr
  exact hrhi x hx
 ·simp at hx
  rcases hx with hx|rfl
  ·rw [hset x (hrlo x hx).1 (hhlo x hx)];exact k.lo x (by simp [hx])
  rw [hsame];omega
 ·rw [hset x (hrhi x hx).1 (hhhi x hx)];exact k.hi x (by simp [hx])
 ·rw [←List.append_assoc,List.nodup_append]
  refine ⟨List.nodup_append.2 ⟨hndl.1,hndh.1,hlohi⟩,sm,fun a ha b hb e=>?_⟩
  simp at hb
  subst hb
  rcases List.mem_append.1 ha with ha|ha
  ·exact hhlo a ha e
  exact hhhi a ha e
 ·rw [List.length_set]
  rw [←List.append_assoc,List.mem_append] at hx
  rcases hx with hx|hx
  ·rcases List.mem_append.1 hx with hx|hx
   ·exact hrlo x hx
   exact hrhi x hx
  simp at hx;subst hx;exact hr
 ·rw [hset x (hrlo x hx).1 (hhlo x hx)];exact k.lo x (by simp [hx])
 simp at hx
 rcases hx with hx|rfl
 ·rw [hset x (hrhi x hx).1 (hhhi x hx)];exact k.hi x (by simp [hx])
 rw [hsame];omega
theorem Zb8 {P:Program} (w:World) (t ty e:TypeId) (i:TypeInfo) (ht:P.underlying t=some (.slice e)) (hi:P.info? e=some i) (h4:i.size=1) (g o sLen sCap:Nat) (a:Addr) (c:Nat) (v:Value)
  (hv:w.cell? a=some v) (h1:v.oneCell'=true) (hroom:sLen+1≤sCap) (hc:(w.cell? ⟨g,o+sLen,none⟩).isSome=true) (hf:w.frozen? ⟨g,o+sLen,none⟩=false):
  (Builtin.append_ #[t,t] ty #[.slice (some ⟨g,o,none⟩) sLen sCap,.slice (some a) 1 c]).run P w=.ok (.slice (some ⟨g,o,none⟩) (sLen+1) sCap) (w.setCell ⟨g,o+sLen,none⟩ v):=by
 have hf2:=run_firstCells_some (P:=P) w i.size 1 a 1 c [v] (by rw [h4];rfl) (fun j u hj=>by
  cases j with
  | zero=>simp at hj;subst hj;rw [show a.add 0=a from by simp [Addr.add]];exact hv
  | succ j=>simp at hj)
 rw [h4] at hf2
 have hst:=run_storeCells_cells (P:=P) g (o+sLen) [v] 0 w (fun j hj=>by simp at hj;subst hj;simpa using hc) (fun j hj=>by simp at hj;subst hj;simpa using hf) (by simpa using h1)
 simp only [Nat.add_zero,World.setCells] at hst
 simp [Builtin.append_,run_underlying ht,sizeOf,typeInfo,hi,Builtin.lenOf,hroom,hf2,Addr.add_lit,h4,hst]
theorem Wb {P:Program} {w:World} {ops:Array Oper} {rest:List Oper} {o:Oper} {a:Act} {Q:Exit→Act→World→Prop} (hgd:o.guard=none) (s x:Operand) (t:TypeId)
  (hop:o.op=Op.call { callee:=Callee.builtin Builtin.append,args:=#[s,x],argTypes:=#[t,t] }) (e:TypeId) (i:TypeInfo) (ht:P.underlying t=some (.slice e)) (hi:P.info? e=some i) (h4:i.size=1)
  (g off sLen sCap:Nat) (hs:a.eval s=.slice (some ⟨g,off,none⟩) sLen sCap) (ad:Addr) (c:Nat) (hx:a.eval x=.slice (some ad) 1 c) (v:Value)
  (hv:w.cell? ad=some v) (h1:v.oneCell'=true) (hroom:sLen+1≤sCap) (hc:(w.cell? ⟨g,off+sLen,none⟩).isSome=true) (hf:w.frozen? ⟨g,off+sLen,none⟩=false)
  (hK:wpList P ops Q rest (a.put o.dst (.slice (some ⟨g,off,none⟩) (sLen+1) sCap)) (w.setCell ⟨g,off+sLen,none⟩ v)):wpList P ops Q (o::rest) a w:=by
 refine wpList_plain hgd fun K hK'=>?_
 have hrun:=Zb8 (P:=P) w t o.type e i ht hi h4 g off sLen sCap ad c v hv h1 hroom hc hf
 unfold Oper.wp
 simp [execOp,hop,resolve,invoke,builtin,hs,hx,hrun,Result.andThen]
 exact hK' _ _ hK
mutual
def VT:GP→Prop
 | ⟨k,v,n,l⟩=>XC ⟨k,v,n,l⟩=0∧goodPs l
def goodPs:List GP→Prop
 | []=>True
 | x::l=>VT x∧goodPs l
end
theorem Zbk {p:GP}:VT p↔XC p=0∧goodPs p.a:=by cases p;simp only [VT]
theorem goodPs.get:∀{l:List GP},goodPs l→∀i (h:i < l.length),VT l[i]
 | [],_,i,h=>absurd h sm
 | x::l,hx,0,_=>by simp only [goodPs] at hx;exact hx.1
 | x::l,hx,i+1,h=>by simp only [goodPs] at hx;exact goodPs.get hx.2 i (by simpa using h)
mutual
theorem Jd:∀(p:GP) (pl d:Int),(XF pl d p).2=0→VT p
 | ⟨k,v,n,l⟩,pl,d,h=>by
  simp only [XF] at h
  simp only [VT]
  split at h
  ·simp at h
  split at h
  ·rename_i h1;exact absurd h h1
  rename_i h1;exact ⟨by simpa using h1,Ke l _ _ h⟩
theorem Ke:∀(l:List GP) (pl d:Int),(Yj pl d l).2=0→goodPs l
 | [],_,_,_=>by simp only [goodPs]
 | x::l,pl,d,h=>by
  simp only [Yj] at h
  simp only [goodPs]
  split at h
  ·rename_i h1;exact absurd h h1
  rename_i h1;exact ⟨Jd x _ _ (by simpa using h1),Ke l _ _ h⟩
end
theorem Je {p:GP} (h:Xo p=true):VT p:=by
 unfold Xo Zw at h
 split at h
 ·rename_i h1;simp at h;exact absurd h h1
 rename_i h1;exact Jd p 0 1 (by simpa using h1)
theorem ZbB {p:GP} (h:XC p=0):(1≤p.k∧p.k≤11)∧(p.k=5∨8≤p.k→p.a.length=1)∧(p.k=8→0≤p.n∧p.n≤64)∧(p.k=6∨p.k=7→p.a.length≤64)∧(p.k≤4→p.a.length=0):=by
 unfold XC at h
 split at h
 ·simp at h
 rename_i hk
 have hr:VF p=0:=by
  split at h
  ·split at h
   ·rename_i h1;exact absurd h h1
   exact h
  split at h
  ·exact h
  simp at h
 unfold VF UY Jw Jy at hr
 refine ⟨om,fun h5=>?_,fun h8=>?_,fun h6=>?_,fun h4=>?_⟩
 all_goals (repeat' split at hr)<;>omega
mutual
def RH (w:World) (A:Nat→Prop):GP→Value→Prop
 | ⟨k,u,n,l⟩,h=>
  if k=1∨k=2 then h=.iface 317 (.bool (k==1))
  else if k=3∨k=4 then ∃m:VA,h=.iface 319 (.agg #[.int .u8 u.k,.int .i64 u.n,.slice m.a u.l.length m.c,.bool (k==4)])∧RV w A u m.a
  else if k=5 then ∃x,h=.iface 321 (.agg #[x])∧RH1 w A l x
  else if k=6∨k=7 then ∃a c,h=.iface 323 (.agg #[.slice a l.length c,.bool (k==7)])∧RHs w A l a
  else if k=8 then ∃x,h=.iface 325 (.agg #[.int .i64 n,x])∧RH1 w A l x
  else if k=9∨k=10 then ∃x,h=.iface 327 (.agg #[x,.bool (k==10)])∧RH1 w A l x
  else ∃x,h=.iface 328 (.agg #[x])∧RH1 w A l x
def RH1 (w:World) (A:Nat→Prop):List GP→Value→Prop
 | [],_=>False
 | p::_,h=>RH w A p h
def RHs (w:World) (A:Nat→Prop):List GP→Option Addr→Prop
 | [],_=>True
 | p::l,a=>∃b o h,a=some ⟨b,o,none⟩∧A b∧w.cell? ⟨b,o,none⟩=some h∧RH w A p h∧RHs w A l (some ⟨b,o+1,none⟩)
end
mutual
theorem RH.ext {w w':World} {A:Nat→Prop} (h:Agree A w w'):∀(p:GP) x,RH w A p x→RH w' A p x
 | ⟨k,u,n,l⟩,x,hx=>by
  simp only [RH] at hx ⊢
  split
  ·rename_i h1;rw [if_pos h1] at hx;exact hx
  rename_i h1;rw [if_neg h1] at hx
  split
  ·rename_i h2;rw [if_pos h2] at hx;obtain ⟨m,e,hr⟩:=hx;exact ⟨m,e,Zt5 h u _ hr⟩
  rename_i h2;rw [if_neg h2] at hx
  split
  ·rename_i h3;rw [if_pos h3] at hx;obtain ⟨y,e,hr⟩:=hx;exact ⟨y,e,RH1.ext h l _ hr⟩
  rename_i h3;rw [if_neg h3] at hx
  split
  ·rename_i h4;rw [if_pos h4] at hx;obtain ⟨a,c,e,hr⟩:=hx;exact ⟨a,c,e,RHs.ext h l _ hr⟩
  rename_i h4;rw [if_neg h4] at hx
  split
  ·rename_i h5;rw [if_pos h5] at hx;obtain ⟨y,e,hr⟩:=hx;exact ⟨y,e,RH1.ext h l _ hr⟩
  rename_i h5;rw [if_neg h5] at hx
  split
  ·rename_i h6;rw [if_pos h6] at hx;obtain ⟨y,e,hr⟩:=hx;exact ⟨y,e,RH1.ext h l _ hr⟩
  rename_i h6;rw [if_neg h6] at hx
  obtain ⟨y,e,hr⟩:=hx;exact ⟨y,e,RH1.ext h l _ hr⟩
theorem RH1.ext {w w':World} {A:Nat→Prop} (h:Agree A w w'):∀(l:List GP) x,RH1 w A l x→RH1 w' A l x
 | [],_,hx=>by simp only [RH1] at hx
 | p::l,x,hx=>by simp only [RH1] at hx ⊢;exact RH.ext h p x hx
theorem RHs.ext {w w':World} {A:Nat→Prop} (h:Agree A w w'):∀(l:List GP) a,RHs w A l a→RHs w' A l a
 | [],_,_=>by simp only [RHs]
 | p::l,a,hx=>by
  simp only [RHs] at hx ⊢
  obtain ⟨b,o,x,e,hA,hc,hr,hl⟩:=hx
  exact ⟨b,o,x,e,hA,(h _ _ hA hc).1,RH.ext h p x hr,RHs.ext h l _ hl⟩
end
mutual
theorem RH.mono {w:World} {A A':Nat→Prop} (h:∀b,A b→b < w.heap.size→A' b):∀(p:GP) x,RH w A p x→RH w A' p x
 | ⟨k,u,n,l⟩,x,hx=>by
  simp only [RH] at hx ⊢
  split
  ·rename_i h1;rw [if_pos h1] at hx;exact hx
  rename_i h1;rw [if_neg h1] at hx
  split
  ·rename_i h2;rw [if_pos h2] at hx;obtain ⟨m,e,hr⟩:=hx;exact ⟨m,e,Zt9 h u _ hr⟩
  rename_i h2;rw [if_neg h2] at hx
  split
  ·rename_i h3;rw [if_pos h3] at hx;obtain ⟨y,e,hr⟩:=hx;exact ⟨y,e,RH1.mono h l _ hr⟩
  rename_i h3;rw [if_neg h3] at hx
  split
  ·rename_i h4;rw [if_pos h4] at hx;obtain ⟨a,c,e,hr⟩:=hx;exact ⟨a,c,e,RHs.mono h l _ hr⟩
  rename_i h4;rw [if_neg h4] at hx
  split
  ·rename_i h5;rw [if_pos h5] at hx;obtain ⟨y,e,hr⟩:=hx;exact ⟨y,e,RH1.mono h l _ hr⟩
  rename_i h5;rw [if_neg h5] at hx
  split
  ·rename_i h6;rw [if_pos h6] at hx;obtain ⟨y,e,hr⟩:=hx;exact ⟨y,e,RH1.mono h l _ hr⟩
  rename_i h6;rw [if_neg h6] at hx
  obtain ⟨y,e,hr⟩:=hx;exact ⟨y,e,RH1.mono h l _ hr⟩
theorem RH1.mono {w:World} {A A':Nat→Prop} (h:∀b,A b→b < w.heap.size→A' b):∀(l:List GP) x,RH1 w A l x→RH1 w A' l x
 | [],_,hx=>by simp only [RH1] at hx
 | p::l,x,hx=>by simp only [RH1] at hx ⊢;exact RH.mono h p x hx
theorem RHs.mono {w:World} {A A':Nat→Prop} (h:∀b,A b→b < w.heap.size→A' b):∀(l:List GP) a,RHs w A l a→RHs w A' l a
 | [],_,_=>by simp only [RHs]
 | p::l,a,hx=>by
  simp only [RHs] at hx ⊢
  obtain ⟨b,o,x,e,hA,hc,hr,hl⟩:=hx
  exact ⟨b,o,x,e,h _ hA (World.block_lt_of_cell? _ _ hc),hc,RH.mono h p x hr,RHs.mono h l _ hl⟩
end
theorem RHs.get {w A}:∀{l:List GP} {a},RHs w A l a→∀i (h:i < l.length),∃b o x,a=some ⟨b,o,none⟩∧A b∧b < w.heap.size∧w.cell? ⟨b,o+i,none⟩=some x∧RH w A l[i] x
 | [],_,_,i,h=>absurd h sm
 | x::l,a,h,i,hi=>by
  simp only [RHs] at h
  obtain ⟨b,o,y,rfl,hA,h0,hx,hl⟩:=h
  have hb:b < w.heap.size:=World.block_lt_of_cell? _ _ h0
  cases i with
  | zero=>exact ⟨b,o,y,rfl,hA,hb,h0,hx⟩
  | succ i=>
   obtain ⟨b',o',m',e,hA',hb',g0,gx⟩:=hl.get i (by simpa using hi)
   simp at e
   obtain ⟨rfl,rfl⟩:=e
   exact ⟨b,o,m',rfl,hA,hb,by rw [show o+(i+1)=o+1+i from om];exact g0,gx⟩
theorem WS {w A} {l:List GP} {x} (h:l.length=1):RH1 w A l x↔RH w A (l[0]'om) x:=by
 cases l with
 | nil=>simp at h
 | cons p l=>simp only [RH1,List.getElem_cons_zero]
theorem Ut {w A} {p:GP} {h} (hx:RH w A p h):∃t v,h=.iface t v:=by
 obtain ⟨k,u,n,l⟩:=p
 simp only [RH] at hx
 (repeat' split at hx)
 ·exact ⟨_,_,hx⟩
 ·obtain ⟨m,e,_⟩:=hx;exact ⟨_,_,e⟩
 ·obtain ⟨m,e,_⟩:=hx;exact ⟨_,_,e⟩
 ·obtain ⟨m,_,e,_⟩:=hx;exact ⟨_,_,e⟩
 ·obtain ⟨m,e,_⟩:=hx;exact ⟨_,_,e⟩
 ·obtain ⟨m,e,_⟩:=hx;exact ⟨_,_,e⟩
 obtain ⟨m,e,_⟩:=hx;exact ⟨_,_,e⟩
theorem KU {w:World} {g:Nat} {A:Nat→Prop} (hA:A g):∀(l:List GP) (hs:List Value) (o:Nat) (e:hs.length=l.length),(∀j (h:j < hs.length),w.cell? ⟨g,o+j,none⟩=some hs[j])→(∀j (h:j < l.length),RH w A l[j] (hs[j]'om))→RHs w A l (some ⟨g,o,none⟩)
 | [],_,_,_,_,_=>by simp only [RHs]
 | p::l,[],_,e,_,_=>by simp at e
 | p::l,x::hs,o,e,hc,hr=>by
  simp only [RHs]
  refine ⟨g,o,x,rfl,hA,hc 0 sm,hr 0 sm,KU hA l hs (o+1) (by simpa using e) (fun j h=>?_) fun j h=>?_⟩
  ·have:=hc (j+1) (by simpa using h)
   rw [show o+1+j=o+(j+1) by omega];simpa using this
  have:=hr (j+1) (by simpa using h)
  simpa using this
theorem ZdH {w:World} {base e n:Nat} {v:Value} {hs:List Value} {A:Nat→Prop} (l:List GP) (h:w.ownsRow base e 1 v n hs) (hl:n=l.length) (hA:∀b,base≤b→A b) (hr:∀j (h:j < l.length) (h':j < hs.length),RH w A l[j] hs[j]):∃a c,v=.slice a l.length c∧RHs w A l a:=by
 subst hl
 have hn:hs.length=l.length:=by have:=h.1;omega
 rcases h.2 with ⟨rfl,h0⟩|⟨g,cap,cur,rfl,hb,h3⟩
 ·have hz:l=[]:=List.eq_nil_of_length_eq_zero h0
  subst hz
  exact ⟨none,0,rfl,by simp only [RHs]⟩
 refine ⟨_,cap,rfl,KU (hA _ hb) l hs 0 hn (fun j hj=>?_) fun j hj=>hr j hj _⟩
 rw [Nat.zero_add,h.cellAt j om,List.getElem?_eq_getElem hj]
theorem RH.own {B:Nat} {A:Nat→Prop} {v:Value} {W w4:World} {g H n cap:Nat} (hgrow:W.grownBy w4 v.ownBlock) (hown:∀k,v.ownBlock=some k→B≤k) (hat:v.ownBlock=some g∨g=H) (hH:W.heap.size=H) {x:GP} {h:Value}
  (hx:RH W (Own B A v) x h):RH w4 (Own B A (.slice (some ⟨g,0,none⟩) n cap)) x h:=
 RH.mono (fun b h _=>ZbC hat hH b h) _ _ (RH.ext (JX hgrow hown) _ _ (RH.mono (fun b h hb=>⟨h,hb⟩) _ _ hx))
theorem Qh {w:World} {A:Nat→Prop} {p:GP} {h:Value}:RH w A p h ↔
  (if p.k=1∨p.k=2 then h=.iface 317 (.bool (p.k==1))
  else if p.k=3∨p.k=4 then ∃m:VA,h=.iface 319 (.agg #[.int .u8 p.v.k,.int .i64 p.v.n,.slice m.a p.v.l.length m.c,.bool (p.k==4)])∧RV w A p.v m.a
  else if p.k=5 then ∃x,h=.iface 321 (.agg #[x])∧RH1 w A p.a x
  else if p.k=6∨p.k=7 then ∃a c,h=.iface 323 (.agg #[.slice a p.a.length c,.bool (p.k==7)])∧RHs w A p.a a
  else if p.k=8 then ∃x,h=.iface 325 (.agg #[.int .i64 p.n,x])∧RH1 w A p.a x
  else if p.k=9∨p.k=10 then ∃x,h=.iface 327 (.agg #[x,.bool (p.k==10)])∧RH1 w A p.a x
  else ∃x,h=.iface 328 (.agg #[x])∧RH1 w A p.a x):=by cases p;simp only [RH]
theorem ZkM {w:World} {A:Nat→Prop} {p:GP} {x:Value} (h:p.k=1):RH w A p x↔x=.iface 317 (.bool true):=by
 rw [Qh,if_pos (show (p.k=1∨p.k=2) by omega)]
 try simp [h]
theorem ZkN {w:World} {A:Nat→Prop} {p:GP} {x:Value} (h:p.k=2):RH w A p x↔x=.iface 317 (.bool false):=by
 rw [Qh,if_pos (show (p.k=1∨p.k=2) by omega)]
 try simp [h]
theorem qf2 {p:Prop} (h:p:=by
 rw [Qh,if_neg (show ¬(p.k=1∨p.k=2) by omega),if_pos (show (p.k=3∨p.k=4) by omega)]
 try simp [h]):p:=h
theorem Zj1 {w:World} {A:Nat→Prop} {p:GP} {x:Value} (h:p.k=3):RH w A p x↔∃m:VA,x=.iface 319 (.agg #[.int .u8 p.v.k,.int .i64 p.v.n,.slice m.a p.v.l.length m.c,.bool false])∧RV w A p.v m.a:=by
 exact qf2
theorem Zj2 {w:World} {A:Nat→Prop} {p:GP} {x:Value} (h:p.k=4):RH w A p x↔∃m:VA,x=.iface 319 (.agg #[.int .u8 p.v.k,.int .i64 p.v.n,.slice m.a p.v.l.length m.c,.bool true])∧RV w A p.v m.a:=by
 exact qf2
theorem Zj3 {w:World} {A:Nat→Prop} {p:GP} {x:Value} (h:p.k=5):RH w A p x↔∃y,x=.iface 321 (.agg #[y])∧RH1 w A p.a y:=by
 rw [Qh,if_neg (show ¬(p.k=1∨p.k=2) by omega),if_neg (show ¬(p.k=3∨p.k=4) by omega),if_pos (show p.k=5 by omega)]
 try simp [h]
theorem qf1 {p:Prop} (h:p:=by
 rw [Qh,if_neg (show ¬(p.k=1∨p.k=2) by omega),if_neg (show ¬(p.k=3∨p.k=4) by omega),if_neg (show ¬p.k=5 by omega),if_pos (show (p.k=6∨p.k=7) by omega)]
 try simp [h]):p:=h
theorem Zj4 {w:World} {A:Nat→Prop} {p:GP} {x:Value} (h:p.k=6):RH w A p x↔∃a c,x=.iface 323 (.agg #[.slice a p.a.length c,.bool false])∧RHs w A p.a a:=by
 exact qf1
theorem Zj5 {w:World} {A:Nat→Prop} {p:GP} {x:Value} (h:p.k=7):RH w A p x↔∃a c,x=.iface 323 (.agg #[.slice a p.a.length c,.bool true])∧RHs w A p.a a:=by
 exact qf1
theorem Zj6 {w:World} {A:Nat→Prop} {p:GP} {x:Value} (h:p.k=8):RH w A p x↔∃y,x=.iface 325 (.agg #[.int .i64 p.n,y])∧RH1 w A p.a y:=by
 rw [Qh,if_neg (show ¬(p.k=1∨p.k=2) by omega),if_neg (show ¬(p.k=3∨p.k=4) by omega),if_neg (show ¬p.k=5 by omega),if_neg (show ¬(p.k=6∨p.k=7) by omega),if_pos (show p.k=8 by omega)]
 try simp [h]
theorem qf0 {p:Prop} (h:p:=by
 rw [Qh,if_neg (show ¬(p.k=1∨p.k=2) by omega),if_neg (show ¬(p.k=3∨p.k=4) by omega),if_neg (show ¬p.k=5 by omega),if_neg (show ¬(p.k=6∨p.k=7) by omega),if_neg (show ¬p.k=8 by omega),if_pos (show (p.k=9∨p.k=10) by omega)]
 try simp [h]):p:=h
theorem Zj7 {w:World} {A:Nat→Prop} {p:GP} {x:Value} (h:p.k=9):RH w A p x↔∃y,x=.iface 327 (.agg #[y,.bool false])∧RH1 w A p.a y:=by
 exact qf0
theorem ZhG {w:World} {A:Nat→Prop} {p:GP} {x:Value} (h:p.k=10):RH w A p x↔∃y,x=.iface 327 (.agg #[y,.bool true])∧RH1 w A p.a y:=by
 exact qf0
theorem ZhH {w:World} {A:Nat→Prop} {p:GP} {x:Value} (h:p.k=11):RH w A p x↔∃y,x=.iface 328 (.agg #[y])∧RH1 w A p.a y:=by
 rw [Qh,if_neg (show ¬(p.k=1∨p.k=2) by omega),if_neg (show ¬(p.k=3∨p.k=4) by omega),if_neg (show ¬p.k=5 by omega),if_neg (show ¬(p.k=6∨p.k=7) by omega),if_neg (show ¬p.k=8 by omega),if_neg (show ¬(p.k=9∨p.k=10) by omega)]
 try simp [h]
theorem ZjM {w:World} {A C:Nat→Prop} {x:GV} {a} (h:RV w A x a):RV w (fun b=>A b∨C b) x a:=Zt9 (fun _ h _=>.inl h) _ _ h
end Go.Proofs.YtkdffbdnjfgpeaaGreat
