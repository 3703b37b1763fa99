/- Part 54. -/
import Derived.Test.YtkdffbdnjfgpeaaGreatY16
import Derived.Test.YtkdffbdnjfgpeaaGreatYTk
set_option linter.all false
namespace Go.Proofs.YtkdffbdnjfgpeaaGreat
open Go.Lib (hid)
open Go Go.RowKit Go.Proofs.Tryz
def ZhE (w:World) (A:Nat→Prop) (x:GT) (e:Ending) (w':World):Prop:=Below w.heap.size w w'∧∃m:TA,e=.returned (TV x m)∧RT w' (fun b=>A b∨w.heap.size≤b) x m
structure PutM (n:Nat) (t s:GT) (m q:TA) (v:Value) (W:World):Prop where
 sz:n+4≤W.heap.size
 a:At W n 0 [.int .u8 t.k,.int .u8 t.v.k,.int .i64 t.v.n,.slice m.va t.v.l.length m.vc,.slice m.vsa t.vs.length m.vsc,.int .i64 t.lo,.int .i64 t.hi,.slice m.wa t.w.length m.wc,.int .u8 t.p.k,.int .u8 t.p.v.k,.int .i64 t.p.v.n,.slice m.pva t.p.v.l.length m.pvc,.int .i64 t.p.n,.slice m.pa t.p.a.length m.pc,.slice m.a t.a.length m.c]
 b:At W (n+1) 0 [.int .u8 s.k,.int .u8 s.v.k,.int .i64 s.v.n,.slice q.va s.v.l.length q.vc,.slice q.vsa s.vs.length q.vsc,.int .i64 s.lo,.int .i64 s.hi,.slice q.wa s.w.length q.wc,.int .u8 s.p.k,.int .u8 s.p.v.k,.int .i64 s.p.v.n,.slice q.pva s.p.v.l.length q.pvc,.int .i64 s.p.n,.slice q.pa s.p.a.length q.pc,.slice q.a s.a.length q.c]
 c:At W (n+1+1) 0 [.int .u8 0,.int .u8 0,.int .i64 0,.slice none 0 0,.slice none 0 0,.int .i64 0,.int .i64 0,.slice none 0 0,.int .u8 0,.int .u8 0,.int .i64 0,.slice none 0 0,.int .i64 0,.slice none 0 0,.slice none 0 0]
 cf:∀k,W.frozen? ⟨n+1+1,k,none⟩=false
 d:At W (n+1+1+1) 0 [.int .u8 t.k,.int .u8 t.v.k,.int .i64 t.v.n,.slice m.va t.v.l.length m.vc,.slice m.vsa t.vs.length m.vsc,.int .i64 t.lo,.int .i64 t.hi,.slice m.wa t.w.length m.wc,.int .u8 t.p.k,.int .u8 t.p.v.k,.int .i64 t.p.v.n,.slice m.pva t.p.v.l.length m.pvc,.int .i64 t.p.n,.slice m.pa t.p.a.length m.pc,v]
 df:∀k,W.frozen? ⟨n+1+1+1,k,none⟩=false
theorem At.eq {w w':World} {b:Nat} (h:∀o,w'.cell? ⟨b,o,none⟩=w.cell? ⟨b,o,none⟩):∀(l:List Value) (o:Nat),At w b o l→At w' b o l
 | [],_,_=>by simp only [At]
 | v::l,o,hx=>by
  simp only [At] at hx ⊢
  exact ⟨(h o).trans hx.1,At.eq h l _ hx.2⟩
theorem PutM.ext {n:Nat} {t s:GT} {m q:TA} {v:Value} {W W':World} (h:PutM n t s m q v W) (hs:W.heap.size≤W'.heap.size) (hc:∀c o,c < n+4→W'.cell? ⟨c,o,none⟩=W.cell? ⟨c,o,none⟩) (hf:∀c o,c < n+4→W'.frozen? ⟨c,o,none⟩=W.frozen? ⟨c,o,none⟩):PutM n t s m q v W':=
 ⟨Nat.le_trans h.sz hs,At.eq (fun o=>hc _ o om) _ _ h.a,At.eq (fun o=>hc _ o om) _ _ h.b,At.eq (fun o=>hc _ o om) _ _ h.c,fun k=>(hf _ k om).trans (h.cf k),At.eq (fun o=>hc _ o om) _ _ h.d,fun k=>(hf _ k om).trans (h.df k)⟩
theorem At.but {c B:Nat} {w w':World} (h:But c B w w') {b:Nat} (hb:b < B) (hne:b≠c) (l:List Value) (o:Nat) (hx:At w b o l):At w' b o l:=At.eq (fun o=>h.cell (p:=⟨b,o,none⟩) hb hne) l o hx
theorem PutM.set {n:Nat} {t s:GT} {m q:TA} {v:Value} {W:World} (h:PutM n t s m q v W) (u:Value):PutM n t s m q u (W.setCell ⟨n+1+1+1,14,none⟩ u):=by
 have hb:But (n+1+1+1) W.heap.size W (W.setCell ⟨n+1+1+1,14,none⟩ u):=But.setOwn (But.refl _ _ _) _ _
 have hz:=h.sz
 obtain ⟨d0,d1,d2,d3,d4,d5,d6,d7,d8,d9,da,db,dc,dd,de⟩:=ZO.1 h.d
 refine ⟨Nat.le_trans hz hb.size,At.but hb om om _ _ h.a,At.but hb om om _ _ h.b,At.but hb om om _ _ h.c,fun k=>(hb.frozen (p:=⟨_,k,none⟩) (by simp;omega) sm).trans (h.cf k),ZO.2 ⟨?_,?_,?_,?_,?_,?_,?_,?_,?_,?_,?_,?_,?_,?_,?_⟩,fun k=>?_⟩
 all_goals first|(go_simp;done)|(have:=h.df k;go_simp)
theorem X4 {W w4:World} {r:Option Nat} {B:Nat} (hg:W.grownBy w4 r) (ho:∀k,r=some k→B≤k) (hB:B≤W.heap.size):
  (∀c o,c < B→w4.cell? ⟨c,o,none⟩=W.cell? ⟨c,o,none⟩)∧(∀c o,c < B→w4.frozen? ⟨c,o,none⟩=W.frozen? ⟨c,o,none⟩):=
 ⟨fun c o hc=>hg.cell_far ⟨c,o,none⟩ (Nat.lt_of_lt_of_le hc hB) (fun e=>by have:=ho c e.symm;omega),fun c o hc=>hg.frozen_far ⟨c,o,none⟩ (Nat.lt_of_lt_of_le hc hB) (fun e=>by have:=ho c e.symm;omega)⟩
theorem XI {W:World} {n:Nat} (hn:W.heap.size=n) (a b c d e f g h i j k l m o p:Value) (t:TypeId):∀r u,[a,b,c,d,e,f,g,h,i,j,k,l,m,o,p][r]? =some u→(W.alloc (.cells #[a,b,c,d,e,f,g,h,i,j,k,l,m,o,p] t)).cell? ((⟨n,0,none⟩:Addr).add r)=some u:=by
 subst hn
 exact fun r u hu=>World.news_of_block (heap_alloc_new W _) r u (by simpa using hu)
theorem Zix {B n:Nat} {A:Nat→Prop} {v:Value} {W w4:World} {g cap j H:Nat} {ps:List (GT×TA)} {x:GT} {m:TA} (hn:n < B) (hgrow:W.grownBy w4 v.ownBlock) (hown:∀k,v.ownBlock=some k→B≤k) (hat:v.ownBlock=some g∨g=H) (hH:W.heap.size=H) (hB:B≤W.heap.size) (u:Value) (hA:∀b,A b→b < n)
  (hps:∀q∈ps,RT W (Own B A v) q.1 q.2) (hx:RT W (Own B A v) x m):∀q∈ps++[(x,m)],RT (w4.setCell ⟨n,14,none⟩ u) (Own B A (.slice (some ⟨g,0,none⟩) j cap)) q.1 q.2:=by
 intro q hq
 have hs:Agree (Own B A (.slice (some ⟨g,0,none⟩) j cap)) w4 (w4.setCell ⟨n,14,none⟩ u):=Zt4 (p:=⟨n,14,none⟩) (fun h=>by rcases h with ⟨h,_⟩|⟨h,_⟩;exact absurd (hA _ h) sm;exact absurd h (by simp;omega))
 refine Zt2 hs _ _ ?_
 rcases List.mem_append.1 hq with hq|hq
 ·exact RT.own hgrow hown hat hH (hps q hq)
 simp at hq
 subst hq
 exact RT.own hgrow hown hat hH hx
theorem Uj {w wr W w4:World} {A:Nat→Prop} {t s x:GT} {m q mx:TA} {v:Value} {gk j g cap H e:Nat} {ps:List (GT×TA)} (hj:gk+j=t.a.length) (hlt:j < t.a.length) (hb:Below w.heap.size w wr) (hM:PutM w.heap.size t s m q v wr) (hPL:ps.length=j) (hP:ps.map Prod.fst=(YH s t.k 0 t.a).take j) (hst:(YH s t.k 0 t.a).take (j+1)=(YH s t.k 0 t.a).take j++[x])
  (hQ:∀q∈ps,RT wr (Own (w.heap.size+4) (fun b=>A b∧b < w.heap.size) v) q.1 q.2) (hW:Below wr.heap.size wr W) (hx:RT W (Own (w.heap.size+4) (fun b=>A b∧b < w.heap.size) v) x mx) (hown:w4.ownsRow (w.heap.size+4) e 15 (.slice (some ⟨g,0,none⟩) (j+1) cap) (j+1) (Vc ps++[.int .u8 x.k,.int .u8 x.v.k,.int .i64 x.v.n,.slice mx.va x.v.l.length mx.vc,.slice mx.vsa x.vs.length mx.vsc,.int .i64 x.lo,.int .i64 x.hi,.slice mx.wa x.w.length mx.wc,.int .u8 x.p.k,.int .u8 x.p.v.k,.int .i64 x.p.v.n,.slice mx.pva x.p.v.l.length mx.pvc,.int .i64 x.p.n,.slice mx.pa x.p.a.length mx.pc,.slice mx.a x.a.length mx.c]))
  (hgrow:W.grownBy w4 v.ownBlock) (hownk:∀k,v.ownBlock=some k→w.heap.size+4≤k) (hat:v.ownBlock=some g∨g=H) (hH:W.heap.size=H) (hlt1:g < w4.heap.size):
  ∃(j':Nat) (ps':List (GT×TA)) (v':Value),gk - 1+j'=t.a.length∧Value.int .i64 ((j:Int)+1)=.int .i64 j'∧Below w.heap.size w (w4.setCell ⟨w.heap.size+1+1+1,14,none⟩ (.slice (some ⟨g,0,none⟩) (j+1) cap))∧Hid (PutM w.heap.size t s m q v' (w4.setCell ⟨w.heap.size+1+1+1,14,none⟩ (.slice (some ⟨g,0,none⟩) (j+1) cap)))∧Hid (ps'.length=j')∧Hid (ps'.map Prod.fst=(YH s t.k 0 t.a).take j') ∧
   Hid ((w4.setCell ⟨w.heap.size+1+1+1,14,none⟩ (.slice (some ⟨g,0,none⟩) (j+1) cap)).ownsRow (w.heap.size+4) e 15 v' j' (Vc ps'))∧Hid (∀q∈ps',RT (w4.setCell ⟨w.heap.size+1+1+1,14,none⟩ (.slice (some ⟨g,0,none⟩) (j+1) cap)) (Own (w.heap.size+4) (fun b=>A b∧b < w.heap.size) v') q.1 q.2):=by
 have hz:=hM.sz
 have hzW:=hW.size
 have hzg:=hgrow.size
 have hbW:Below w.heap.size w W:=hb.trans (hW.mono om)
 have hbg:Below w.heap.size w w4:=Below.grown hbW hgrow om (fun k hk=>by have:=hownk k hk;omega)
 obtain ⟨hc4,hf4⟩:=X4 hgrow hownk om
 refine ⟨j+1,ps++[(x,mx)],.slice (some ⟨g,0,none⟩) (j+1) cap,om,sm,Below.setCell hbg (by simp;omega) _,hid ?_,hid (by simp;omega),hid (by rw [List.map_append,hP,hst];rfl),hid ?_,hid ?_⟩
 ·refine PutM.set (v:=v) (PutM.ext hM om ?_ ?_) _
  ·intro c i hc;rw [hc4 c i hc];exact hW.cell (p:=⟨c,i,none⟩) (by simp;omega)
  intro c i hc;rw [hf4 c i hc];exact hW.frozen (p:=⟨c,i,none⟩) (by simp;omega)
 ·rw [WF]
  exact Vf (c:=w.heap.size+1+1+1) (B:=w4.heap.size) hown (But.setOwn (But.refl _ _ _) _ _) (fun k hk=>by have e:k=g:=(by cases hk;rfl);rw [e];exact ⟨hlt1,by rcases hat with h|h;have:=hownk _ h;omega;omega⟩)
 exact Zix om hgrow hownk hat hH om _ (fun b h=>by have:=h.2;omega) (fun q hq=>Zt2 (ZtY hW) _ _ (hQ q hq)) hx
abbrev ZhD (N:Nat):Prop:=∀(t s:GT) (w:World) (A:Nat→Prop) (m q:TA),Zb t≤N→okT t→RT w A t m→RT w A s q →
  Calls prog 184 #[TV t m,TV s q] w (ZhE w A (UB s t))
theorem Zoh {p:Prop} (h:p:=by
 refine rch (fun K hK=>?_) ?_
 ·go_simp
  refine hK.out _ _ ?_ (fun hHeld=>?_)
  ·((try dsimp only);(refine ⟨gs,fun k=>gs,fun k=>gs⟩))
  clear hK K
  refine wpAnyH_ready (rs:=[10]) kr sm ?_
  refine rch (fun K hK=>?_) ?_
  ·(refine step_append_lies _ rfl _ _ 29 rfl (w.heap.size+4) 31 i0 _ 15 216 underlying29 hi0 y0 y1 y2 rfl (by decide) v j _ (by rfl) ((ZR HO.out (B:=wr.heap.size) hbr2 HOK.out).alloc _) ⟨w2.heap.size,0,none⟩ 1 1 [.int .u8 X.k,.int .u8 X.v.k,.int .i64 X.v.n,.slice m2.va X.v.l.length m2.vc,.slice m2.vsa X.vs.length m2.vsc,.int .i64 X.lo,.int .i64 X.hi,.slice m2.wa X.w.length m2.wc,.int .u8 X.p.k,.int .u8 X.p.v.k,.int .i64 X.p.v.n,.slice m2.pva X.p.v.l.length m2.pvc,.int .i64 X.p.n,.slice m2.pa X.p.a.length m2.pc,.slice m2.a X.a.length m2.c] (by rfl) rfl (XI rfl _ _ _ _ _ _ _ _ _ _ _ _ _ _ _ _) (by simp [Value.oneCell']) (by decide) (by unfold maxLen;omega) om (by simp;omega) (w2.heap.size+1) sm ?_;intro g cap w4 hown hgrow hat hlt1;have hbg:Below w.heap.size w w4:=Below.grown (by exact ZtZ) hgrow (by simp;omega) (fun k hk=>by have:=HOWN.out k hk;omega);obtain ⟨hc4,hf4⟩:=X4 hgrow HOWN.out (by simp;omega);have hz4:=hgrow.size;(try simp at hz4))
   refine hK.out _ _ ?_ (fun hHeld=>?_)
   ·((try dsimp only);(refine ⟨gs,fun k=>gs,fun k=>gs⟩))
   clear hK K
   refine tzh 11 ?_
   try simp only [Act.put,sl,s0,ss]
   refine wpAnyH_ready (rs:=[12]) kr sm ?_
   refine rch (fun K hK=>?_) ?_
   ·go_simp
    refine hK.out _ _ ?_ (fun hHeld=>?_)
    ·((try dsimp only);(refine ⟨gs,fun k=>gs,fun k=>gs⟩))
    clear hK K
    refine wpAnyH_done kr ?_ _
    (go_wp2_with fail;go_roundg (gk - 1);(case measure=>omega);exact Uj hj hlt hb HM.out HPL.out HP.out HST.out HQ.out ZtZ (Zud (fun c hc _=>by rcases hc with h|h;exact .inl ⟨h,om⟩;exact .inr ⟨om,fun e=>by have:=HOK.out _ e;omega⟩) _ _ (Zt2 (ZtY ((Below.refl _ _).alloc (Nat.le_refl _) _)) _ _ HRT.out)) hown hgrow HOWN.out hat sm hlt1)
   exact AllReadyH.nil
  exact AllReadyH.nil
 exact AllReadyH.nil):p:=h
theorem Zwd {p:Prop} (h:p:=by
 refine hK.out _ _ ?_ (fun hHeld=>?_)
 ·((try dsimp only);(refine ⟨gs,fun k=>gs,fun k=>gs⟩))
 clear hK K
 refine wpAnyH_ready (rs:=[9]) kr sm ?_
 exact Zoh):p:=h
theorem Zpi {p:Prop} (h:p:=by
 go_wp2_with fail
 refine wp_region_held_drew (S:=(fun W=>W.cell? ⟨w.heap.size,14,none⟩=some (.slice (some ⟨b,o,none⟩) t.a.length ml)∧(∀k,W.cell? ⟨b,k,none⟩=wr.cell? ⟨b,k,none⟩)∧∀k,W.cell? ⟨w.heap.size+1,k,none⟩=wr.cell? ⟨w.heap.size+1,k,none⟩)) kr ?_ (fun hHeld=>?_)
 ·((try dsimp only);(refine ⟨gs,fun k=>gs,fun k=>gs⟩))
 refine tzh 0 ?_
 try simp only [Act.put,sl,s0,ss]
 refine tzh 2 ?_
 try simp only [Act.put,sl,s0,ss]
 refine tzh 3 ?_
 try simp only [Act.put,sl,s0,ss]
 refine tzh 4 ?_
 try simp only [Act.put,sl,s0,ss]
 refine tzh 5 ?_
 try simp only [Act.put,sl,s0,ss]
 refine tzh 6 ?_
 try simp only [Act.put,sl,s0,ss]
 refine tzh 7 ?_
 try simp only [Act.put,sl,s0,ss]
 refine wpAnyH_ready (rs:=[1,8]) kr sm ?_
 refine rch (fun K hK=>?_) ?_
 ·go_simp
  refine hK.out _ _ ?_ (fun hHeld=>?_)
  ·((try dsimp only);(refine ⟨gs,fun k=>gs,fun k=>gs⟩))
  clear hK K
  refine wpAnyH_ready (rs:=[8]) kr sm ?_
  refine rch (fun K hK=>?_) ?_
  ·go_simp
   go_wp2_with (go_at_call 184;(with_reducible refine (HC.out _ mj' ⟨na,nb,nc,nd,ne,nf,ng,nh,ni,nj,nk,nl⟩ (by exact Zt2 ar _ _ gx) (by exact Zt2 ar _ _ HS.out)).mono ?_);rintro e w2 ⟨hb2,m2,rfl,hrt⟩;have HRT:Hid (RT w2 (fun c=>(A c∧c < w.heap.size)∨wr.heap.size≤c) X m2):=hid hrt;clear hrt;have hz2:=hb2.size;(try simp at hz2);have hbr2:Below wr.heap.size wr w2:=ZtZ;have hw2:w.heap.size+4≤w2.heap.size:=om;have v0:w.heap.size < w2.heap.size:=om;have v1:w.heap.size+1 < w2.heap.size:=om;have v3:w.heap.size+1+1+1 < w2.heap.size:=om;have vb:b < w2.heap.size:=om;have yb:∀k,w2.cell? ⟨b,k,none⟩=wr.cell? ⟨b,k,none⟩:=(fun k=>hbr2.cell (p:=⟨b,k,none⟩) hs1);have yn1:∀k,w2.cell? ⟨w.heap.size+1,k,none⟩=wr.cell? ⟨w.heap.size+1,k,none⟩:=(fun k=>hbr2.cell (p:=⟨w.heap.size+1,k,none⟩) u1);have ya:=(hbr2.cell (p:=⟨w.heap.size,14,none⟩) u0).trans ae;have yd:=(hbr2.cell (p:=⟨w.heap.size+1+1+1,14,none⟩) u3).trans de;have yf:∀k,w2.frozen? ⟨w.heap.size+1+1+1,k,none⟩=false:=(fun k=>(hbr2.frozen (p:=⟨w.heap.size+1+1+1,k,none⟩) u3).trans (df k)))
   exact Zwd
  exact AllReadyH.nil
 refine rch (fun K hK=>?_) ?_
 ·go_simp
  go_wp2_with (go_at_call 184;(with_reducible refine (HC.out _ mj' ⟨na,nb,nc,nd,ne,nf,ng,nh,ni,nj,nk,nl⟩ (by exact Zt2 ar _ _ gx) (by exact Zt2 ar _ _ HS.out)).mono ?_);rintro e w2 ⟨hb2,m2,rfl,hrt⟩;have HRT:Hid (RT w2 (fun c=>(A c∧c < w.heap.size)∨wr.heap.size≤c) X m2):=hid hrt;clear hrt;have hz2:=hb2.size;(try simp at hz2);have hbr2:Below wr.heap.size wr w2:=ZtZ;have hw2:w.heap.size+4≤w2.heap.size:=om;have v0:w.heap.size < w2.heap.size:=om;have v1:w.heap.size+1 < w2.heap.size:=om;have v3:w.heap.size+1+1+1 < w2.heap.size:=om;have vb:b < w2.heap.size:=om;have yb:∀k,w2.cell? ⟨b,k,none⟩=wr.cell? ⟨b,k,none⟩:=(fun k=>hbr2.cell (p:=⟨b,k,none⟩) hs1);have yn1:∀k,w2.cell? ⟨w.heap.size+1,k,none⟩=wr.cell? ⟨w.heap.size+1,k,none⟩:=(fun k=>hbr2.cell (p:=⟨w.heap.size+1,k,none⟩) u1);have ya:=(hbr2.cell (p:=⟨w.heap.size,14,none⟩) u0).trans ae;have yd:=(hbr2.cell (p:=⟨w.heap.size+1+1+1,14,none⟩) u3).trans de;have yf:∀k,w2.frozen? ⟨w.heap.size+1+1+1,k,none⟩=false:=(fun k=>(hbr2.frozen (p:=⟨w.heap.size+1+1+1,k,none⟩) u3).trans (df k)))
  refine hK.out _ _ ?_ (fun hHeld=>?_)
  ·((try dsimp only);(refine ⟨gs,fun k=>gs,fun k=>gs⟩))
  clear hK K
  refine wpAnyH_ready (rs:=[1,9]) kr sm ?_
  refine rch (fun K hK=>?_) ?_
  ·go_simp
   exact Zwd
  refine rch (fun K hK=>?_) ?_
  ·go_simp
   refine hK.out _ _ ?_ (fun hHeld=>?_)
   ·((try dsimp only);(refine ⟨gs,fun k=>gs,fun k=>gs⟩))
   clear hK K
   refine wpAnyH_ready (rs:=[1]) kr sm ?_
   exact Zoh
  exact AllReadyH.nil
 exact AllReadyH.nil):p:=h
theorem ZtC {p:Prop} (h:p:=by
 have hjl:j=t.a.length:=om
 have hst:=HP.out
 rw [hjl,List.take_of_length_le (by rw [Yb];omega)] at hst
 have hE:=VJ (A:=fun b=>(A b∧b < w.heap.size)∨w.heap.size+4≤b) HO.out (fun b h=>.inr om) (fun q hq=>Zud (fun b hb _=>by rcases hb with ⟨h,_⟩|⟨h,_⟩;exact .inl h;exact .inr h) _ _ (HQ.out q hq))
 obtain ⟨av,cv,hav,hrd⟩:=hE
 rw [hst] at hav hrd
 rw [Yb] at hav
 subst hav
 have HRD:=hid hrd
 obtain ⟨a0, -, -, -, -, -, -, -, -, -, -, -, -, -,ae⟩:=ZO.1 HM.out.a
 obtain ⟨c0,c1,c2,c3,c4,c5,c6,c7,c8,c9,ca,cb,cc,cd,ce⟩:=ZO.1 HM.out.c
 obtain ⟨d0,d1,d2,d3,d4,d5,d6,d7,d8,d9,da,db,dc,dd,de⟩:=ZO.1 HM.out.d
 have cf:=HM.out.cf
 have u2:w.heap.size+1+1 < wr.heap.size:=om
 clear hst hrd
 go_wp2_with fail
 refine bodyPost_ret (v:=TV ⟨t.k,t.v,t.vs,t.lo,t.hi,t.w,t.p,YH s t.k 0 t.a⟩ ⟨ma,mb,mc,md,me,mf,mg,mh,mi,mj,av,cv⟩) (by simp [results,Tryz.f184,go_sem,Yb,c0,c1,c2,c3,c4,c5,c6,c7,c8,c9,ca,cb,cc,cd,ce,cf,u2]) rfl ?_
 obtain ⟨r1,r2,r3,r4, -⟩:=Zo.1 (Zud (A':=fun b=>(A b∧b < w.heap.size)∨w.heap.size+4≤b) (fun b h _=>.inl h) _ _ (Zt2 (ZtY hb) _ _ HT.out))
 exact ⟨ZtZ,_,rfl,Zud (fun b h _=>by rcases h with h|h;exact .inl h.1;exact .inr om) _ _ (Zt2 (A:=fun b=>(A b∧b < w.heap.size)∨w.heap.size+4≤b) (fun p v hA hc=>Zt0 (c:=w.heap.size+1+1) ZxG p v (fun e=>by rcases hA with h|h;have:=h.2;omega;omega) hc) _ _ (Zo.2 ⟨r1,r2,r3,r4,HRD.out⟩))⟩):p:=h
set_option maxRecDepth 100000
set_option maxHeartbeats 16000000
theorem Ziy (N:Nat) (ih:ZhD N) (t s:GT) (w:World) (A:Nat→Prop) (m q:TA) (hN:Zb t≤N+1) (ox:okT t) (hl:RT w A t m) (hs:RT w A s q) (hk:¬t.k=11) (hk0:¬t.k=10):
  Calls prog 184 #[TV t m,TV s q] w (ZhE w A (UB s t)):=by
 obtain ⟨ma,mb,mc,md,me,mf,mg,mh,mi,mj,mk,ml⟩:=m
 obtain ⟨na,nb,nc,nd,ne,nf,ng,nh,ni,nj,nk,nl⟩:=q
 have IH:=hid ih
 have HT:=hid (Zud (A':=fun b=>A b∧b < w.heap.size) (fun b h hb=>⟨h,hb⟩) _ _ hl)
 have HS:=hid (Zud (A':=fun b=>A b∧b < w.heap.size) (fun b h hb=>⟨h,hb⟩) _ _ hs)
 have HL:=hid (Zo.1 HT.out).2.2.2.2
 obtain ⟨-, -, -, -, -, -, -,oal,oa⟩:=Ze.1 ox
 have O:=hid oa
 have hse:=Zq t
 clear ih hl hs ox oa
 have hk10:(t.k==10)=false:=by simp [hk0]
 rw [Jo,if_neg hk]
 have hk':(t.k==11)=false:=by simp [hk]
 obtain ⟨i0,hi0,y0,y1,y2⟩:=info_parts Uy
 clear hk
 go_enter func184,ntmps184
 go_wp2_with fail
 go_loopg [6] (t.a.length) (fun gk t6 wr=>∃(j:Nat) (ps:List (GT×TA)) (v:Value),gk+j=t.a.length∧t6=.int .i64 j∧Below w.heap.size w wr∧Hid (PutM w.heap.size t s ⟨ma,mb,mc,md,me,mf,mg,mh,mi,mj,mk,ml⟩ ⟨na,nb,nc,nd,ne,nf,ng,nh,ni,nj,nk,nl⟩ v wr)∧Hid (ps.length=j)∧Hid (ps.map Prod.fst=(YH s t.k 0 t.a).take j)∧Hid (wr.ownsRow (w.heap.size+4) 31 15 v j (Vc ps))∧Hid (∀q∈ps,RT wr (Own (w.heap.size+4) (fun b=>A b∧b < w.heap.size) v) q.1 q.2))
 case atStart=>exact ⟨0,[],.slice none 0 0,om,rfl,ZtZ,hid ⟨sm,ZO.2 ⟨gs,gs,gs,gs,gs,gs,gs,gs,gs,gs,gs,gs,gs,gs,gs⟩,ZO.2 ⟨gs,gs,gs,gs,gs,gs,gs,gs,gs,gs,gs,gs,gs,gs,gs⟩,ZO.2 ⟨gs,gs,gs,gs,gs,gs,gs,gs,gs,gs,gs,gs,gs,gs,gs⟩,fun k=>gs,ZO.2 ⟨gs,gs,gs,gs,gs,gs,gs,gs,gs,gs,gs,gs,gs,gs,gs⟩,fun k=>gs⟩,hid rfl,hid rfl,hid (World.ownsRow_nil _ _ _ _),hid (fun q hq=>by simp at hq)⟩
 case round=>
  obtain ⟨j,ps,v,hj,rfl,hb,HM,HPL,HP,HO,HQ⟩:=hrel
  have hz:=HM.out.sz
  by_cases hlt:j < t.a.length
  ·obtain ⟨b,o,mj',rfl,hA,hbs,g0,gx⟩:=HL.out.get j hlt
   have hbw:=hA.2
   obtain ⟨k0,k1,k2,k3,k4,k5,k6,k7,k8,k9,ka,kb,kc,kd,ke⟩:=Yp.1 (g0.ext (ZtY hb) (A:=fun _=>True) trivial)
   obtain ⟨a0, -, -, -, -, -, -, -, -, -, -, -, -, -,ae⟩:=ZO.1 HM.out.a
   obtain ⟨b0,b1,b2,b3,b4,b5,b6,b7,b8,b9,ba,bb,bc,bd,be⟩:=ZO.1 HM.out.b
   obtain ⟨-, -, -, -, -, -, -, -, -, -, -, -, -, -,de⟩:=ZO.1 HM.out.d
   have df:=HM.out.df
   have u0:w.heap.size < wr.heap.size:=om
   have u1:w.heap.size+1 < wr.heap.size:=om
   have u3:w.heap.size+1+1+1 < wr.heap.size:=om
   have hs1:b < wr.heap.size:=om
   have hb4:b < w.heap.size+4:=om
   have hb5:¬b=w.heap.size+1+1+1:=om
   have HOK:=hid (show ∀k,v.ownBlock=some k→k < wr.heap.size from fun k hk=>(HO.out.lt _ hk).2)
   have HOWN:=hid (show ∀k,v.ownBlock=some k→w.heap.size+4≤k from fun k hk=>(HO.out.lt _ hk).1)
   have hst:=ZbH s t.k t.a j hlt
   have hsj:=ZD t.a j hlt
   have HC:=hid (fun (W:World) (m1 m2:TA) (h1:RT W (fun b=>A b∧b < w.heap.size) (t.a[j]'hlt) m1) (h2:RT W (fun b=>A b∧b < w.heap.size) s m2)=>IH.out (t.a[j]'hlt) s W (fun b=>A b∧b < w.heap.size) m1 m2 om (O.out.get j hlt) h1 h2)
   clear g0
   have hsb:ZU t.k j=false:=by simp [ZU,hk10]
   rw [hsb,if_neg sm] at hst
   generalize UB s t.a[j]=X at HC hst
   have HST:=hid hst
   clear hst hsb
   exact Zpi
  exact ZtC
set_option maxRecDepth 512
theorem ZtB {p:Prop} (h:p:=by
 refine rch (fun K hK=>?_) ?_
 ·go_simp
  refine hK.out _ _ ?_ (fun hHeld=>?_)
  ·((try dsimp only);(refine ⟨gs,fun k=>gs,fun k=>gs⟩))
  clear hK K
  refine wpAnyH_ready (rs:=[8]) kr sm ?_
  refine rch (fun K hK=>?_) ?_
  ·(refine step_append_lies _ rfl _ _ 29 rfl (w.heap.size+4) 31 i0 _ 15 216 underlying29 hi0 y0 y1 y2 rfl (by decide) v j _ (by rfl) (World.ownsRow.alloc (by exact HO.out) _) ⟨wr.heap.size,0,none⟩ 1 1 [.int .u8 t.a[j].k,.int .u8 t.a[j].v.k,.int .i64 t.a[j].v.n,.slice mj'.va t.a[j].v.l.length mj'.vc,.slice mj'.vsa t.a[j].vs.length mj'.vsc,.int .i64 t.a[j].lo,.int .i64 t.a[j].hi,.slice mj'.wa t.a[j].w.length mj'.wc,.int .u8 t.a[j].p.k,.int .u8 t.a[j].p.v.k,.int .i64 t.a[j].p.v.n,.slice mj'.pva t.a[j].p.v.l.length mj'.pvc,.int .i64 t.a[j].p.n,.slice mj'.pa t.a[j].p.a.length mj'.pc,.slice mj'.a t.a[j].a.length mj'.c] (by rfl) rfl (XI rfl _ _ _ _ _ _ _ _ _ _ _ _ _ _ _ _) (by simp [Value.oneCell']) (by decide) (by unfold maxLen;omega) om (by simp;omega) (wr.heap.size+1) sm ?_;intro g cap w4 hown hgrow hat hlt1;have hbg:Below w.heap.size w w4:=Below.grown (by exact ZtZ) hgrow (by simp;omega) (fun k hk=>by have:=HOWN.out k hk;omega);obtain ⟨hc4,hf4⟩:=X4 hgrow HOWN.out (by simp;omega);have hz4:=hgrow.size;(try simp at hz4))
   refine hK.out _ _ ?_ (fun hHeld=>?_)
   ·((try dsimp only);(refine ⟨gs,fun k=>gs,fun k=>gs⟩))
   clear hK K
   refine tzh 9 ?_
   try simp only [Act.put,sl,s0,ss]
   refine wpAnyH_ready (rs:=[10]) kr sm ?_
   refine rch (fun K hK=>?_) ?_
   ·go_simp
    refine hK.out _ _ ?_ (fun hHeld=>?_)
    ·((try dsimp only);(refine ⟨gs,fun k=>gs,fun k=>gs⟩))
    clear hK K
    refine wpAnyH_done kr ?_ _
    (go_wp2_with fail;go_roundg (gk - 1);(case measure=>omega);exact Uj hj hlt hb HM.out HPL.out HP.out HST.out HQ.out ZtZ (Zud (fun c hc _=>.inl ⟨hc,by have:=hc.2;omega⟩) _ _ (Zt2 ar _ _ gx)) hown hgrow HOWN.out hat sm hlt1)
   exact AllReadyH.nil
  exact AllReadyH.nil
 exact AllReadyH.nil):p:=h
set_option maxRecDepth 100000
theorem Zhc (N:Nat) (ih:ZhD N) (t s:GT) (w:World) (A:Nat→Prop) (m q:TA) (hN:Zb t≤N+1) (ox:okT t) (hl:RT w A t m) (hs:RT w A s q) (hk0:t.k=10):
  Calls prog 184 #[TV t m,TV s q] w (ZhE w A (UB s t)):=by
 obtain ⟨ma,mb,mc,md,me,mf,mg,mh,mi,mj,mk,ml⟩:=m
 obtain ⟨na,nb,nc,nd,ne,nf,ng,nh,ni,nj,nk,nl⟩:=q
 have IH:=hid ih
 have HT:=hid (Zud (A':=fun b=>A b∧b < w.heap.size) (fun b h hb=>⟨h,hb⟩) _ _ hl)
 have HS:=hid (Zud (A':=fun b=>A b∧b < w.heap.size) (fun b h hb=>⟨h,hb⟩) _ _ hs)
 have HL:=hid (Zo.1 HT.out).2.2.2.2
 obtain ⟨-, -, -, -, -, -, -,oal,oa⟩:=Ze.1 ox
 have O:=hid oa
 have hse:=Zq t
 clear ih hl hs ox oa
 have hk10:(t.k==10)=true:=by simp [hk0]
 have hk:¬t.k=11:=om
 rw [Jo,if_neg hk]
 clear hk0
 have hk':(t.k==11)=false:=by simp [hk]
 obtain ⟨i0,hi0,y0,y1,y2⟩:=info_parts Uy
 clear hk
 go_enter func184,ntmps184
 go_wp2_with fail
 go_loopg [6] (t.a.length) (fun gk t6 wr=>∃(j:Nat) (ps:List (GT×TA)) (v:Value),gk+j=t.a.length∧t6=.int .i64 j∧Below w.heap.size w wr∧Hid (PutM w.heap.size t s ⟨ma,mb,mc,md,me,mf,mg,mh,mi,mj,mk,ml⟩ ⟨na,nb,nc,nd,ne,nf,ng,nh,ni,nj,nk,nl⟩ v wr)∧Hid (ps.length=j)∧Hid (ps.map Prod.fst=(YH s t.k 0 t.a).take j)∧Hid (wr.ownsRow (w.heap.size+4) 31 15 v j (Vc ps))∧Hid (∀q∈ps,RT wr (Own (w.heap.size+4) (fun b=>A b∧b < w.heap.size) v) q.1 q.2))
 case atStart=>exact ⟨0,[],.slice none 0 0,om,rfl,ZtZ,hid ⟨sm,ZO.2 ⟨gs,gs,gs,gs,gs,gs,gs,gs,gs,gs,gs,gs,gs,gs,gs⟩,ZO.2 ⟨gs,gs,gs,gs,gs,gs,gs,gs,gs,gs,gs,gs,gs,gs,gs⟩,ZO.2 ⟨gs,gs,gs,gs,gs,gs,gs,gs,gs,gs,gs,gs,gs,gs,gs⟩,fun k=>gs,ZO.2 ⟨gs,gs,gs,gs,gs,gs,gs,gs,gs,gs,gs,gs,gs,gs,gs⟩,fun k=>gs⟩,hid rfl,hid rfl,hid (World.ownsRow_nil _ _ _ _),hid (fun q hq=>by simp at hq)⟩
 case round=>
  obtain ⟨j,ps,v,hj,rfl,hb,HM,HPL,HP,HO,HQ⟩:=hrel
  have hz:=HM.out.sz
  by_cases hlt:j < t.a.length
  ·obtain ⟨b,o,mj',rfl,hA,hbs,g0,gx⟩:=HL.out.get j hlt
   have hbw:=hA.2
   obtain ⟨k0,k1,k2,k3,k4,k5,k6,k7,k8,k9,ka,kb,kc,kd,ke⟩:=Yp.1 (g0.ext (ZtY hb) (A:=fun _=>True) trivial)
   obtain ⟨a0, -, -, -, -, -, -, -, -, -, -, -, -, -,ae⟩:=ZO.1 HM.out.a
   obtain ⟨b0,b1,b2,b3,b4,b5,b6,b7,b8,b9,ba,bb,bc,bd,be⟩:=ZO.1 HM.out.b
   obtain ⟨-, -, -, -, -, -, -, -, -, -, -, -, -, -,de⟩:=ZO.1 HM.out.d
   have df:=HM.out.df
   have u0:w.heap.size < wr.heap.size:=om
   have u1:w.heap.size+1 < wr.heap.size:=om
   have u3:w.heap.size+1+1+1 < wr.heap.size:=om
   have hs1:b < wr.heap.size:=om
   have hb4:b < w.heap.size+4:=om
   have hb5:¬b=w.heap.size+1+1+1:=om
   have HOK:=hid (show ∀k,v.ownBlock=some k→k < wr.heap.size from fun k hk=>(HO.out.lt _ hk).2)
   have HOWN:=hid (show ∀k,v.ownBlock=some k→w.heap.size+4≤k from fun k hk=>(HO.out.lt _ hk).1)
   have hst:=ZbH s t.k t.a j hlt
   have hsj:=ZD t.a j hlt
   have HC:=hid (fun (W:World) (m1 m2:TA) (h1:RT W (fun b=>A b∧b < w.heap.size) (t.a[j]'hlt) m1) (h2:RT W (fun b=>A b∧b < w.heap.size) s m2)=>IH.out (t.a[j]'hlt) s W (fun b=>A b∧b < w.heap.size) m1 m2 om (O.out.get j hlt) h1 h2)
   clear g0
   by_cases hj1:j=1
   ·have hj1':((j:Int)==1)=true:=by rw [hj1];rfl
    have hsb:ZU t.k j=true:=by simp [ZU,hk10,hj1]
    rw [hsb,if_pos rfl] at hst
    have HST:=hid hst
    have HJ1:=hid hj1
    clear hst hsb hj1 HC
    go_wp2_with fail
    refine wp_region_held_drew (S:=(fun W=>W.cell? ⟨w.heap.size,14,none⟩=some (.slice (some ⟨b,o,none⟩) t.a.length ml)∧(∀k,W.cell? ⟨b,k,none⟩=wr.cell? ⟨b,k,none⟩)∧∀k,W.cell? ⟨w.heap.size+1,k,none⟩=wr.cell? ⟨w.heap.size+1,k,none⟩)) kr ?_ (fun hHeld=>?_)
    ·((try dsimp only);(refine ⟨gs,fun k=>gs,fun k=>gs⟩))
    refine tzh 0 ?_
    try simp only [Act.put,sl,s0,ss]
    refine tzh 2 ?_
    try simp only [Act.put,sl,s0,ss]
    refine tzh 3 ?_
    try simp only [Act.put,sl,s0,ss]
    refine tzh 4 ?_
    try simp only [Act.put,sl,s0,ss]
    refine tzh 5 ?_
    try simp only [Act.put,sl,s0,ss]
    refine tzh 6 ?_
    try simp only [Act.put,sl,s0,ss]
    refine wpAnyH_ready (rs:=[1,7]) kr sm ?_
    refine rch (fun K hK=>?_) ?_
    ·go_simp
     refine hK.out _ _ ?_ (fun hHeld=>?_)
     ·((try dsimp only);(refine ⟨gs,fun k=>gs,fun k=>gs⟩))
     clear hK K
     refine wpAnyH_ready (rs:=[7]) kr sm ?_
     exact ZtB
    refine rch (fun K hK=>?_) ?_
    ·go_simp
     refine hK.out _ _ ?_ (fun hHeld=>?_)
     ·((try dsimp only);(refine ⟨gs,fun k=>gs,fun k=>gs⟩))
     clear hK K
     refine wpAnyH_ready (rs:=[1]) kr sm ?_
     exact ZtB
    exact AllReadyH.nil
   have hj1':((j:Int)==1)=false:=beq_eq_false_iff_ne.2 om
   have hsb:ZU t.k j=false:=by simp [ZU,hk10,hj1]
   rw [hsb,if_neg sm] at hst
   generalize UB s t.a[j]=X at HC hst
   have HST:=hid hst
   have HJ1:=hid hj1
   clear hst hsb hj1
   exact Zpi
  exact ZtC
theorem Zhd (t s:GT) (w:World) (A:Nat→Prop) (m q:TA) (hl:RT w A t m) (hs:RT w A s q) (hk:t.k=11):
  Calls prog 184 #[TV t m,TV s q] w (ZhE w A (UB s t)):=by
 obtain ⟨ma,mb,mc,md,me,mf,mg,mh,mi,mj,mk,ml⟩:=m
 obtain ⟨na,nb,nc,nd,ne,nf,ng,nh,ni,nj,nk,nl⟩:=q
 have HS:=hid (Zud (A':=fun b=>A b∧b < w.heap.size) (fun b h hb=>⟨h,hb⟩) _ _ hs)
 rw [Jo,if_pos hk]
 clear hl hs
 have hk':(t.k==11)=true:=by simp [hk]
 clear hk
 go_enter func184,ntmps184
 go_wp2_with fail
 refine bodyPost_ret (v:=TV s ⟨na,nb,nc,nd,ne,nf,ng,nh,ni,nj,nk,nl⟩) (by simp [results,Tryz.f184,go_sem]) rfl ?_
 exact ⟨ZtZ,_,rfl,Zud (fun b h _=>.inl h.1) _ _ (Zt2 ar _ _ HS.out)⟩
set_option maxRecDepth 512
theorem ZfN (N:Nat):ZhD N:=by
 induction N with
 | zero=>intro t;have:=X8 t;intros;omega
 | succ N ih=>
  intro t s w A m q hN ox hl hs
  by_cases h11:t.k=11
  ·exact Zhd t s w A m q hl hs h11
  by_cases h10:t.k=10
  ·exact Zhc N ih t s w A m q hN ox hl hs h10
  exact Ziy N ih t s w A m q hN ox hl hs h11 h10
end Go.Proofs.YtkdffbdnjfgpeaaGreat
