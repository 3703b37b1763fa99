/- Part 2. -/
import Derived.OpenShut
import Derived.ProofKit
import Derived.Test.YtkdffbdnjfgpeaaGreatProg
import Derived.Test.YtkdffbdnjfgpeaaGreatRows
import Derived.Test.YtkdffbdnjfgpeaaGreatY0
set_option linter.all false
namespace Go.Proofs.YtkdffbdnjfgpeaaGreat
open Go Go.RowKit Go.Proofs.Tryz
section
section
variable {H:Type} {enc:TypeId×Value→H} {W:World} {sp:Nat→Bool} {held:Bool} {B:Nat} (hB:B≤1048576)
theorem ZhM (d:DataW H):1≤Rows.uptoBulk d:=by
 cases d with
 | lit l=>cases l<;>simp [Rows.uptoBulk]
 | nil=>simp [Rows.uptoBulk]
 | ptr d=>simp [Rows.uptoBulk]
 | slice elems spare=>simp [Rows.uptoBulk]
 | agg parts=>simp [Rows.uptoBulk]
 | iface t d=>simp [Rows.uptoBulk]
 | map entries=>simp [Rows.uptoBulk]
 | held h=>simp [Rows.uptoBulk]
theorem Ql:∀(l:List (DataW H)) (i:Nat) (h:i < l.length),Rows.uptoBulk l[i]≤Rows.uptoBulkAll l
 | d::r,0,_=>by simp only [List.getElem_cons_zero,Rows.uptoBulkAll];omega
 | d::r,i+1,h=>by
  have:=Ql r i (by simpa using h)
  simp only [List.getElem_cons_succ,Rows.uptoBulkAll];omega
theorem Qg {b:Nat}:∀(l:List Value) (o:Nat),(∀j,j < l.length→W.cell? ⟨b,o+j,none⟩=l[j]?)→At W b o l
 | [],_,_=>trivial
 | v::l,o,h=>⟨by have:=h 0 sm;simpa using this,Qg l (o+1) fun j hj=>by
   have:=h (j+1) (by simpa using hj)
   rw [show o+1+j=o+(j+1) by omega,this];rfl⟩
theorem UO {k n i:Nat} {e:TypeId} {a:Addr} {y:DataW H×List MemPlace} (hk:0 < k) (h:(W.cells? 0 (a.add (i*k)) k).bind (DataW.trod enc prog W 0 sp held n e)=some y):
  (i=0→a.spot=none)∧∃cs,cs.length=k∧DataW.trod enc prog W 0 sp held n e cs=some y∧At W a.block (a.off+i*k) cs:=by
 cases hc:W.cells? 0 (a.add (i*k)) k with
 | none=>rw [hc] at h;exact absurd h sm
 | some cs=>
  rw [hc] at h
  obtain ⟨_,hl,hcell⟩:=World.cells?_some hc
  have h0:=hcell 0 hk
  rw [List.getElem?_eq_getElem om] at h0
  have hsp:=World.cell?_spot h0
  obtain ⟨b,o,s⟩:=a
  by_cases hik:i*k=0
  ·have hs:s=none:=by simpa [Addr.add,hik] using hsp
   subst hs
   refine ⟨fun _=>rfl,cs,hl,h,Qg cs _ fun j hj=>?_⟩
   have h1:=hcell j om
   rw [←h1]
   by_cases hj0:j=0
   ·simp [Addr.add,hik,hj0]
   simp [Addr.add,hik,hj0]
  refine ⟨fun h=>absurd (by rw [h];simp) hik,cs,hl,h,Qg cs _ fun j hj=>?_⟩
  have h1:=hcell j om
  rw [←h1]
  by_cases hj0:j=0
  ·simp [Addr.add,hik,hj0]
  simp [Addr.add,hik,hj0,Nat.add_assoc]
theorem Zcg {b:Nat}:∀(es:List (DataW H×List MemPlace)) (o:Nat),(∀i (h:i < es.length),∃(g:GV) (m:VA),At W b (o+i*3) [.int .u8 g.k,.int .i64 g.n,.slice m.a g.l.length m.c]∧RV W (fun _=>True) g m.a∧okV g∧Zg g≤Rows.uptoBulk es[i].1) →
  ∃l:List GV,l.length=es.length∧RVs W (fun _=>True) l (some ⟨b,o,none⟩)∧okVs l∧Zi l≤Rows.uptoBulkAll (es.map (·.1))
 | [],o,_=>⟨[],rfl,by simp only [RVs],by simp only [okVs],by simp [Zi]⟩
 | e::es,o,h=>by
  obtain ⟨g,m,h0,h1,h2,h3⟩:=h 0 sm
  obtain ⟨l,e1,e2,e3,e4⟩:=Zcg es (o+3) fun i hi=>by
   have:=h (i+1) (by simpa using hi)
   rw [show o+3+i*3=o+(i+1)*3 by omega]
   simpa only [List.getElem_cons_succ] using this
  refine ⟨g::l,by simp [e1],?_,?_,?_⟩
  ·simp only [RVs]
   exact ⟨b,o,m,rfl,trivial,by simpa using h0,h1,e2,ZaK _ _ _⟩
  ·simp only [okVs]
   exact ⟨h2,e3⟩
  simp only [List.getElem_cons_zero] at h3
  simp only [Zi,List.map_cons,Rows.uptoBulkAll];omega
theorem Zce {b:Nat}:∀(es:List (DataW H×List MemPlace)) (o:Nat),(∀i (h:i < es.length),∃(g:GP) (m:PA),At W b (o+i*6) [.int .u8 g.k,.int .u8 g.v.k,.int .i64 g.v.n,.slice m.va g.v.l.length m.vc,.int .i64 g.n,.slice m.a g.a.length m.c]∧RP W (fun _=>True) g m∧okP g∧Zm g≤Rows.uptoBulk es[i].1) →
  ∃l:List GP,l.length=es.length∧RPs W (fun _=>True) l (some ⟨b,o,none⟩)∧okPs l∧ZY l≤Rows.uptoBulkAll (es.map (·.1))
 | [],o,_=>⟨[],rfl,by simp only [RPs],by simp only [okPs],by simp [ZY]⟩
 | e::es,o,h=>by
  obtain ⟨g,m,h0,h1,h2,h3⟩:=h 0 sm
  obtain ⟨l,e1,e2,e3,e4⟩:=Zce es (o+6) fun i hi=>by
   have:=h (i+1) (by simpa using hi)
   rw [show o+6+i*6=o+(i+1)*6 by omega]
   simpa only [List.getElem_cons_succ] using this
  refine ⟨g::l,by simp [e1],?_,?_,?_⟩
  ·simp only [RPs]
   exact ⟨b,o,m,rfl,trivial,by simpa using h0,h1,e2⟩
  ·simp only [okPs]
   exact ⟨h2,e3⟩
  simp only [List.getElem_cons_zero] at h3
  simp only [ZY,List.map_cons,Rows.uptoBulkAll];omega
theorem Zcf {b:Nat}:∀(es:List (DataW H×List MemPlace)) (o:Nat),(∀i (h:i < es.length),∃(g:GT) (m:TA),At W b (o+i*15) [.int .u8 g.k,.int .u8 g.v.k,.int .i64 g.v.n,.slice m.va g.v.l.length m.vc,.slice m.vsa g.vs.length m.vsc,.int .i64 g.lo,.int .i64 g.hi,.slice m.wa g.w.length m.wc,.int .u8 g.p.k,.int .u8 g.p.v.k,.int .i64 g.p.v.n,.slice m.pva g.p.v.l.length m.pvc,.int .i64 g.p.n,.slice m.pa g.p.a.length m.pc,.slice m.a g.a.length m.c]∧RT W (fun _=>True) g m∧okT g∧Zb g≤Rows.uptoBulk es[i].1) →
  ∃l:List GT,l.length=es.length∧RTs W (fun _=>True) l (some ⟨b,o,none⟩)∧okTs l∧Z5 l≤Rows.uptoBulkAll (es.map (·.1))
 | [],o,_=>⟨[],rfl,by simp only [RTs],by simp only [okTs],by simp [Z5]⟩
 | e::es,o,h=>by
  obtain ⟨g,m,h0,h1,h2,h3⟩:=h 0 sm
  obtain ⟨l,e1,e2,e3,e4⟩:=Zcf es (o+15) fun i hi=>by
   have:=h (i+1) (by simpa using hi)
   rw [show o+15+i*15=o+(i+1)*15 by omega]
   simpa only [List.getElem_cons_succ] using this
  refine ⟨g::l,by simp [e1],?_,?_,?_⟩
  ·simp only [RTs]
   exact ⟨b,o,m,rfl,trivial,by simpa using h0,h1,e2⟩
  ·simp only [okTs]
   exact ⟨h2,e3⟩
  simp only [List.getElem_cons_zero] at h3
  simp only [Z5,List.map_cons,Rows.uptoBulkAll];omega
theorem Zcd {b:Nat}:∀(es:List (DataW H×List MemPlace)) (o:Nat),(∀i (h:i < es.length),∃(g:Int),At W b (o+i*1) [.int .i64 g]∧Zv g∧1≤Rows.uptoBulk es[i].1) →
  ∃l:List Int,l.length=es.length∧RIs W (fun _=>True) l (some ⟨b,o,none⟩)∧okIs l∧l.length≤Rows.uptoBulkAll (es.map (·.1))
 | [],o,_=>⟨[],rfl,by simp only [RIs],by simp only [okIs],by simp [List.length]⟩
 | e::es,o,h=>by
  obtain ⟨g,h0,h2,h3⟩:=h 0 sm
  obtain ⟨l,e1,e2,e3,e4⟩:=Zcd es (o+1) fun i hi=>by
   have:=h (i+1) (by simpa using hi)
   rw [show o+1+i*1=o+(i+1)*1 by omega]
   simpa only [List.getElem_cons_succ] using this
  refine ⟨g::l,by simp [e1],?_,?_,?_⟩
  ·simp only [RIs]
   exact ⟨b,o,rfl,trivial,by simpa using h0,e2⟩
  ·simp only [okIs]
   exact ⟨h2,e3⟩
  simp only [List.getElem_cons_zero] at h3
  simp only [List.length,List.map_cons,Rows.uptoBulkAll];omega
theorem q13 {p:Prop} (h:p:=by
 have:=Ql (elems.map (·.1)) i (by simpa using hi)
 simp only [List.getElem_map] at this
 omega):p:=h
theorem q10 {p:Prop} (h:p:=by
 obtain ⟨_,cs,h3,h4⟩:=hkey i hi
 have hbi:Rows.uptoBulk elems[i].1≤B:=by
  exact q13
 obtain ⟨g,m,rfl,g1,g2,g3⟩:=IH n om cs _ h3 hbi
 exact ⟨g,m,h4,g1,g2,g3⟩):p:=h
theorem q11 {p:Prop} (h:p:=by
 have h2:=hel i om
 rw [List.getElem?_eq_getElem hi] at h2
 obtain ⟨hs,cs,_,h3,h4⟩:=UO (by decide) h2
 exact ⟨hs,cs,h3,h4⟩):p:=h
theorem q12 {p:Prop} (h:p:=by
 have hs:=(hkey 0 (by rw [←e1];simp)).1 rfl
 obtain ⟨b,o,s⟩:=a
 simp only at hs
 subst hs
 exact e2):p:=h
theorem Zgs {N:Nat} (IH:∀n,n < N→∀(cs:List Value) (y:DataW H×List MemPlace),DataW.trod enc prog W 0 sp held n 24 cs=some y→Rows.uptoBulk y.1≤B→∃(g:GV) (m:VA),cs=[.int .u8 g.k,.int .i64 g.n,.slice m.a g.l.length m.c]∧RV W (fun _=>True) g m.a∧okV g∧Zg g≤Rows.uptoBulk y.1) {v:Value} {y:DataW H×List MemPlace}
  (h:DataW.trod enc prog W 0 sp held N 22 [v]=some y) (hb:Rows.uptoBulk y.1≤B):
  ∃(l:List GV) (a:Option Addr) (c:Nat),v=.slice a l.length c∧RVs W (fun _=>True) l a∧okVs l∧Zi l≤Rows.uptoBulk y.1:=by
 rcases DataW.trod_slice underlying22 h with ⟨h1,rfl⟩|⟨a,len,cap,elems,rest,n,rfl,h1,rfl,_,_,_,hlen,hel,_⟩
 ·simp only [List.cons.injEq,and_true] at h1
  subst h1
  exact ⟨[],none,0,rfl,by simp only [RVs],by simp only [okVs],by simp [Zi]⟩
 simp only [List.cons.injEq,and_true] at h1
 subst h1
 have hbe:Rows.uptoBulkAll (elems.map (·.1))+1≤B:=by simp only [Rows.uptoBulk] at hb;omega
 have hk:prog.cellsOf 24=3:=kr
 rw [hk] at hel
 have hkey:∀i (h:i < elems.length),(i=0→a.spot=none)∧∃cs,DataW.trod enc prog W 0 sp held n 24 cs=some elems[i]∧At W a.block (a.off+i*3) cs:=fun i hi=>by
  exact q11
 obtain ⟨l,e1,e2,e3,e4⟩:=Zcg (W:=W) (b:=a.block) elems a.off fun i hi=>by
  exact q10
 refine ⟨l,some a,cap,by rw [e1,hlen],?_,e3,?_⟩
 ·cases l with
  | nil=>simp only [RVs]
  | cons x r=>
   exact q12
 simp only [Rows.uptoBulk];omega
theorem ZiL {n:Int} (h:(Lit.int .u8 n).wf=true):Yg n:=bounds_u8 h
theorem Jh {n:Int} (h:(Lit.int .i64 n).wf=true):Zv n:=bounds_i64 h
set_option maxRecDepth 100000
include hB in
theorem Zfl:∀(N:Nat) (cs:List Value) (y:DataW H×List MemPlace),DataW.trod enc prog W 0 sp held N 24 cs=some y→Rows.uptoBulk y.1≤B→∃(g:GV) (m:VA),cs=[.int .u8 g.k,.int .i64 g.n,.slice m.a g.l.length m.c]∧RV W (fun _=>True) g m.a∧okV g∧Zg g≤Rows.uptoBulk y.1:=by
 intro N
 induction N using Nat.strongRecOn with
 | _ N ih=>
  intro cs y h hb
  obtain ⟨xs,n,rfl,rfl,hl,hxl,hf⟩:=DataW.trod_struct underlying24 h
  have hc5:prog.cellsOf 5=1:=kr
  have hc2:prog.cellsOf 2=1:=kr
  have hcs:prog.cellsOf 22=1:=kr
  have hcv:prog.cellsOf 24=3:=kr
  rw [hcv] at hl
  match cs,hl with
  | [c0,c1,c2],_=>
  match xs,hxl with
  | [x0,x1,x2],_=>
  have h0:DataW.trod enc prog W 0 sp held n 5 (([c0,c1,c2].drop 0).take (prog.cellsOf 5))=([x0,x1,x2]:List (DataW H×List MemPlace))[0]? :=hf 0 _ rfl
  have h1:DataW.trod enc prog W 0 sp held n 2 (([c0,c1,c2].drop 1).take (prog.cellsOf 2))=([x0,x1,x2]:List (DataW H×List MemPlace))[1]? :=hf 1 _ rfl
  have h2:DataW.trod enc prog W 0 sp held n 22 (([c0,c1,c2].drop 2).take (prog.cellsOf 22))=([x0,x1,x2]:List (DataW H×List MemPlace))[2]? :=hf 2 _ rfl
  simp only [hc5,hc2,hcs,List.drop_zero,List.drop_succ_cons,List.take_succ_cons,List.take_zero,List.getElem?_cons_zero,List.getElem?_cons_succ] at h0 h1 h2
  obtain ⟨k,e0,rfl,w0⟩:=DataW.trod_int underlying5 h0
  obtain ⟨q,e1,rfl,w1⟩:=DataW.trod_int underlying2 h1
  simp only [List.cons.injEq,and_true] at e0 e1
  subst e0 e1
  have hb2:1+(1+Rows.uptoBulk x2.1)+1≤B:=by simpa [Rows.uptoBulk,Rows.uptoBulkAll,Nat.add_assoc] using hb
  obtain ⟨l,a,c,rfl,r1,r2,r3⟩:=Zgs (B:=B) (fun n' hn cs y=>ih n' om cs y) h2 om
  have hll:=WW l
  refine ⟨⟨k,q,l⟩,⟨a,c⟩,rfl,by simp only [RV];exact r1,ZA.2 ⟨ZiL w0,Jh w1,by simp only;omega,r2⟩,?_⟩
  simp only [Zg,List.map_cons,List.map_nil,Rows.uptoBulk,Rows.uptoBulkAll]
  omega
set_option maxRecDepth 512
theorem Zjs {N:Nat} (IH:∀n,n < N→∀(cs:List Value) (y:DataW H×List MemPlace),DataW.trod enc prog W 0 sp held n 28 cs=some y→Rows.uptoBulk y.1≤B→∃(g:GP) (m:PA),cs=[.int .u8 g.k,.int .u8 g.v.k,.int .i64 g.v.n,.slice m.va g.v.l.length m.vc,.int .i64 g.n,.slice m.a g.a.length m.c]∧RP W (fun _=>True) g m∧okP g∧Zm g≤Rows.uptoBulk y.1) {v:Value} {y:DataW H×List MemPlace}
  (h:DataW.trod enc prog W 0 sp held N 26 [v]=some y) (hb:Rows.uptoBulk y.1≤B):
  ∃(l:List GP) (a:Option Addr) (c:Nat),v=.slice a l.length c∧RPs W (fun _=>True) l a∧okPs l∧ZY l≤Rows.uptoBulk y.1:=by
 rcases DataW.trod_slice underlying26 h with ⟨h1,rfl⟩|⟨a,len,cap,elems,rest,n,rfl,h1,rfl,_,_,_,hlen,hel,_⟩
 ·simp only [List.cons.injEq,and_true] at h1
  subst h1
  exact ⟨[],none,0,rfl,by simp only [RPs],by simp only [okPs],by simp [ZY]⟩
 simp only [List.cons.injEq,and_true] at h1
 subst h1
 have hbe:Rows.uptoBulkAll (elems.map (·.1))+1≤B:=by simp only [Rows.uptoBulk] at hb;omega
 have hk:prog.cellsOf 28=6:=kr
 rw [hk] at hel
 have hkey:∀i (h:i < elems.length),(i=0→a.spot=none)∧∃cs,DataW.trod enc prog W 0 sp held n 28 cs=some elems[i]∧At W a.block (a.off+i*6) cs:=fun i hi=>by
  exact q11
 obtain ⟨l,e1,e2,e3,e4⟩:=Zce (W:=W) (b:=a.block) elems a.off fun i hi=>by
  exact q10
 refine ⟨l,some a,cap,by rw [e1,hlen],?_,e3,?_⟩
 ·cases l with
  | nil=>simp only [RPs]
  | cons x r=>
   exact q12
 simp only [Rows.uptoBulk];omega
set_option maxRecDepth 100000
include hB in
theorem Zir:∀(N:Nat) (cs:List Value) (y:DataW H×List MemPlace),DataW.trod enc prog W 0 sp held N 28 cs=some y→Rows.uptoBulk y.1≤B→∃(g:GP) (m:PA),cs=[.int .u8 g.k,.int .u8 g.v.k,.int .i64 g.v.n,.slice m.va g.v.l.length m.vc,.int .i64 g.n,.slice m.a g.a.length m.c]∧RP W (fun _=>True) g m∧okP g∧Zm g≤Rows.uptoBulk y.1:=by
 intro N
 induction N using Nat.strongRecOn with
 | _ N ih=>
  intro cs y h hb
  obtain ⟨xs,n,rfl,rfl,hl,hxl,hf⟩:=DataW.trod_struct underlying28 h
  have hc5:prog.cellsOf 5=1:=kr
  have hc2:prog.cellsOf 2=1:=kr
  have hcs:prog.cellsOf 26=1:=kr
  have hcv:prog.cellsOf 24=3:=kr
  have hcp:prog.cellsOf 28=6:=kr
  rw [hcp] at hl
  match cs,hl with
  | [c0,c1,c2,c3,c4,c5],_=>
  match xs,hxl with
  | [x0,x1,x2,x3],_=>
  have h0:DataW.trod enc prog W 0 sp held n 5 (([c0,c1,c2,c3,c4,c5].drop 0).take (prog.cellsOf 5))=([x0,x1,x2,x3]:List (DataW H×List MemPlace))[0]? :=hf 0 _ rfl
  have h1:DataW.trod enc prog W 0 sp held n 24 (([c0,c1,c2,c3,c4,c5].drop 1).take (prog.cellsOf 24))=([x0,x1,x2,x3]:List (DataW H×List MemPlace))[1]? :=hf 1 _ rfl
  have h2:DataW.trod enc prog W 0 sp held n 2 (([c0,c1,c2,c3,c4,c5].drop 4).take (prog.cellsOf 2))=([x0,x1,x2,x3]:List (DataW H×List MemPlace))[2]? :=hf 2 _ rfl
  have h3:DataW.trod enc prog W 0 sp held n 26 (([c0,c1,c2,c3,c4,c5].drop 5).take (prog.cellsOf 26))=([x0,x1,x2,x3]:List (DataW H×List MemPlace))[3]? :=hf 3 _ rfl
  simp only [hc5,hc2,hcs,hcv,List.drop_zero,List.drop_succ_cons,List.take_succ_cons,List.take_zero,List.getElem?_cons_zero,List.getElem?_cons_succ] at h0 h1 h2 h3
  obtain ⟨k,e0,rfl,w0⟩:=DataW.trod_int underlying5 h0
  obtain ⟨q,e1,rfl,w1⟩:=DataW.trod_int underlying2 h2
  simp only [List.cons.injEq,and_true] at e0 e1
  subst e0 e1
  have hb2:1+(Rows.uptoBulk x1.1+(1+Rows.uptoBulk x3.1))+1≤B:=by simpa [Rows.uptoBulk,Rows.uptoBulkAll,Nat.add_assoc] using hb
  obtain ⟨g,m,ev,v1,v2,v3⟩:=Zfl hB _ _ _ h1 om
  simp only [List.cons.injEq,and_true] at ev
  obtain ⟨rfl,rfl,rfl⟩:=ev
  obtain ⟨l,a,c,rfl,r1,r2,r3⟩:=Zjs (B:=B) (fun n' hn cs y=>ih n' om cs y) h3 om
  have hll:=Km l
  refine ⟨⟨k,g,q,l⟩,⟨m.a,m.c,a,c⟩,rfl,by simp only [RP];exact ⟨v1,r1⟩,Y3.2 ⟨ZiL w0,v2,Jh w1,by simp only;omega,r2⟩,?_⟩
  simp only [Zm,List.map_cons,List.map_nil,Rows.uptoBulk,Rows.uptoBulkAll]
  omega
set_option maxRecDepth 512
theorem Zkq:∀(N:Nat) (cs:List Value) (y:DataW H×List MemPlace),DataW.trod enc prog W 0 sp held N 2 cs=some y→Rows.uptoBulk y.1≤B→∃g:Int,cs=[.int .i64 g]∧Zv g∧1≤Rows.uptoBulk y.1:=by
 intro N cs y h _
 obtain ⟨q,e1,rfl,w1⟩:=DataW.trod_int underlying2 h
 exact ⟨q,e1,Jh w1,ZhM _⟩
theorem Zjr {N:Nat} (IH:∀n,n < N→∀(cs:List Value) (y:DataW H×List MemPlace),DataW.trod enc prog W 0 sp held n 2 cs=some y→Rows.uptoBulk y.1≤B→∃g:Int,cs=[.int .i64 g]∧Zv g∧1≤Rows.uptoBulk y.1) {v:Value} {y:DataW H×List MemPlace}
  (h:DataW.trod enc prog W 0 sp held N 25 [v]=some y) (hb:Rows.uptoBulk y.1≤B):
  ∃(l:List Int) (a:Option Addr) (c:Nat),v=.slice a l.length c∧RIs W (fun _=>True) l a∧okIs l∧l.length≤Rows.uptoBulk y.1:=by
 rcases DataW.trod_slice underlying25 h with ⟨h1,rfl⟩|⟨a,len,cap,elems,rest,n,rfl,h1,rfl,_,_,_,hlen,hel,_⟩
 ·simp only [List.cons.injEq,and_true] at h1
  subst h1
  exact ⟨[],none,0,rfl,by simp only [RIs],by simp only [okIs],by simp [List.length]⟩
 simp only [List.cons.injEq,and_true] at h1
 subst h1
 have hbe:Rows.uptoBulkAll (elems.map (·.1))+1≤B:=by simp only [Rows.uptoBulk] at hb;omega
 have hk:prog.cellsOf 2=1:=kr
 rw [hk] at hel
 have hkey:∀i (h:i < elems.length),(i=0→a.spot=none)∧∃cs,DataW.trod enc prog W 0 sp held n 2 cs=some elems[i]∧At W a.block (a.off+i*1) cs:=fun i hi=>by
  exact q11
 obtain ⟨l,e1,e2,e3,e4⟩:=Zcd (W:=W) (b:=a.block) elems a.off fun i hi=>by
  obtain ⟨_,cs,h3,h4⟩:=hkey i hi
  have hbi:Rows.uptoBulk elems[i].1≤B:=by
   exact q13
  obtain ⟨g,rfl,g1,g2⟩:=IH n om cs _ h3 hbi
  exact ⟨g,h4,g1,g2⟩
 refine ⟨l,some a,cap,by rw [e1,hlen],?_,e3,?_⟩
 ·cases l with
  | nil=>simp only [RIs]
  | cons x r=>
   exact q12
 simp only [Rows.uptoBulk];omega
theorem Zjt {N:Nat} (IH:∀n,n < N→∀(cs:List Value) (y:DataW H×List MemPlace),DataW.trod enc prog W 0 sp held n 31 cs=some y→Rows.uptoBulk y.1≤B→∃(g:GT) (m:TA),cs=[.int .u8 g.k,.int .u8 g.v.k,.int .i64 g.v.n,.slice m.va g.v.l.length m.vc,.slice m.vsa g.vs.length m.vsc,.int .i64 g.lo,.int .i64 g.hi,.slice m.wa g.w.length m.wc,.int .u8 g.p.k,.int .u8 g.p.v.k,.int .i64 g.p.v.n,.slice m.pva g.p.v.l.length m.pvc,.int .i64 g.p.n,.slice m.pa g.p.a.length m.pc,.slice m.a g.a.length m.c]∧RT W (fun _=>True) g m∧okT g∧Zb g≤Rows.uptoBulk y.1) {v:Value} {y:DataW H×List MemPlace}
  (h:DataW.trod enc prog W 0 sp held N 29 [v]=some y) (hb:Rows.uptoBulk y.1≤B):
  ∃(l:List GT) (a:Option Addr) (c:Nat),v=.slice a l.length c∧RTs W (fun _=>True) l a∧okTs l∧Z5 l≤Rows.uptoBulk y.1:=by
 rcases DataW.trod_slice underlying29 h with ⟨h1,rfl⟩|⟨a,len,cap,elems,rest,n,rfl,h1,rfl,_,_,_,hlen,hel,_⟩
 ·simp only [List.cons.injEq,and_true] at h1
  subst h1
  exact ⟨[],none,0,rfl,by simp only [RTs],by simp only [okTs],by simp [Z5]⟩
 simp only [List.cons.injEq,and_true] at h1
 subst h1
 have hbe:Rows.uptoBulkAll (elems.map (·.1))+1≤B:=by simp only [Rows.uptoBulk] at hb;omega
 have hk:prog.cellsOf 31=15:=kr
 rw [hk] at hel
 have hkey:∀i (h:i < elems.length),(i=0→a.spot=none)∧∃cs,DataW.trod enc prog W 0 sp held n 31 cs=some elems[i]∧At W a.block (a.off+i*15) cs:=fun i hi=>by
  exact q11
 obtain ⟨l,e1,e2,e3,e4⟩:=Zcf (W:=W) (b:=a.block) elems a.off fun i hi=>by
  exact q10
 refine ⟨l,some a,cap,by rw [e1,hlen],?_,e3,?_⟩
 ·cases l with
  | nil=>simp only [RTs]
  | cons x r=>
   exact q12
 simp only [Rows.uptoBulk];omega
set_option maxRecDepth 100000
include hB in
theorem Zkr:∀(N:Nat) (cs:List Value) (y:DataW H×List MemPlace),DataW.trod enc prog W 0 sp held N 31 cs=some y→Rows.uptoBulk y.1≤B→∃(g:GT) (m:TA),cs=[.int .u8 g.k,.int .u8 g.v.k,.int .i64 g.v.n,.slice m.va g.v.l.length m.vc,.slice m.vsa g.vs.length m.vsc,.int .i64 g.lo,.int .i64 g.hi,.slice m.wa g.w.length m.wc,.int .u8 g.p.k,.int .u8 g.p.v.k,.int .i64 g.p.v.n,.slice m.pva g.p.v.l.length m.pvc,.int .i64 g.p.n,.slice m.pa g.p.a.length m.pc,.slice m.a g.a.length m.c]∧RT W (fun _=>True) g m∧okT g∧Zb g≤Rows.uptoBulk y.1:=by
 intro N
 induction N using Nat.strongRecOn with
 | _ N ih=>
  intro cs y h hb
  obtain ⟨xs,n,rfl,rfl,hl,hxl,hf⟩:=DataW.trod_struct underlying31 h
  have hc5:prog.cellsOf 5=1:=kr
  have hc2:prog.cellsOf 2=1:=kr
  have hcs:prog.cellsOf 22=1:=kr
  have hci:prog.cellsOf 25=1:=kr
  have hct:prog.cellsOf 29=1:=kr
  have hcv:prog.cellsOf 24=3:=kr
  have hcp:prog.cellsOf 28=6:=kr
  have hc15:prog.cellsOf 31=15:=kr
  rw [hc15] at hl
  match cs,hl with
  | [c0,c1,c2,c3,c4,c5,c6,c7,c8,c9,ca,cb,cc,cd,ce],_=>
  match xs,hxl with
  | [x0,x1,x2,x3,x4,x5,x6,x7],_=>
  have h0:DataW.trod enc prog W 0 sp held n 5 (([c0,c1,c2,c3,c4,c5,c6,c7,c8,c9,ca,cb,cc,cd,ce].drop 0).take (prog.cellsOf 5))=([x0,x1,x2,x3,x4,x5,x6,x7]:List (DataW H×List MemPlace))[0]? :=hf 0 _ rfl
  have h1:DataW.trod enc prog W 0 sp held n 24 (([c0,c1,c2,c3,c4,c5,c6,c7,c8,c9,ca,cb,cc,cd,ce].drop 1).take (prog.cellsOf 24))=([x0,x1,x2,x3,x4,x5,x6,x7]:List (DataW H×List MemPlace))[1]? :=hf 1 _ rfl
  have h2:DataW.trod enc prog W 0 sp held n 22 (([c0,c1,c2,c3,c4,c5,c6,c7,c8,c9,ca,cb,cc,cd,ce].drop 4).take (prog.cellsOf 22))=([x0,x1,x2,x3,x4,x5,x6,x7]:List (DataW H×List MemPlace))[2]? :=hf 2 _ rfl
  have h3:DataW.trod enc prog W 0 sp held n 2 (([c0,c1,c2,c3,c4,c5,c6,c7,c8,c9,ca,cb,cc,cd,ce].drop 5).take (prog.cellsOf 2))=([x0,x1,x2,x3,x4,x5,x6,x7]:List (DataW H×List MemPlace))[3]? :=hf 3 _ rfl
  have h4:DataW.trod enc prog W 0 sp held n 2 (([c0,c1,c2,c3,c4,c5,c6,c7,c8,c9,ca,cb,cc,cd,ce].drop 6).take (prog.cellsOf 2))=([x0,x1,x2,x3,x4,x5,x6,x7]:List (DataW H×List MemPlace))[4]? :=hf 4 _ rfl
  have h5:DataW.trod enc prog W 0 sp held n 25 (([c0,c1,c2,c3,c4,c5,c6,c7,c8,c9,ca,cb,cc,cd,ce].drop 7).take (prog.cellsOf 25))=([x0,x1,x2,x3,x4,x5,x6,x7]:List (DataW H×List MemPlace))[5]? :=hf 5 _ rfl
  have h6:DataW.trod enc prog W 0 sp held n 28 (([c0,c1,c2,c3,c4,c5,c6,c7,c8,c9,ca,cb,cc,cd,ce].drop 8).take (prog.cellsOf 28))=([x0,x1,x2,x3,x4,x5,x6,x7]:List (DataW H×List MemPlace))[6]? :=hf 6 _ rfl
  have h7:DataW.trod enc prog W 0 sp held n 29 (([c0,c1,c2,c3,c4,c5,c6,c7,c8,c9,ca,cb,cc,cd,ce].drop 14).take (prog.cellsOf 29))=([x0,x1,x2,x3,x4,x5,x6,x7]:List (DataW H×List MemPlace))[7]? :=hf 7 _ rfl
  simp only [hc5,hc2,hcs,hci,hct,hcv,hcp,List.drop_zero,List.drop_succ_cons,List.take_succ_cons,List.take_zero,List.getElem?_cons_zero,List.getElem?_cons_succ] at h0 h1 h2 h3 h4 h5 h6 h7
  obtain ⟨k,e0,rfl,w0⟩:=DataW.trod_int underlying5 h0
  obtain ⟨lo,e1,rfl,w1⟩:=DataW.trod_int underlying2 h3
  obtain ⟨hi,e2,rfl,w2⟩:=DataW.trod_int underlying2 h4
  simp only [List.cons.injEq,and_true] at e0 e1 e2
  subst e0 e1 e2
  have hb2:1+(Rows.uptoBulk x1.1+(Rows.uptoBulk x2.1+(1+(1+(Rows.uptoBulk x5.1+(Rows.uptoBulk x6.1+Rows.uptoBulk x7.1))))))+1≤B:=by simpa [Rows.uptoBulk,Rows.uptoBulkAll,Nat.add_assoc] using hb
  obtain ⟨g,m,ev,v1,v2,v3⟩:=Zfl hB _ _ _ h1 om
  simp only [List.cons.injEq,and_true] at ev
  obtain ⟨rfl,rfl,rfl⟩:=ev
  obtain ⟨vs,vsa,vsc,rfl,s1,s2,s3⟩:=Zgs (B:=B) (fun n' hn cs y=>Zfl hB n' cs y) h2 om
  obtain ⟨ws,wa,wc,rfl,i1,i2,i3⟩:=Zjr (B:=B) (fun n' hn cs y=>Zkq n' cs y) h5 om
  obtain ⟨p,mp,ep,p1,p2,p3⟩:=Zir hB _ _ _ h6 om
  simp only [List.cons.injEq,and_true] at ep
  obtain ⟨rfl,rfl,rfl,rfl,rfl,rfl⟩:=ep
  obtain ⟨l,a,c,rfl,r1,r2,r3⟩:=Zjt (B:=B) (fun n' hn cs y=>ih n' om cs y) h7 om
  have hll:=Kn l
  have hlv:=WW vs
  refine ⟨⟨k,g,vs,lo,hi,ws,p,l⟩,⟨m.a,m.c,vsa,vsc,wa,wc,mp.va,mp.vc,mp.a,mp.c,a,c⟩,rfl,by simp only [RT];exact ⟨v1,s1,i1,p1,r1⟩,Ze.2 ⟨ZiL w0,v2,⟨(show vs.length≤_ by omega),s2⟩,Jh w1,Jh w2,⟨(show ws.length≤_ by omega),i2⟩,p2,(show l.length≤_ by omega),r2⟩,?_⟩
  simp only [Zb,List.map_cons,List.map_nil,Rows.uptoBulk,Rows.uptoBulkAll]
  omega
end
end
end Go.Proofs.YtkdffbdnjfgpeaaGreat
