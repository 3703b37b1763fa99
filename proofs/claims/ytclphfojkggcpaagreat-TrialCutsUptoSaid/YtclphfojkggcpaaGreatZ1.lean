/- What the proofs of the Trial statements need: part 2. -/
import Derived.OpenShut
import Derived.ProofKit
import Derived.Test.YtclphfojkggcpaaGreatProg
import Derived.Test.YtclphfojkggcpaaGreatRows
import Derived.Test.YtclphfojkggcpaaGreatZ0
set_option linter.unusedVariables false
set_option linter.unusedSimpArgs false
namespace Go.Proofs.YtclphfojkggcpaaGreat
open Go Go.RowKit
section
section
variable {H:Type} {enc:TypeId×Value→H} {W:World} {sp:Nat→Bool} {held:Bool} {B:Nat} (hB:B≤1048576)
theorem bulk_one (d:DataW H):1≤Rows.uptoBulk d:=by
 cases d with
 | lit l=>cases l<;>simp [Rows.uptoBulk]
 | nil=>simp [Rows.uptoBulk]
 | ptr d=>simp [Rows.uptoBulk]
 | slice elems spare=>simp [Rows.uptoBulk]
 | agg parts=>simp [Rows.uptoBulk]
 | iface t d=>simp [Rows.uptoBulk]
 | map entries=>simp [Rows.uptoBulk]
 | held h=>simp [Rows.uptoBulk]
theorem bulk_get:∀(l:List (DataW H)) (i:Nat) (h:i < l.length),Rows.uptoBulk l[i]≤Rows.uptoBulkAll l
 | d::r,0,_=>by simp only [List.getElem_cons_zero,Rows.uptoBulkAll];omega
 | d::r,i+1,h=>by
  have:=bulk_get r i (by simpa using h)
  simp only [List.getElem_cons_succ,Rows.uptoBulkAll];omega
theorem At_of_cells {b:Nat}:∀(l:List Value) (o:Nat),(∀j,j < l.length→W.cell? ⟨b,o+j,none⟩=l[j]?)→At W b o l
 | [],_,_=>trivial
 | v::l,o,h=>⟨by have:=h 0 (by simp);simpa using this,At_of_cells l (o+1) fun j hj=>by
   have:=h (j+1) (by simpa using hj)
   rw [show o+1+j=o+(j+1) by omega,this];rfl⟩
theorem elem_cells {k n i:Nat} {e:TypeId} {a:Addr} {y:DataW H×List MemPlace} (hk:0 < k) (h:(W.cells? 0 (a.add (i*k)) k).bind (DataW.trod enc Tryz.prog W 0 sp held n e)=some y):
  (i=0→a.spot=none)∧∃cs,cs.length=k∧DataW.trod enc Tryz.prog W 0 sp held n e cs=some y∧At W a.block (a.off+i*k) cs:=by
 cases hc:W.cells? 0 (a.add (i*k)) k with
 | none=>rw [hc] at h;exact absurd h (by simp)
 | some cs=>
  rw [hc] at h
  obtain ⟨_,hl,hcell⟩:=World.cells?_some hc
  have h0:=hcell 0 hk
  rw [List.getElem?_eq_getElem (by omega)] at h0
  have hsp:=World.cell?_spot h0
  obtain ⟨b,o,s⟩:=a
  by_cases hik:i*k=0
  ·have hs:s=none:=by simpa [Addr.add,hik] using hsp
   subst hs
   refine ⟨fun _=>rfl,cs,hl,h,At_of_cells cs _ fun j hj=>?_⟩
   have h1:=hcell j (by omega)
   rw [←h1]
   by_cases hj0:j=0
   ·simp [Addr.add,hik,hj0]
   ·simp [Addr.add,hik,hj0]
  ·refine ⟨fun h=>absurd (by rw [h];simp) hik,cs,hl,h,At_of_cells cs _ fun j hj=>?_⟩
   have h1:=hcell j (by omega)
   rw [←h1]
   by_cases hj0:j=0
   ·simp [Addr.add,hik,hj0]
   ·simp [Addr.add,hik,hj0,Nat.add_assoc]
theorem build_RVs {b:Nat}:∀(es:List (DataW H×List MemPlace)) (o:Nat),(∀i (h:i < es.length),∃(g:GV) (m:VA),At W b (o+i*3) [.int .u8 g.k,.int .i64 g.n,.slice m.a g.l.length m.c]∧RV W (fun _=>True) g m.a∧okV g∧sizeV g≤Rows.uptoBulk es[i].1) →
  ∃l:List GV,l.length=es.length∧RVs W (fun _=>True) l (some ⟨b,o,none⟩)∧okVs l∧sizeVs l≤Rows.uptoBulkAll (es.map (·.1))
 | [],o,_=>⟨[],rfl,by simp only [RVs],by simp only [okVs],by simp [sizeVs]⟩
 | e::es,o,h=>by
  obtain ⟨g,m,h0,h1,h2,h3⟩:=h 0 (by simp)
  obtain ⟨l,e1,e2,e3,e4⟩:=build_RVs es (o+3) fun i hi=>by
   have:=h (i+1) (by simpa using hi)
   rw [show o+3+i*3=o+(i+1)*3 by omega]
   simpa only [List.getElem_cons_succ] using this
  refine ⟨g::l,by simp [e1],?_,?_,?_⟩
  ·simp only [RVs]
   exact ⟨b,o,m,rfl,trivial,by simpa using h0,h1,e2,Fz_true _ _ _⟩
  ·simp only [okVs]
   exact ⟨h2,e3⟩
  ·simp only [List.getElem_cons_zero] at h3
   simp only [sizeVs,List.map_cons,Rows.uptoBulkAll];omega
theorem build_RPs {b:Nat}:∀(es:List (DataW H×List MemPlace)) (o:Nat),(∀i (h:i < es.length),∃(g:GP) (m:PA),At W b (o+i*6) [.int .u8 g.k,.int .u8 g.v.k,.int .i64 g.v.n,.slice m.va g.v.l.length m.vc,.int .i64 g.n,.slice m.a g.a.length m.c]∧RP W (fun _=>True) g m∧okP g∧sizeP g≤Rows.uptoBulk es[i].1) →
  ∃l:List GP,l.length=es.length∧RPs W (fun _=>True) l (some ⟨b,o,none⟩)∧okPs l∧sizePs l≤Rows.uptoBulkAll (es.map (·.1))
 | [],o,_=>⟨[],rfl,by simp only [RPs],by simp only [okPs],by simp [sizePs]⟩
 | e::es,o,h=>by
  obtain ⟨g,m,h0,h1,h2,h3⟩:=h 0 (by simp)
  obtain ⟨l,e1,e2,e3,e4⟩:=build_RPs es (o+6) fun i hi=>by
   have:=h (i+1) (by simpa using hi)
   rw [show o+6+i*6=o+(i+1)*6 by omega]
   simpa only [List.getElem_cons_succ] using this
  refine ⟨g::l,by simp [e1],?_,?_,?_⟩
  ·simp only [RPs]
   exact ⟨b,o,m,rfl,trivial,by simpa using h0,h1,e2⟩
  ·simp only [okPs]
   exact ⟨h2,e3⟩
  ·simp only [List.getElem_cons_zero] at h3
   simp only [sizePs,List.map_cons,Rows.uptoBulkAll];omega
theorem build_RTs {b:Nat}:∀(es:List (DataW H×List MemPlace)) (o:Nat),(∀i (h:i < es.length),∃(g:GT) (m:TA),At W b (o+i*15) [.int .u8 g.k,.int .u8 g.v.k,.int .i64 g.v.n,.slice m.va g.v.l.length m.vc,.slice m.vsa g.vs.length m.vsc,.int .i64 g.lo,.int .i64 g.hi,.slice m.wa g.w.length m.wc,.int .u8 g.p.k,.int .u8 g.p.v.k,.int .i64 g.p.v.n,.slice m.pva g.p.v.l.length m.pvc,.int .i64 g.p.n,.slice m.pa g.p.a.length m.pc,.slice m.a g.a.length m.c]∧RT W (fun _=>True) g m∧okT g∧sizeT g≤Rows.uptoBulk es[i].1) →
  ∃l:List GT,l.length=es.length∧RTs W (fun _=>True) l (some ⟨b,o,none⟩)∧okTs l∧sizeTs l≤Rows.uptoBulkAll (es.map (·.1))
 | [],o,_=>⟨[],rfl,by simp only [RTs],by simp only [okTs],by simp [sizeTs]⟩
 | e::es,o,h=>by
  obtain ⟨g,m,h0,h1,h2,h3⟩:=h 0 (by simp)
  obtain ⟨l,e1,e2,e3,e4⟩:=build_RTs es (o+15) fun i hi=>by
   have:=h (i+1) (by simpa using hi)
   rw [show o+15+i*15=o+(i+1)*15 by omega]
   simpa only [List.getElem_cons_succ] using this
  refine ⟨g::l,by simp [e1],?_,?_,?_⟩
  ·simp only [RTs]
   exact ⟨b,o,m,rfl,trivial,by simpa using h0,h1,e2⟩
  ·simp only [okTs]
   exact ⟨h2,e3⟩
  ·simp only [List.getElem_cons_zero] at h3
   simp only [sizeTs,List.map_cons,Rows.uptoBulkAll];omega
theorem build_RIs {b:Nat}:∀(es:List (DataW H×List MemPlace)) (o:Nat),(∀i (h:i < es.length),∃(g:Int),At W b (o+i*1) [.int .i64 g]∧isI64 g∧1≤Rows.uptoBulk es[i].1) →
  ∃l:List Int,l.length=es.length∧RIs W (fun _=>True) l (some ⟨b,o,none⟩)∧okIs l∧l.length≤Rows.uptoBulkAll (es.map (·.1))
 | [],o,_=>⟨[],rfl,by simp only [RIs],by simp only [okIs],by simp [List.length]⟩
 | e::es,o,h=>by
  obtain ⟨g,h0,h2,h3⟩:=h 0 (by simp)
  obtain ⟨l,e1,e2,e3,e4⟩:=build_RIs es (o+1) fun i hi=>by
   have:=h (i+1) (by simpa using hi)
   rw [show o+1+i*1=o+(i+1)*1 by omega]
   simpa only [List.getElem_cons_succ] using this
  refine ⟨g::l,by simp [e1],?_,?_,?_⟩
  ·simp only [RIs]
   exact ⟨b,o,rfl,trivial,by simpa using h0,e2⟩
  ·simp only [okIs]
   exact ⟨h2,e3⟩
  ·simp only [List.getElem_cons_zero] at h3
   simp only [List.length,List.map_cons,Rows.uptoBulkAll];omega
theorem open_Vs {N:Nat} (IH:∀n,n < N→∀(cs:List Value) (y:DataW H×List MemPlace),DataW.trod enc Tryz.prog W 0 sp held n 24 cs=some y→Rows.uptoBulk y.1≤B→∃(g:GV) (m:VA),cs=[.int .u8 g.k,.int .i64 g.n,.slice m.a g.l.length m.c]∧RV W (fun _=>True) g m.a∧okV g∧sizeV g≤Rows.uptoBulk y.1) {v:Value} {y:DataW H×List MemPlace}
  (h:DataW.trod enc Tryz.prog W 0 sp held N 22 [v]=some y) (hb:Rows.uptoBulk y.1≤B):
  ∃(l:List GV) (a:Option Addr) (c:Nat),v=.slice a l.length c∧RVs W (fun _=>True) l a∧okVs l∧sizeVs l≤Rows.uptoBulk y.1:=by
 rcases DataW.trod_slice Tryz.underlying22 h with ⟨h1,rfl⟩|⟨a,len,cap,elems,rest,n,rfl,h1,rfl,_,_,_,hlen,hel,_⟩
 ·simp only [List.cons.injEq,and_true] at h1
  subst h1
  exact ⟨[],none,0,rfl,by simp only [RVs],by simp only [okVs],by simp [sizeVs]⟩
 ·simp only [List.cons.injEq,and_true] at h1
  subst h1
  have hbe:Rows.uptoBulkAll (elems.map (·.1))+1≤B:=by simp only [Rows.uptoBulk] at hb;omega
  have hk:Tryz.prog.cellsOf 24=3:=by kernel_rfl
  rw [hk] at hel
  have hkey:∀i (h:i < elems.length),(i=0→a.spot=none)∧∃cs,DataW.trod enc Tryz.prog W 0 sp held n 24 cs=some elems[i]∧At W a.block (a.off+i*3) cs:=fun i hi=>by
   have h2:=hel i (by omega)
   rw [List.getElem?_eq_getElem hi] at h2
   obtain ⟨hs,cs,_,h3,h4⟩:=elem_cells (by decide) h2
   exact ⟨hs,cs,h3,h4⟩
  obtain ⟨l,e1,e2,e3,e4⟩:=build_RVs (W:=W) (b:=a.block) elems a.off fun i hi=>by
   obtain ⟨_,cs,h3,h4⟩:=hkey i hi
   have hbi:Rows.uptoBulk elems[i].1≤B:=by
    have:=bulk_get (elems.map (·.1)) i (by simpa using hi)
    simp only [List.getElem_map] at this
    omega
   obtain ⟨g,m,rfl,g1,g2,g3⟩:=IH n (by omega) cs _ h3 hbi
   exact ⟨g,m,h4,g1,g2,g3⟩
  refine ⟨l,some a,cap,by rw [e1,hlen],?_,e3,?_⟩
  ·cases l with
   | nil=>simp only [RVs]
   | cons x r=>
    have hs:=(hkey 0 (by rw [←e1];simp)).1 rfl
    obtain ⟨b,o,s⟩:=a
    simp only at hs
    subst hs
    exact e2
  ·simp only [Rows.uptoBulk];omega
theorem u8_in {n:Int} (h:(Lit.int .u8 n).wf=true):isU8 n:=bounds_u8 h
theorem i64_in' {n:Int} (h:(Lit.int .i64 n).wf=true):isI64 n:=bounds_i64 h
include hB in
set_option maxRecDepth 100000 in
theorem open_V:∀(N:Nat) (cs:List Value) (y:DataW H×List MemPlace),DataW.trod enc Tryz.prog W 0 sp held N 24 cs=some y→Rows.uptoBulk y.1≤B→∃(g:GV) (m:VA),cs=[.int .u8 g.k,.int .i64 g.n,.slice m.a g.l.length m.c]∧RV W (fun _=>True) g m.a∧okV g∧sizeV g≤Rows.uptoBulk y.1:=by
 intro N
 induction N using Nat.strongRecOn with
 | _ N ih=>
  intro cs y h hb
  obtain ⟨xs,n,rfl,rfl,hl,hxl,hf⟩:=DataW.trod_struct Tryz.underlying24 h
  have hc5:Tryz.prog.cellsOf 5=1:=by kernel_rfl
  have hc2:Tryz.prog.cellsOf 2=1:=by kernel_rfl
  have hcs:Tryz.prog.cellsOf 22=1:=by kernel_rfl
  have hcv:Tryz.prog.cellsOf 24=3:=by kernel_rfl
  rw [hcv] at hl
  match cs,hl with
  | [c0,c1,c2],_=>
  match xs,hxl with
  | [x0,x1,x2],_=>
  have h0:DataW.trod enc Tryz.prog W 0 sp held n 5 (([c0,c1,c2].drop 0).take (Tryz.prog.cellsOf 5))=([x0,x1,x2]:List (DataW H×List MemPlace))[0]? :=hf 0 _ rfl
  have h1:DataW.trod enc Tryz.prog W 0 sp held n 2 (([c0,c1,c2].drop 1).take (Tryz.prog.cellsOf 2))=([x0,x1,x2]:List (DataW H×List MemPlace))[1]? :=hf 1 _ rfl
  have h2:DataW.trod enc Tryz.prog W 0 sp held n 22 (([c0,c1,c2].drop 2).take (Tryz.prog.cellsOf 22))=([x0,x1,x2]:List (DataW H×List MemPlace))[2]? :=hf 2 _ rfl
  simp only [hc5,hc2,hcs,List.drop_zero,List.drop_succ_cons,List.take_succ_cons,List.take_zero,List.getElem?_cons_zero,List.getElem?_cons_succ] at h0 h1 h2
  obtain ⟨k,e0,rfl,w0⟩:=DataW.trod_int Tryz.underlying5 h0
  obtain ⟨q,e1,rfl,w1⟩:=DataW.trod_int Tryz.underlying2 h1
  simp only [List.cons.injEq,and_true] at e0 e1
  subst e0 e1
  have hb2:1+(1+Rows.uptoBulk x2.1)+1≤B:=by simpa [Rows.uptoBulk,Rows.uptoBulkAll,Nat.add_assoc] using hb
  obtain ⟨l,a,c,rfl,r1,r2,r3⟩:=open_Vs (B:=B) (fun n' hn cs y=>ih n' (by omega) cs y) h2 (by omega)
  have hll:=sizeVs_length l
  refine ⟨⟨k,q,l⟩,⟨a,c⟩,rfl,by simp only [RV];exact r1,okV_iff.2 ⟨u8_in w0,i64_in' w1,by simp only;omega,r2⟩,?_⟩
  simp only [sizeV,List.map_cons,List.map_nil,Rows.uptoBulk,Rows.uptoBulkAll]
  omega
theorem open_Ps {N:Nat} (IH:∀n,n < N→∀(cs:List Value) (y:DataW H×List MemPlace),DataW.trod enc Tryz.prog W 0 sp held n 28 cs=some y→Rows.uptoBulk y.1≤B→∃(g:GP) (m:PA),cs=[.int .u8 g.k,.int .u8 g.v.k,.int .i64 g.v.n,.slice m.va g.v.l.length m.vc,.int .i64 g.n,.slice m.a g.a.length m.c]∧RP W (fun _=>True) g m∧okP g∧sizeP g≤Rows.uptoBulk y.1) {v:Value} {y:DataW H×List MemPlace}
  (h:DataW.trod enc Tryz.prog W 0 sp held N 26 [v]=some y) (hb:Rows.uptoBulk y.1≤B):
  ∃(l:List GP) (a:Option Addr) (c:Nat),v=.slice a l.length c∧RPs W (fun _=>True) l a∧okPs l∧sizePs l≤Rows.uptoBulk y.1:=by
 rcases DataW.trod_slice Tryz.underlying26 h with ⟨h1,rfl⟩|⟨a,len,cap,elems,rest,n,rfl,h1,rfl,_,_,_,hlen,hel,_⟩
 ·simp only [List.cons.injEq,and_true] at h1
  subst h1
  exact ⟨[],none,0,rfl,by simp only [RPs],by simp only [okPs],by simp [sizePs]⟩
 ·simp only [List.cons.injEq,and_true] at h1
  subst h1
  have hbe:Rows.uptoBulkAll (elems.map (·.1))+1≤B:=by simp only [Rows.uptoBulk] at hb;omega
  have hk:Tryz.prog.cellsOf 28=6:=by kernel_rfl
  rw [hk] at hel
  have hkey:∀i (h:i < elems.length),(i=0→a.spot=none)∧∃cs,DataW.trod enc Tryz.prog W 0 sp held n 28 cs=some elems[i]∧At W a.block (a.off+i*6) cs:=fun i hi=>by
   have h2:=hel i (by omega)
   rw [List.getElem?_eq_getElem hi] at h2
   obtain ⟨hs,cs,_,h3,h4⟩:=elem_cells (by decide) h2
   exact ⟨hs,cs,h3,h4⟩
  obtain ⟨l,e1,e2,e3,e4⟩:=build_RPs (W:=W) (b:=a.block) elems a.off fun i hi=>by
   obtain ⟨_,cs,h3,h4⟩:=hkey i hi
   have hbi:Rows.uptoBulk elems[i].1≤B:=by
    have:=bulk_get (elems.map (·.1)) i (by simpa using hi)
    simp only [List.getElem_map] at this
    omega
   obtain ⟨g,m,rfl,g1,g2,g3⟩:=IH n (by omega) cs _ h3 hbi
   exact ⟨g,m,h4,g1,g2,g3⟩
  refine ⟨l,some a,cap,by rw [e1,hlen],?_,e3,?_⟩
  ·cases l with
   | nil=>simp only [RPs]
   | cons x r=>
    have hs:=(hkey 0 (by rw [←e1];simp)).1 rfl
    obtain ⟨b,o,s⟩:=a
    simp only at hs
    subst hs
    exact e2
  ·simp only [Rows.uptoBulk];omega
include hB in
set_option maxRecDepth 100000 in
theorem open_P:∀(N:Nat) (cs:List Value) (y:DataW H×List MemPlace),DataW.trod enc Tryz.prog W 0 sp held N 28 cs=some y→Rows.uptoBulk y.1≤B→∃(g:GP) (m:PA),cs=[.int .u8 g.k,.int .u8 g.v.k,.int .i64 g.v.n,.slice m.va g.v.l.length m.vc,.int .i64 g.n,.slice m.a g.a.length m.c]∧RP W (fun _=>True) g m∧okP g∧sizeP g≤Rows.uptoBulk y.1:=by
 intro N
 induction N using Nat.strongRecOn with
 | _ N ih=>
  intro cs y h hb
  obtain ⟨xs,n,rfl,rfl,hl,hxl,hf⟩:=DataW.trod_struct Tryz.underlying28 h
  have hc5:Tryz.prog.cellsOf 5=1:=by kernel_rfl
  have hc2:Tryz.prog.cellsOf 2=1:=by kernel_rfl
  have hcs:Tryz.prog.cellsOf 26=1:=by kernel_rfl
  have hcv:Tryz.prog.cellsOf 24=3:=by kernel_rfl
  have hcp:Tryz.prog.cellsOf 28=6:=by kernel_rfl
  rw [hcp] at hl
  match cs,hl with
  | [c0,c1,c2,c3,c4,c5],_=>
  match xs,hxl with
  | [x0,x1,x2,x3],_=>
  have h0:DataW.trod enc Tryz.prog W 0 sp held n 5 (([c0,c1,c2,c3,c4,c5].drop 0).take (Tryz.prog.cellsOf 5))=([x0,x1,x2,x3]:List (DataW H×List MemPlace))[0]? :=hf 0 _ rfl
  have h1:DataW.trod enc Tryz.prog W 0 sp held n 24 (([c0,c1,c2,c3,c4,c5].drop 1).take (Tryz.prog.cellsOf 24))=([x0,x1,x2,x3]:List (DataW H×List MemPlace))[1]? :=hf 1 _ rfl
  have h2:DataW.trod enc Tryz.prog W 0 sp held n 2 (([c0,c1,c2,c3,c4,c5].drop 4).take (Tryz.prog.cellsOf 2))=([x0,x1,x2,x3]:List (DataW H×List MemPlace))[2]? :=hf 2 _ rfl
  have h3:DataW.trod enc Tryz.prog W 0 sp held n 26 (([c0,c1,c2,c3,c4,c5].drop 5).take (Tryz.prog.cellsOf 26))=([x0,x1,x2,x3]:List (DataW H×List MemPlace))[3]? :=hf 3 _ rfl
  simp only [hc5,hc2,hcs,hcv,List.drop_zero,List.drop_succ_cons,List.take_succ_cons,List.take_zero,List.getElem?_cons_zero,List.getElem?_cons_succ] at h0 h1 h2 h3
  obtain ⟨k,e0,rfl,w0⟩:=DataW.trod_int Tryz.underlying5 h0
  obtain ⟨q,e1,rfl,w1⟩:=DataW.trod_int Tryz.underlying2 h2
  simp only [List.cons.injEq,and_true] at e0 e1
  subst e0 e1
  have hb2:1+(Rows.uptoBulk x1.1+(1+Rows.uptoBulk x3.1))+1≤B:=by simpa [Rows.uptoBulk,Rows.uptoBulkAll,Nat.add_assoc] using hb
  obtain ⟨g,m,ev,v1,v2,v3⟩:=open_V hB _ _ _ h1 (by omega)
  simp only [List.cons.injEq,and_true] at ev
  obtain ⟨rfl,rfl,rfl⟩:=ev
  obtain ⟨l,a,c,rfl,r1,r2,r3⟩:=open_Ps (B:=B) (fun n' hn cs y=>ih n' (by omega) cs y) h3 (by omega)
  have hll:=sizePs_length l
  refine ⟨⟨k,g,q,l⟩,⟨m.a,m.c,a,c⟩,rfl,by simp only [RP];exact ⟨v1,r1⟩,okP_iff.2 ⟨u8_in w0,v2,i64_in' w1,by simp only;omega,r2⟩,?_⟩
  simp only [sizeP,List.map_cons,List.map_nil,Rows.uptoBulk,Rows.uptoBulkAll]
  omega
theorem open_I:∀(N:Nat) (cs:List Value) (y:DataW H×List MemPlace),DataW.trod enc Tryz.prog W 0 sp held N 2 cs=some y→Rows.uptoBulk y.1≤B→∃g:Int,cs=[.int .i64 g]∧isI64 g∧1≤Rows.uptoBulk y.1:=by
 intro N cs y h _
 obtain ⟨q,e1,rfl,w1⟩:=DataW.trod_int Tryz.underlying2 h
 exact ⟨q,e1,i64_in' w1,bulk_one _⟩
theorem open_Is {N:Nat} (IH:∀n,n < N→∀(cs:List Value) (y:DataW H×List MemPlace),DataW.trod enc Tryz.prog W 0 sp held n 2 cs=some y→Rows.uptoBulk y.1≤B→∃g:Int,cs=[.int .i64 g]∧isI64 g∧1≤Rows.uptoBulk y.1) {v:Value} {y:DataW H×List MemPlace}
  (h:DataW.trod enc Tryz.prog W 0 sp held N 25 [v]=some y) (hb:Rows.uptoBulk y.1≤B):
  ∃(l:List Int) (a:Option Addr) (c:Nat),v=.slice a l.length c∧RIs W (fun _=>True) l a∧okIs l∧l.length≤Rows.uptoBulk y.1:=by
 rcases DataW.trod_slice Tryz.underlying25 h with ⟨h1,rfl⟩|⟨a,len,cap,elems,rest,n,rfl,h1,rfl,_,_,_,hlen,hel,_⟩
 ·simp only [List.cons.injEq,and_true] at h1
  subst h1
  exact ⟨[],none,0,rfl,by simp only [RIs],by simp only [okIs],by simp [List.length]⟩
 ·simp only [List.cons.injEq,and_true] at h1
  subst h1
  have hbe:Rows.uptoBulkAll (elems.map (·.1))+1≤B:=by simp only [Rows.uptoBulk] at hb;omega
  have hk:Tryz.prog.cellsOf 2=1:=by kernel_rfl
  rw [hk] at hel
  have hkey:∀i (h:i < elems.length),(i=0→a.spot=none)∧∃cs,DataW.trod enc Tryz.prog W 0 sp held n 2 cs=some elems[i]∧At W a.block (a.off+i*1) cs:=fun i hi=>by
   have h2:=hel i (by omega)
   rw [List.getElem?_eq_getElem hi] at h2
   obtain ⟨hs,cs,_,h3,h4⟩:=elem_cells (by decide) h2
   exact ⟨hs,cs,h3,h4⟩
  obtain ⟨l,e1,e2,e3,e4⟩:=build_RIs (W:=W) (b:=a.block) elems a.off fun i hi=>by
   obtain ⟨_,cs,h3,h4⟩:=hkey i hi
   have hbi:Rows.uptoBulk elems[i].1≤B:=by
    have:=bulk_get (elems.map (·.1)) i (by simpa using hi)
    simp only [List.getElem_map] at this
    omega
   obtain ⟨g,rfl,g1,g2⟩:=IH n (by omega) cs _ h3 hbi
   exact ⟨g,h4,g1,g2⟩
  refine ⟨l,some a,cap,by rw [e1,hlen],?_,e3,?_⟩
  ·cases l with
   | nil=>simp only [RIs]
   | cons x r=>
    have hs:=(hkey 0 (by rw [←e1];simp)).1 rfl
    obtain ⟨b,o,s⟩:=a
    simp only at hs
    subst hs
    exact e2
  ·simp only [Rows.uptoBulk];omega
theorem open_Ts {N:Nat} (IH:∀n,n < N→∀(cs:List Value) (y:DataW H×List MemPlace),DataW.trod enc Tryz.prog W 0 sp held n 31 cs=some y→Rows.uptoBulk y.1≤B→∃(g:GT) (m:TA),cs=[.int .u8 g.k,.int .u8 g.v.k,.int .i64 g.v.n,.slice m.va g.v.l.length m.vc,.slice m.vsa g.vs.length m.vsc,.int .i64 g.lo,.int .i64 g.hi,.slice m.wa g.w.length m.wc,.int .u8 g.p.k,.int .u8 g.p.v.k,.int .i64 g.p.v.n,.slice m.pva g.p.v.l.length m.pvc,.int .i64 g.p.n,.slice m.pa g.p.a.length m.pc,.slice m.a g.a.length m.c]∧RT W (fun _=>True) g m∧okT g∧sizeT g≤Rows.uptoBulk y.1) {v:Value} {y:DataW H×List MemPlace}
  (h:DataW.trod enc Tryz.prog W 0 sp held N 29 [v]=some y) (hb:Rows.uptoBulk y.1≤B):
  ∃(l:List GT) (a:Option Addr) (c:Nat),v=.slice a l.length c∧RTs W (fun _=>True) l a∧okTs l∧sizeTs l≤Rows.uptoBulk y.1:=by
 rcases DataW.trod_slice Tryz.underlying29 h with ⟨h1,rfl⟩|⟨a,len,cap,elems,rest,n,rfl,h1,rfl,_,_,_,hlen,hel,_⟩
 ·simp only [List.cons.injEq,and_true] at h1
  subst h1
  exact ⟨[],none,0,rfl,by simp only [RTs],by simp only [okTs],by simp [sizeTs]⟩
 ·simp only [List.cons.injEq,and_true] at h1
  subst h1
  have hbe:Rows.uptoBulkAll (elems.map (·.1))+1≤B:=by simp only [Rows.uptoBulk] at hb;omega
  have hk:Tryz.prog.cellsOf 31=15:=by kernel_rfl
  rw [hk] at hel
  have hkey:∀i (h:i < elems.length),(i=0→a.spot=none)∧∃cs,DataW.trod enc Tryz.prog W 0 sp held n 31 cs=some elems[i]∧At W a.block (a.off+i*15) cs:=fun i hi=>by
   have h2:=hel i (by omega)
   rw [List.getElem?_eq_getElem hi] at h2
   obtain ⟨hs,cs,_,h3,h4⟩:=elem_cells (by decide) h2
   exact ⟨hs,cs,h3,h4⟩
  obtain ⟨l,e1,e2,e3,e4⟩:=build_RTs (W:=W) (b:=a.block) elems a.off fun i hi=>by
   obtain ⟨_,cs,h3,h4⟩:=hkey i hi
   have hbi:Rows.uptoBulk elems[i].1≤B:=by
    have:=bulk_get (elems.map (·.1)) i (by simpa using hi)
    simp only [List.getElem_map] at this
    omega
   obtain ⟨g,m,rfl,g1,g2,g3⟩:=IH n (by omega) cs _ h3 hbi
   exact ⟨g,m,h4,g1,g2,g3⟩
  refine ⟨l,some a,cap,by rw [e1,hlen],?_,e3,?_⟩
  ·cases l with
   | nil=>simp only [RTs]
   | cons x r=>
    have hs:=(hkey 0 (by rw [←e1];simp)).1 rfl
    obtain ⟨b,o,s⟩:=a
    simp only at hs
    subst hs
    exact e2
  ·simp only [Rows.uptoBulk];omega
include hB in
set_option maxRecDepth 100000 in
theorem open_T:∀(N:Nat) (cs:List Value) (y:DataW H×List MemPlace),DataW.trod enc Tryz.prog W 0 sp held N 31 cs=some y→Rows.uptoBulk y.1≤B→∃(g:GT) (m:TA),cs=[.int .u8 g.k,.int .u8 g.v.k,.int .i64 g.v.n,.slice m.va g.v.l.length m.vc,.slice m.vsa g.vs.length m.vsc,.int .i64 g.lo,.int .i64 g.hi,.slice m.wa g.w.length m.wc,.int .u8 g.p.k,.int .u8 g.p.v.k,.int .i64 g.p.v.n,.slice m.pva g.p.v.l.length m.pvc,.int .i64 g.p.n,.slice m.pa g.p.a.length m.pc,.slice m.a g.a.length m.c]∧RT W (fun _=>True) g m∧okT g∧sizeT g≤Rows.uptoBulk y.1:=by
 intro N
 induction N using Nat.strongRecOn with
 | _ N ih=>
  intro cs y h hb
  obtain ⟨xs,n,rfl,rfl,hl,hxl,hf⟩:=DataW.trod_struct Tryz.underlying31 h
  have hc5:Tryz.prog.cellsOf 5=1:=by kernel_rfl
  have hc2:Tryz.prog.cellsOf 2=1:=by kernel_rfl
  have hcs:Tryz.prog.cellsOf 22=1:=by kernel_rfl
  have hci:Tryz.prog.cellsOf 25=1:=by kernel_rfl
  have hct:Tryz.prog.cellsOf 29=1:=by kernel_rfl
  have hcv:Tryz.prog.cellsOf 24=3:=by kernel_rfl
  have hcp:Tryz.prog.cellsOf 28=6:=by kernel_rfl
  have hc15:Tryz.prog.cellsOf 31=15:=by kernel_rfl
  rw [hc15] at hl
  match cs,hl with
  | [c0,c1,c2,c3,c4,c5,c6,c7,c8,c9,ca,cb,cc,cd,ce],_=>
  match xs,hxl with
  | [x0,x1,x2,x3,x4,x5,x6,x7],_=>
  have h0:DataW.trod enc Tryz.prog W 0 sp held n 5 (([c0,c1,c2,c3,c4,c5,c6,c7,c8,c9,ca,cb,cc,cd,ce].drop 0).take (Tryz.prog.cellsOf 5))=([x0,x1,x2,x3,x4,x5,x6,x7]:List (DataW H×List MemPlace))[0]? :=hf 0 _ rfl
  have h1:DataW.trod enc Tryz.prog W 0 sp held n 24 (([c0,c1,c2,c3,c4,c5,c6,c7,c8,c9,ca,cb,cc,cd,ce].drop 1).take (Tryz.prog.cellsOf 24))=([x0,x1,x2,x3,x4,x5,x6,x7]:List (DataW H×List MemPlace))[1]? :=hf 1 _ rfl
  have h2:DataW.trod enc Tryz.prog W 0 sp held n 22 (([c0,c1,c2,c3,c4,c5,c6,c7,c8,c9,ca,cb,cc,cd,ce].drop 4).take (Tryz.prog.cellsOf 22))=([x0,x1,x2,x3,x4,x5,x6,x7]:List (DataW H×List MemPlace))[2]? :=hf 2 _ rfl
  have h3:DataW.trod enc Tryz.prog W 0 sp held n 2 (([c0,c1,c2,c3,c4,c5,c6,c7,c8,c9,ca,cb,cc,cd,ce].drop 5).take (Tryz.prog.cellsOf 2))=([x0,x1,x2,x3,x4,x5,x6,x7]:List (DataW H×List MemPlace))[3]? :=hf 3 _ rfl
  have h4:DataW.trod enc Tryz.prog W 0 sp held n 2 (([c0,c1,c2,c3,c4,c5,c6,c7,c8,c9,ca,cb,cc,cd,ce].drop 6).take (Tryz.prog.cellsOf 2))=([x0,x1,x2,x3,x4,x5,x6,x7]:List (DataW H×List MemPlace))[4]? :=hf 4 _ rfl
  have h5:DataW.trod enc Tryz.prog W 0 sp held n 25 (([c0,c1,c2,c3,c4,c5,c6,c7,c8,c9,ca,cb,cc,cd,ce].drop 7).take (Tryz.prog.cellsOf 25))=([x0,x1,x2,x3,x4,x5,x6,x7]:List (DataW H×List MemPlace))[5]? :=hf 5 _ rfl
  have h6:DataW.trod enc Tryz.prog W 0 sp held n 28 (([c0,c1,c2,c3,c4,c5,c6,c7,c8,c9,ca,cb,cc,cd,ce].drop 8).take (Tryz.prog.cellsOf 28))=([x0,x1,x2,x3,x4,x5,x6,x7]:List (DataW H×List MemPlace))[6]? :=hf 6 _ rfl
  have h7:DataW.trod enc Tryz.prog W 0 sp held n 29 (([c0,c1,c2,c3,c4,c5,c6,c7,c8,c9,ca,cb,cc,cd,ce].drop 14).take (Tryz.prog.cellsOf 29))=([x0,x1,x2,x3,x4,x5,x6,x7]:List (DataW H×List MemPlace))[7]? :=hf 7 _ rfl
  simp only [hc5,hc2,hcs,hci,hct,hcv,hcp,List.drop_zero,List.drop_succ_cons,List.take_succ_cons,List.take_zero,List.getElem?_cons_zero,List.getElem?_cons_succ] at h0 h1 h2 h3 h4 h5 h6 h7
  obtain ⟨k,e0,rfl,w0⟩:=DataW.trod_int Tryz.underlying5 h0
  obtain ⟨lo,e1,rfl,w1⟩:=DataW.trod_int Tryz.underlying2 h3
  obtain ⟨hi,e2,rfl,w2⟩:=DataW.trod_int Tryz.underlying2 h4
  simp only [List.cons.injEq,and_true] at e0 e1 e2
  subst e0 e1 e2
  have hb2:1+(Rows.uptoBulk x1.1+(Rows.uptoBulk x2.1+(1+(1+(Rows.uptoBulk x5.1+(Rows.uptoBulk x6.1+Rows.uptoBulk x7.1))))))+1≤B:=by simpa [Rows.uptoBulk,Rows.uptoBulkAll,Nat.add_assoc] using hb
  obtain ⟨g,m,ev,v1,v2,v3⟩:=open_V hB _ _ _ h1 (by omega)
  simp only [List.cons.injEq,and_true] at ev
  obtain ⟨rfl,rfl,rfl⟩:=ev
  obtain ⟨vs,vsa,vsc,rfl,s1,s2,s3⟩:=open_Vs (B:=B) (fun n' hn cs y=>open_V hB n' cs y) h2 (by omega)
  obtain ⟨ws,wa,wc,rfl,i1,i2,i3⟩:=open_Is (B:=B) (fun n' hn cs y=>open_I n' cs y) h5 (by omega)
  obtain ⟨p,mp,ep,p1,p2,p3⟩:=open_P hB _ _ _ h6 (by omega)
  simp only [List.cons.injEq,and_true] at ep
  obtain ⟨rfl,rfl,rfl,rfl,rfl,rfl⟩:=ep
  obtain ⟨l,a,c,rfl,r1,r2,r3⟩:=open_Ts (B:=B) (fun n' hn cs y=>ih n' (by omega) cs y) h7 (by omega)
  have hll:=sizeTs_length l
  have hlv:=sizeVs_length vs
  refine ⟨⟨k,g,vs,lo,hi,ws,p,l⟩,⟨m.a,m.c,vsa,vsc,wa,wc,mp.va,mp.vc,mp.a,mp.c,a,c⟩,rfl,by simp only [RT];exact ⟨v1,s1,i1,p1,r1⟩,okT_iff.2 ⟨u8_in w0,v2,⟨(show vs.length≤_ by omega),s2⟩,i64_in' w1,i64_in' w2,⟨(show ws.length≤_ by omega),i2⟩,p2,(show l.length≤_ by omega),r2⟩,?_⟩
  simp only [sizeT,List.map_cons,List.map_nil,Rows.uptoBulk,Rows.uptoBulkAll]
  omega
end
end
end Go.Proofs.YtclphfojkggcpaaGreat
