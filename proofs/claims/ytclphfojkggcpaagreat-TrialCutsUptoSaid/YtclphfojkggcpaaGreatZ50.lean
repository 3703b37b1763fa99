/- What the proofs of the Trial statements need: part 51. -/
import Derived.Deep.RegionHeld3
import Derived.Maps.AppendAt
import Derived.Test.YtclphfojkggcpaaGreatZ13
import Derived.Test.YtclphfojkggcpaaGreatZ15
import Derived.Test.YtclphfojkggcpaaGreatZ33
set_option linter.unusedVariables false
set_option linter.unusedSimpArgs false
namespace Go.Proofs.YtclphfojkggcpaaGreat
open Go.Lib (hid)
open Go Go.RowKit
theorem infoTr:(Tryz.prog.info? 60).map (fun i=>(i.zero,i.size,i.bytes))=some (some (.agg #[.int .i64 0,.int .i64 0,.int .u8 0,.int .i64 0,.slice none 0 0]),5,56):=by kernel_rfl
theorem infoRefTr:(Tryz.prog.info? 51).map (fun i=>(i.zero,i.size,i.bytes))=some (some (.agg #[.int .i64 0,.int .i64 0,.int .u8 0,.int .i64 0,.slice none 0 0]),5,56):=by kernel_rfl
set_option maxRecDepth 100000 in
set_option maxHeartbeats 2000000 in
theorem told_any (l:List GR) (A:Nat→Prop) (w:World) (al:Option Addr) (cl:Nat) (hl:l.length≤1048576) (hr:RRs w A l al):
  Calls Tryz.prog 9 #[.slice al l.length cl] w fun e w'=>Below w.heap.size w w'∧∃a cp,e=.returned (.slice a l.length cp)∧RRs w' (fun b=>A b∨w.heap.size≤b) l a:=by
 have HL:=hid (RRs.mono (A':=fun b=>A b∧b < w.heap.size) (fun b h hb=>⟨h,hb⟩) _ _ hr)
 obtain ⟨i0,hi0,y0,y1,y2⟩:=info_parts infoRefTr
 clear hr
 go_enter Tryz.func9,Tryz.ntmps9
 go_wp2_with fail
 go_loopg [3,4] (l.length) (fun gk t5 i' wr=>∃(j:Nat) (ps:List (GR×VA)) (v:Value),v=t5∧gk+j=l.length∧i'=.int .i64 j∧Below w.heap.size w wr∧Hid (ps.length=j)∧Hid (ps.map Prod.fst=l.take j) ∧
  Hid (wr.ownsRow w.heap.size 51 5 v j (flatR ps))∧Hid (∀q∈ps,RV wr (Own w.heap.size A v) q.1.v q.2.a))
 case atStart=>exact ⟨0,[],_,rfl,by omega,rfl,Below.z,hid rfl,hid rfl,hid (World.ownsRow_nil _ _ _ _),fun q hq=>by simp at hq⟩
 case round=>
  obtain ⟨j,ps,v,rfl,hj,rfl,hb,HPL,HP,HO,HQ⟩:=hrel
  have hz:=hb.size
  by_cases hlt:j < l.length
  ·have hst:l.take (j+1)=l.take j++[l[j]]:=by rw [List.take_succ_eq_append_getElem hlt]
   obtain ⟨b,o,mj,rfl,hA,hbs,g0,gx⟩:=HL.out.get j hlt
   obtain ⟨z0,z1,z2,z3,z4⟩:=At5.1 (g0.ext (Agree.below hb) (A:=fun _=>True) trivial)
   have hs1:b < wr.heap.size:=by omega
   have HST:=hid hst
   clear g0 hst
   go_wp2_with (at_builtin;refine wpList_append_lies _ rfl _ _ 34 rfl w.heap.size 51 i0 _ 5 56 Tryz.underlying34 hi0 y0 y1 y2 rfl (by decide) _ j _ (by rfl) (HO.out.alloc _) ⟨wr.heap.size,0,none⟩ 1 1 [.int .i64 l[j].f,.int .i64 l[j].t,.int .u8 l[j].v.k,.int .i64 l[j].v.n,.slice mj.a l[j].v.l.length mj.c] (by rfl) rfl (fun j u hu=>World.news_of_block (heap_alloc_new wr _) j u (by simpa using hu)) (by simp [Value.oneCell']) (by decide) (by unfold maxLen;omega) (by omega) (by simp;omega) (wr.heap.size+1) (by simp) ?_;intro g cap w4 hown hgrow hat hlt1)
   have hownk:∀q,v.ownBlock=some q→w.heap.size≤q:=fun q e=>(HO.out.lt _ e).1
   have hbw1:Below w.heap.size wr w4:=Below.grown ((Below.refl _ _).alloc (by omega) _) hgrow (by simp;omega) hownk
   have hag2:Agree (Own w.heap.size A v) wr (wr.alloc (.cells #[.int .i64 l[j].f,.int .i64 l[j].t,.int .u8 l[j].v.k,.int .i64 l[j].v.n,.slice mj.a l[j].v.l.length mj.c] 51)):=Agree.below ((Below.refl _ _).alloc (Nat.le_refl _) _)
   go_roundg (gk - 1)
   case measure=>omega
   case rel=>
    refine ⟨j+1,ps++[(l[j],mj)],_,rfl,by omega,by go_num,hb.trans hbw1,hid (by have:=HPL.out;simp;omega),hid (by rw [List.map_append,HP.out,HST.out];rfl),hid ?_,?_⟩
    ·rw [flatR_append];exact hown
    ·intro q hq
     rcases List.mem_append.1 hq with hq|hq
     ·exact RV.own hgrow hownk hat (by simp) (RV.ext hag2 _ _ (HQ.out q hq))
     ·simp at hq
      subst hq
      exact RV.own hgrow hownk hat (by simp) (RV.ext hag2 _ _ (RV.mono (fun b h _=>.inl h) _ _ (RV.ext (Agree.below hb) _ _ gx)))
  ·have hjl:j=l.length:=by omega
   have hst:=HP.out
   rw [hjl,List.take_length] at hst
   have hE:=RRs_of_row (A:=fun b=>A b∨w.heap.size≤b) HO.out (fun b h=>.inr h) (fun q hq=>RV.mono (fun b hb _=>by rcases hb with ⟨h,_⟩|⟨h,_⟩;exact .inl h;exact .inr h) _ _ (HQ.out q hq))
   obtain ⟨av,cv,hav,hrd⟩:=hE
   rw [hst] at hav hrd
   have HRD:=hid hrd
   have HAV:=hid hav
   clear hst hrd hav
   go_wp2_with fail
   go_ret
   exact ⟨hb,av,_,by rw [←HAV.out];rfl,HRD.out⟩
end Go.Proofs.YtclphfojkggcpaaGreat
