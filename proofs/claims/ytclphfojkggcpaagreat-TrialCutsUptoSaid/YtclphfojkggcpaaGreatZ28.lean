/- What the proofs of the Trial statements need: part 29. -/
import Derived.Deep.RegionHeld3
import Derived.Test.YtclphfojkggcpaaGreatZ3
import Derived.Test.YtclphfojkggcpaaGreatZ15
set_option linter.unusedVariables false
set_option linter.unusedSimpArgs false
namespace Go.Proofs.YtclphfojkggcpaaGreat
open Go.Lib (hid)
open Go Go.RowKit
set_option maxRecDepth 100000 in
set_option maxHeartbeats 4000000 in
theorem r17holds_and (N:Nat) (ih:HoldIH N) (u:GV) (n:Int) (l:List GP) (v:GV) (w:World) (A A2:Nat→Prop) (mp:PA) (m:VA) (hN:sizePs l≤N) (hg:goodPs l) (ox:okPs l) (hln:l.length≤64) (hx:RPs w A l mp.a) (ov:okV v) (hv:RV w A2 v m.a):
  Calls Tryz.prog 35 #[PV ⟨6,u,n,l⟩ mp,VV v m] w fun e w'=>e=.returned (.bool (l.all fun p=>holdsP p v))∧Below w.heap.size w w':=by
 obtain ⟨ma,mc⟩:=m
 obtain ⟨na,nb,nc,nd⟩:=mp
 dsimp only at hx hv
 have HV:=hid hv
 have OV:=hid ov
 have OX:=hid ox
 have HG:=hid hg
 have IH:=hid ih
 have HL:=hid hx
 generalize hF:(l.all fun p=>holdsP p v)=F
 have HF:=hid hF
 clear hv ov ox hg ih hx hF
 go_enter Tryz.func35,Tryz.ntmps35
 go_wp2_with fail
 go_loopg [5] (l.length) (fun gk i wr=>∃j:Nat,gk+j=l.length∧i=.int .i64 j∧Hid (∀q (h:q < l.length),q < j→holdsP l[q] v=true)∧Below w.heap.size w wr∧w.heap.size+1 < wr.heap.size∧wr.cell? ⟨w.heap.size,5,none⟩=some (.slice nc l.length nd) ∧
  wr.cell? ⟨w.heap.size+1,0,none⟩=some (.int .u8 v.k)∧wr.cell? ⟨w.heap.size+1,1,none⟩=some (.int .i64 v.n)∧wr.cell? ⟨w.heap.size+1,2,none⟩=some (.slice ma v.l.length mc))
 case atStart=>exact ⟨0,by omega,rfl,fun q h hq=>absurd hq (by omega),Below.r,by simp,by go_simp,by go_simp,by go_simp,by go_simp⟩
 case round=>
  obtain ⟨j,hj,rfl,HS,hb,hz,ca,c0,c1,c2⟩:=hrel
  by_cases hlt:j < l.length
  ·obtain ⟨b,o,mj,rfl,hA,hbs,g0,gx⟩:=HL.out.get j hlt
   have GX:=hid gx
   obtain ⟨k0,k1,k2,k3,k4,k5⟩:=At6.1 (g0.ext (Agree.below hb) (A:=fun _=>True) trivial)
   have hs1:b < wr.heap.size:=by omega
   clear gx g0
   generalize hC:holdsP l[j] v=C
   have HC:=hid hC
   clear hC
   go_wp2_with fail
   refine wp_tail 6 (by kernel_rfl) (by kernel_rfl) ?_
   simp only [List.take_succ_cons,List.take_zero,List.drop_succ_cons,List.drop_zero]
   repeat still_step
   refine wpStill_nil ?_
   go_wp2_with (go_at_call 35;refine (IH.out l[j] v _ A A2 mj ⟨ma,mc⟩ (by have:=sizePs_get l j hlt;omega) (HG.out.get j hlt) (OX.out.get j hlt) (by exact RP.ext (Agree.below Below.r) _ _ GX.out) OV.out (by exact RV.ext (Agree.below Below.r) _ _ HV.out)).mono ?_;rw [HC.out];rintro e w1 ⟨rfl,hb1⟩;have hz1:=hb1.size;(try simp at hz1);have hbb:Below w.heap.size w w1:=Below.r)
   ·have hne:C=false:=by simpa using ‹(!C)=true›
    go_ret
    exact ⟨ret_b1 (by rw [←HF.out,all_hit j hlt (by rw [HC.out];exact hne)]),hbb⟩
   ·have hne:C=true:=by simpa using ‹(!C)=false›
    go_roundg (gk - 1)
    case measure=>omega
    case rel=>exact ⟨j+1,by omega,by go_num,fun q h hq=>(by
     by_cases hqj:q=j
     ·subst hqj;rw [HC.out];exact hne
     ·exact HS.out q h (by omega)),hbb,by omega,(hb1.cell (by simp;omega)).trans (by go_simp),(hb1.cell (by simp;omega)).trans (by go_simp),(hb1.cell (by simp;omega)).trans (by go_simp),(hb1.cell (by simp;omega)).trans (by go_simp)⟩
  ·go_wp2_with fail
   go_ret
   exact ⟨ret_b1 (by rw [←HF.out,all_end fun q hq=>HS.out q hq (by omega)]),Below.r⟩
set_option maxRecDepth 100000 in
set_option maxHeartbeats 4000000 in
theorem r17holds_or (N:Nat) (ih:HoldIH N) (u:GV) (n:Int) (l:List GP) (v:GV) (w:World) (A A2:Nat→Prop) (mp:PA) (m:VA) (hN:sizePs l≤N) (hg:goodPs l) (ox:okPs l) (hln:l.length≤64) (hx:RPs w A l mp.a) (ov:okV v) (hv:RV w A2 v m.a):
  Calls Tryz.prog 35 #[PV ⟨7,u,n,l⟩ mp,VV v m] w fun e w'=>e=.returned (.bool (l.any fun p=>holdsP p v))∧Below w.heap.size w w':=by
 obtain ⟨ma,mc⟩:=m
 obtain ⟨na,nb,nc,nd⟩:=mp
 dsimp only at hx hv
 have HV:=hid hv
 have OV:=hid ov
 have OX:=hid ox
 have HG:=hid hg
 have IH:=hid ih
 have HL:=hid hx
 generalize hF:(l.any fun p=>holdsP p v)=F
 have HF:=hid hF
 clear hv ov ox hg ih hx hF
 go_enter Tryz.func35,Tryz.ntmps35
 go_wp2_with fail
 go_loopg [6] (l.length) (fun gk i wr=>∃j:Nat,gk+j=l.length∧i=.int .i64 j∧Hid (∀q (h:q < l.length),q < j→holdsP l[q] v=false)∧Below w.heap.size w wr∧w.heap.size+1 < wr.heap.size∧wr.cell? ⟨w.heap.size,5,none⟩=some (.slice nc l.length nd) ∧
  wr.cell? ⟨w.heap.size+1,0,none⟩=some (.int .u8 v.k)∧wr.cell? ⟨w.heap.size+1,1,none⟩=some (.int .i64 v.n)∧wr.cell? ⟨w.heap.size+1,2,none⟩=some (.slice ma v.l.length mc))
 case atStart=>exact ⟨0,by omega,rfl,fun q h hq=>absurd hq (by omega),Below.r,by simp,by go_simp,by go_simp,by go_simp,by go_simp⟩
 case round=>
  obtain ⟨j,hj,rfl,HS,hb,hz,ca,c0,c1,c2⟩:=hrel
  by_cases hlt:j < l.length
  ·obtain ⟨b,o,mj,rfl,hA,hbs,g0,gx⟩:=HL.out.get j hlt
   have GX:=hid gx
   obtain ⟨k0,k1,k2,k3,k4,k5⟩:=At6.1 (g0.ext (Agree.below hb) (A:=fun _=>True) trivial)
   have hs1:b < wr.heap.size:=by omega
   clear gx g0
   generalize hC:holdsP l[j] v=C
   have HC:=hid hC
   clear hC
   go_wp2_with fail
   refine wp_tail 6 (by kernel_rfl) (by kernel_rfl) ?_
   simp only [List.take_succ_cons,List.take_zero,List.drop_succ_cons,List.drop_zero]
   repeat still_step
   refine wpStill_nil ?_
   go_wp2_with (go_at_call 35;refine (IH.out l[j] v _ A A2 mj ⟨ma,mc⟩ (by have:=sizePs_get l j hlt;omega) (HG.out.get j hlt) (OX.out.get j hlt) (by exact RP.ext (Agree.below Below.r) _ _ GX.out) OV.out (by exact RV.ext (Agree.below Below.r) _ _ HV.out)).mono ?_;rw [HC.out];rintro e w1 ⟨rfl,hb1⟩;have hz1:=hb1.size;(try simp at hz1);have hbb:Below w.heap.size w w1:=Below.r;cases C)
   ·go_roundg (gk - 1)
    case measure=>omega
    case rel=>exact ⟨j+1,by omega,by go_num,fun q h hq=>(by
     by_cases hqj:q=j
     ·subst hqj;exact HC.out
     ·exact HS.out q h (by omega)),hbb,by omega,(hb1.cell (by simp;omega)).trans (by go_simp),(hb1.cell (by simp;omega)).trans (by go_simp),(hb1.cell (by simp;omega)).trans (by go_simp),(hb1.cell (by simp;omega)).trans (by go_simp)⟩
   ·go_ret
    exact ⟨ret_b1 (by rw [←HF.out,any_hit j hlt HC.out]),hbb⟩
  ·go_wp2_with fail
   go_ret
   exact ⟨ret_b1 (by rw [←HF.out,any_end fun q hq=>HS.out q hq (by omega)]),Below.r⟩
theorem r17holds_no (k:Int) (u:GV) (n:Int) (l:List GP) (v:GV) (w:World) (mp:PA) (m:VA) (hk:k=8∨k=9∨k=10∨k=11) (ov:okV v) (hrow:rowG v=false):
  Calls Tryz.prog 35 #[PV ⟨k,u,n,l⟩ mp,VV v m] w fun e w'=>e=.returned (.bool false)∧Below w.heap.size w w':=by
 obtain ⟨ma,mc⟩:=m
 obtain ⟨na,nb,nc,nd⟩:=mp
 have HR:=hid (show rowB v.k=false from hrow)
 have OK:=hid (okV_iff.1 ov).1
 clear ov hrow
 rcases hk with rfl|rfl|rfl|rfl
 all_goals go_enter Tryz.func35,Tryz.ntmps35
 all_goals go_wp2_with (go_at_call 55;refine (r17row_any v ⟨ma,mc⟩ _ OK.out).mono ?_;rw [HR.out];rintro e w1 ⟨rfl,hb1⟩)
 all_goals go_ret
 all_goals exact ⟨rfl,Below.r⟩
end Go.Proofs.YtclphfojkggcpaaGreat
