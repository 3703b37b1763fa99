/- What the proofs of the Trial statements need: part 42. -/
import Derived.Deep.LoopGhost
import Derived.Test.YtclphfojkggcpaaGreatZ2
import Derived.Test.YtclphfojkggcpaaGreatZ8
import Derived.Test.YtclphfojkggcpaaGreatZ30
import Derived.Test.YtclphfojkggcpaaGreatZ38
import Derived.Test.YtclphfojkggcpaaGreatZ40
set_option linter.unusedVariables false
set_option linter.unusedSimpArgs false
namespace Go.Proofs.YtclphfojkggcpaaGreat
open Go.Lib (hid)
open Go Go.RowKit
theorem wkT_up1:∀(f:Nat) (t:GT) (e:Env) (k n d n':Int),1≤k→wkT f t e k n=some (d,n')→n+k≤n'
 | 0,_,_,_,_,_,_,_,h=>by simp [wkT] at h
 | f+1,t,e,k,n,d,n',hk,h=>by
  have hst:∀t m up,stepS (wkT f) t m up k n=some (d,n')→n+k≤n':=fun t m up h=>by
   unfold stepS at h
   cases hs:spendN n k with
   | none=>rw [hs] at h;cases h
   | some n1=>
    rw [hs] at h
    obtain ⟨e1,e2⟩:=spendN_some hs
    dsimp only at h
    split at h
    ·split at h
     ·have:=wkT_up f _ _ _ _ _ _ (by omega) h;omega
     ·cases h
    ·split at h
     ·have:=wkT_up f _ _ _ _ _ _ (by omega) h;omega
     ·cases h
  have hfo:∀(j:Int),0≤j→∀l d0 n0 d1 n1,foldA (fun n x=>wkT f x e j n) l d0 n0=some (d1,n1)→n0≤n1:=fun j hj l d0 n0 d1 n1 h=>foldA_up (fun n x d n' h=>wkT_up f x e j n d n' hj h) l _ _ _ _ h
  simp only [wkT] at h
  split at h
  ·cases hs:spendN n (k*(sizeV t.v:Int)) with
   | none=>rw [hs] at h;cases h
   | some n1=>
    rw [hs] at h
    obtain ⟨e1,e2⟩:=spendN_some hs
    have hq:k*1≤k*(sizeV t.v:Int):=Int.mul_le_mul_of_nonneg_left (by have:=sizeV_pos t.v;omega) (by omega)
    cases h
    omega
  ·split at h
   ·split at h
    ·cases h
    ·exact hst _ _ _ h
   ·split at h
    ·exact hst _ _ _ h
    ·cases hs:spendN n k with
     | none=>rw [hs] at h;cases h
     | some n1=>
      rw [hs] at h
      obtain ⟨e1,e2⟩:=spendN_some hs
      dsimp only at h
      split at h
      ·cases h;omega
      ·split at h
       ·have:=foldVs_up (by omega) _ _ _ _ _ h;omega
       ·split at h
        ·cases hx:foldA (fun n x=>wkT f x e (k*max 1 t.hi) n) t.a 0 n1 with
         | none=>rw [hx] at h;cases h
         | some y=>
          obtain ⟨d2,n2⟩:=y
          have h3:=hfo _ (Int.mul_nonneg (by omega) (by omega)) _ _ _ _ _ hx
          rw [hx] at h
          dsimp only at h
          split at h<;>(cases h;omega)
        ·split at h
         ·have:=hfo _ (by omega) _ _ _ _ _ h;omega
         ·cases hx:foldA (fun n x=>wkT f x e k n) t.a 0 n1 with
          | none=>rw [hx] at h;cases h
          | some y=>
           obtain ⟨d2,n2⟩:=y
           have h3:=hfo _ (by omega) _ _ _ _ _ hx
           rw [hx] at h
           simp only [plus1] at h
           cases h
           omega
theorem big_0 (t:GT):Big t 0:=fun f k n d n' h1 h0 h=>by
 have:=wkT_up1 f t [] k n d n' h1 h
 rw [Int.zero_add,Int.mul_one];exact this
theorem one_list {l:List GT} (h:l.length=1):l=[l[0]'(by omega)]:=by
 match l,h with
 | [x],_=>rfl
theorem fx_over {M q:Int} {l:List GT} {j:Nat} (h:FX M l j q) (hq:¬q≤M):FX M l l.length q:=by
 rcases h with ⟨-,h, -⟩|h
 ·exact absurd h hq
 ·exact .inr h
theorem bx_dd {M q:Int} {t:GT} (hg:goodT false t) (hk:¬t.k=1∧¬t.k=4∧¬t.k=6∧¬t.k=10) (hM:1≤M) (h:FX M t.a t.a.length q):BX M t q:=by
 obtain ⟨hn,h11, -⟩:=goodT_eq.1 hg
 obtain ⟨⟨r1,r2⟩, -, -, -,ha⟩:=node_ok hn
 have h11':¬t.k=11:=fun e=>by have:=h11 e;cases this
 obtain ⟨k1,k4,k6,k10⟩:=hk
 by_cases h2:t.k=2
 ·have hl:t.a.length=0:=by
   unfold argumentsE at ha
   rw [if_neg (by omega),if_neg (by omega),if_neg (by omega),if_neg (by omega),if_neg (by omega)] at ha
   have:=node_many ha
   omega
  have hnil:t.a=[]:=List.eq_nil_of_length_eq_zero hl
  have hq:q=1:=by
   rcases h with ⟨h1,h3,D,hD⟩|⟨h1,hb⟩
   ·rw [hnil] at hD
    have:=(hD 1 1 0 (by omega) (by omega) (by omega)).2 (0,0) (by simp [foldA])
    have h5:=congrArg Prod.snd this.2
    simp at h5
    omega
   ·rw [hnil] at hb
    have:=hb 1 1 0 (0,0) (by omega) (by omega) (by omega) (by simp [foldA])
    simp at this
    omega
  subst hq
  have:=bx_ex (M:=M) (ex_2 h2) (by omega)
  rwa [show min (1:Int) (M+1)=1 by omega] at this
 ·exact bx_d (by omega) h
def BulkXR (M:Int) (t:GT) (w:World) (e:Ending) (w':World):Prop:=(∃r:Int,e=.returned (.int .i64 r)∧BX M t r)∧Below w.heap.size w w'
def BulkXI (M:Int):Prop:=∀(t:GT) (w:World) (A:Nat→Prop) (m:TA) (mo:Int),0≤mo→mo≤M→mo≤4096→goodT false t→okT t→RT w A t m →
  Calls Tryz.prog 29 #[TV t m,.int .i64 mo] w (BulkXR mo t w)
def BulkXO (M:Int) (t:GT):Prop:=∀(w:World) (A:Nat→Prop) (m:TA),goodT false t→okT t→RT w A t m→Calls Tryz.prog 29 #[TV t m,.int .i64 M] w (BulkXR M t w)
set_option maxRecDepth 100000 in
set_option maxHeartbeats 4000000 in
theorem r19bulkX_0 (t:GT) (w:World) (m:TA):Calls Tryz.prog 29 #[TV t m,.int .i64 0] w (BulkXR 0 t w):=by
 go_enter Tryz.func29,Tryz.ntmps29
 go_wp2_with fail
 go_ret
 exact ⟨⟨1,ret_int (by omega),.inr ⟨by omega,big_0 t⟩⟩,Below.r⟩
set_option maxRecDepth 100000 in
set_option maxHeartbeats 4000000 in
theorem r19bulkX_1 (M:Int) (h1:1≤M) (hM:M≤4096) (t:GT) (hk:t.k=1):BulkXO M t:=by
 rintro w A ⟨ma,mb,mc,md,me,mf,mg,mh,mi,mj,mk,ml⟩ hg ox hl
 obtain ⟨hn, -, -⟩:=goodT_eq.1 hg
 obtain ⟨-,ov, -⟩:=okT_iff.1 ox
 have hc:=value_at hk hn
 have hx:=bx_ex (M:=M) (ex_1 (t:=t) hk) (by have:=sizeV_pos t.v;omega)
 have HX:=hid hx
 have hv1:=size_of_checkV hc
 have hv2:=sizeV_pos t.v
 clear hx
 have HV:=hid (RT_iff.1 hl).1
 have OV:=hid ov
 have hm0:decide (M < 1)=false:=by simp;omega
 have wm:IntKind.i64.wrap (M+1)=M+1:=IntWalk.i64_in _ (by omega)
 obtain ⟨k,v,vs,lo,hi,ws,p,l⟩:=t
 dsimp only at hk hc hv1 hv2 HX
 subst hk
 clear hg ox hl hn ov
 go_enter Tryz.func29,Tryz.ntmps29
 go_wp2_with (go_at_call 45;refine (r14size_any _ v _ A ⟨ma,mb⟩ (Nat.le_refl _) (by omega) OV.out (by exact RV_iff.1 (RV.ext (Agree.below Below.r) _ _ HV.out))).mono ?_;rintro e w1 ⟨rfl,hb1⟩)
 all_goals go_ret
 all_goals exact ⟨⟨_,ret_int (by first|rfl|omega|(split<;>omega)),HX.out⟩,Below.r⟩
set_option maxRecDepth 100000 in
set_option maxHeartbeats 4000000 in
theorem r19bulkX_4 (M:Int) (h1:1≤M) (hM:M≤4096) (t:GT) (hk:t.k=4):BulkXO M t:=by
 rintro w A ⟨ma,mb,mc,md,me,mf,mg,mh,mi,mj,mk,ml⟩ hg ox hl
 obtain ⟨hn, -, -⟩:=goodT_eq.1 hg
 obtain ⟨-, -,⟨ovl,ovs⟩, -⟩:=okT_iff.1 ox
 obtain ⟨h64,hc⟩:=row_at hk hn
 have HVS:=hid (RT_iff.1 hl).2.1
 have O:=hid ovs
 have HC:=hid (fun j hj=>size_of_checkV (hc j hj))
 have HX:=hid (bx_ex (M:=M) (ex_4 (t:=t) hk) (by omega))
 have hm0:decide (M < 1)=false:=by simp;omega
 have hk1:(t.k==1)=false:=by simp [hk]
 have hk4:(t.k==4)=true:=by simp [hk]
 clear hg ox hl hn ovs hc hk
 go_enter Tryz.func29,Tryz.ntmps29
 go_wp2_with fail
 go_loopg [5,6] (t.vs.length) (fun gk t5 t6 wr=>∃(j:Nat) (q:Int),gk+j=t.vs.length∧t5=.int .i64 q∧t6=.int .i64 j∧1≤q∧q≤1+4096*(j:Int)∧Hid (q=1+(sizeVs (t.vs.take j):Int))∧Below w.heap.size w wr∧w.heap.size < wr.heap.size∧wr.cell? ⟨w.heap.size,4,none⟩=some (.slice mc t.vs.length md))
 case atStart=>exact ⟨0,1,by omega,rfl,rfl,by omega,by omega,hid (by simp [sizeVs]),Below.r,by simp,by go_simp⟩
 case round=>
  obtain ⟨j,q,hj,rfl,rfl,hq1,hq2,HQ,hb,hz,hcell⟩:=hrel
  by_cases hlt:j < t.vs.length
  ·obtain ⟨b,o,mj',rfl,hA,hbs,g0,gx⟩:=HVS.out.get j hlt
   obtain ⟨k0,k1,k2⟩:=At3.1 (g0.ext (Agree.below hb) (A:=fun _=>True) trivial)
   have hs1:b < wr.heap.size:=by omega
   have hq4:=sizeVs_take_succ t.vs j hlt
   have HQ4:=hid hq4
   have hv1:=HC.out j hlt
   have hv2:=sizeV_pos t.vs[j]
   clear g0 hq4
   go_wp2_with (go_at_call 45;refine (r14size_any _ t.vs[j] _ A mj' (Nat.le_refl _) (by omega) (O.out.get j hlt) (by exact RV_iff.1 (RV.ext (Agree.below Below.r) _ _ gx))).mono ?_;rintro e w2 ⟨rfl,hb2⟩;have hz2:=hb2.size;(try simp at hz2))
   go_roundg (gk - 1)
   case measure=>omega
   case rel=>exact ⟨j+1,q+(sizeV t.vs[j]:Int),by omega,by go_num,by go_num,by omega,by omega,hid (by have:=HQ.out;have:=HQ4.out;omega),Below.r,by omega,(hb2.cell so).trans (by go_simp)⟩
  ·obtain rfl:j=t.vs.length:=by omega
   have hq5:=HQ.out
   rw [List.take_length] at hq5
   clear HQ
   subst hq5
   go_wp2_with fail
   all_goals go_ret
   all_goals exact ⟨⟨_,ret_int (by first|rfl|omega|(split<;>omega)),HX.out⟩,Below.r⟩
set_option maxRecDepth 100000 in
set_option maxHeartbeats 4000000 in
theorem r19bulkX_d (M:Int) (h1:1≤M) (hM:M≤4096) (ih:BulkXI (M - 1)) (t:GT) (hk:¬t.k=1∧¬t.k=4∧¬t.k=6∧¬t.k=10):BulkXO M t:=by
 rintro w A ⟨ma,mb,mc,md,me,mf,mg,mh,mi,mj,mk,ml⟩ hg ox hl
 obtain ⟨-, -, -, -, -, -, -,oal,oa⟩:=okT_iff.1 ox
 have IH:=hid ih
 have HL:=hid (RT_iff.1 hl).2.2.2.2
 have O:=hid oa
 have HG:=hid hg
 have hm0:decide (M < 1)=false:=by simp;omega
 have hk1:(t.k==1)=false:=by simp [hk]
 have hk4:(t.k==4)=false:=by simp [hk]
 have hk6:(t.k==6)=false:=by simp [hk]
 have hk10:(t.k==10)=false:=by simp [hk]
 have HK10:=hid hk.2.2.2
 have HX:=hid (fun (q:Int) (h:FX M t.a t.a.length q)=>bx_dd hg hk h1 h)
 clear ih hg ox hl oa hk
 go_enter Tryz.func29,Tryz.ntmps29
 go_wp2_with fail
 go_loopg [5,7] (t.a.length) (fun gk t5 t7 wr=>∃(j:Nat) (q:Int),gk+j=t.a.length∧t5=.int .i64 q∧t7=.int .i64 j∧1≤q∧q≤M+1∧Hid (FX M t.a j q)∧Below w.heap.size w wr∧w.heap.size < wr.heap.size∧wr.cell? ⟨w.heap.size,14,none⟩=some (.slice mk t.a.length ml))
 case atStart=>exact ⟨0,1,by omega,rfl,rfl,by omega,by omega,hid (fx_nil t.a h1),Below.r,by simp,by go_simp⟩
 case round=>
  obtain ⟨j,q,hj,rfl,rfl,hq1,hq2,HF,hb,hz,hcell⟩:=hrel
  by_cases hlt:j < t.a.length
  ·by_cases hq:q≤M
   ·obtain ⟨b,o,mj',rfl,hA,hbs,g0,gx⟩:=HL.out.get j hlt
    obtain ⟨k0,k1,k2,k3,k4,k5,k6,k7,k8,k9,ka,kb,kc,kd,ke⟩:=At15.1 (g0.ext (Agree.below hb) (A:=fun _=>True) trivial)
    have hs1:b < wr.heap.size:=by omega
    clear g0
    go_wp2_with (go_at_call 29;refine (IH.out t.a[j] _ A mj' (M - q) (by omega) (by omega) (by omega) (goodT_arg HG.out HK10.out (List.getElem_mem hlt)) (O.out.get j hlt) (by exact RT.ext (Agree.below Below.r) _ _ gx)).mono ?_;rintro e w2 ⟨⟨r,rfl,hbx⟩,hb2⟩;obtain ⟨hr1,hr2⟩:=bx_range (by omega) hbx;have HBX:=hid hbx;clear hbx;have hz2:=hb2.size;(try simp at hz2))
    go_roundg (gk - 1)
    case measure=>omega
    case rel=>exact ⟨j+1,q+r,by omega,by go_num,by go_num,by omega,by omega,hid (fx_step hlt HF.out hq HBX.out),Below.r,by omega,(hb2.cell so).trans (by go_simp)⟩
   ·have hq':decide (q≤M)=false:=by simp;omega
    go_wp2_with fail
    all_goals go_ret
    all_goals exact ⟨⟨_,rfl,HX.out q (fx_over HF.out (by omega))⟩,Below.r⟩
  ·obtain rfl:j=t.a.length:=by omega
   go_wp2_with fail
   all_goals go_ret
   all_goals exact ⟨⟨_,rfl,HX.out q HF.out⟩,Below.r⟩
set_option maxRecDepth 100000 in
set_option maxHeartbeats 4000000 in
theorem r19bulkX_6 (M:Int) (h1:1≤M) (hM:M≤4096) (t:GT) (ih:∀x,sizeT x < sizeT t→BulkXO M x) (hk:t.k=6):BulkXO M t:=by
 rintro w A ⟨ma,mb,mc,md,me,mf,mg,mh,mi,mj,mk,ml⟩ hg ox hl
 obtain ⟨hn, -, -⟩:=goodT_eq.1 hg
 obtain ⟨hl1, -,hh1,hh0⟩:=one_at hk hn
 obtain ⟨-, -, -, -, -, -, -,oal,oa⟩:=okT_iff.1 ox
 have HL:=hid (RT_iff.1 hl).2.2.2.2
 have h0l:0 < t.a.length:=by omega
 obtain ⟨b,o,mj',rfl,hA,hbs,g0,gx⟩:=HL.out.get 0 h0l
 have hsz:=sizeTs_get t.a 0 h0l
 have hse:=sizeT_eq t
 have HC:=hid (fun (W:World) (h:RT W A (t.a[0]'h0l) mj')=>ih (t.a[0]'h0l) (by omega) W A mj' (goodT_arg hg (by omega) (List.getElem_mem h0l)) (oa.get 0 h0l) h)
 obtain ⟨k0,k1,k2,k3,k4,k5,k6,k7,k8,k9,ka,kb,kc,kd,ke⟩:=At15.1 (show At w b o _ by simpa using g0)
 have HX:=hid (fun (r:Int) (h:BX M (t.a[0]'h0l) r)=>bx_6 hk (one_list hl1) (by omega) h)
 have hI0:(0:Int) < (t.a.length:Int):=by omega
 have hm0:decide (M < 1)=false:=by simp;omega
 have hk1:(t.k==1)=false:=by simp [hk]
 have hk4:(t.k==4)=false:=by simp [hk]
 have hk6:(t.k==6)=true:=by simp [hk]
 have hs1:b < w.heap.size+1:=by omega
 clear hg ox hl hn oa ih hk g0 hl1 hsz hse
 go_enter Tryz.func29,Tryz.ntmps29
 go_wp2_with fail
 refine wp_named (fun W=>Below w.heap.size w W∧w.heap.size < W.heap.size∧W.cell? ⟨w.heap.size,6,none⟩=some (.int .i64 t.hi)∧W.cell? ⟨w.heap.size,14,none⟩=some (.slice (some ⟨b,o,none⟩) t.a.length ml)) ⟨Below.r,by simp,by go_simp,by go_simp⟩ ?_
 intro wr ⟨hb,hz,c6,c14⟩
 have hs2:b < wr.heap.size:=by omega
 obtain ⟨k0,k1,k2,k3,k4,k5,k6,k7,k8,k9,ka,kb,kc,kd,ke⟩:=At15.1 (At.ext (Agree.below hb) (A:=fun _=>True) trivial _ _ (At15.2 ⟨k0,k1,k2,k3,k4,k5,k6,k7,k8,k9,ka,kb,kc,kd,ke⟩))
 rcases (by omega:t.hi=0∨t.hi=1∨2≤t.hi) with hh|hh|hh
 ·rw [hh] at c6 HX
  clear hh hh1 hh0
  go_region_held3 (fun W=>W.cell? ⟨w.heap.size,6,none⟩=some (.int .i64 0)∧W.cell? ⟨w.heap.size,14,none⟩=some (.slice (some ⟨b,o,none⟩) t.a.length ml)∧∀k,W.cell? ⟨b,k,none⟩=wr.cell? ⟨b,k,none⟩) ((refine ⟨by go_simp,by go_simp,fun k=>by go_simp⟩)) ((go_at_call 29;refine (HC.out _ (by exact RT.ext (Agree.below Below.r) _ _ gx)).mono ?_;rintro e w2 ⟨⟨r,rfl,hbx⟩,hb2⟩;obtain ⟨hr1,hr2⟩:=bx_range (by omega) hbx;have HBX:=hid hbx;clear hbx;have hz2:=hb2.size;(try simp at hz2);have hbr2:Below wr.heap.size wr w2:=Below.r;have y6:=(hbr2.cell (p:=⟨w.heap.size,6,none⟩) hz).trans c6;have y14:=(hbr2.cell (p:=⟨w.heap.size,14,none⟩) hz).trans c14;have yb:∀k,w2.cell? ⟨b,k,none⟩=wr.cell? ⟨b,k,none⟩:=(fun k=>hbr2.cell (p:=⟨b,k,none⟩) hs2)))
  all_goals go_wp2_with fail
  all_goals go_ret
  all_goals exact ⟨⟨_,ret_int (by first|omega|(simp only [show max (1:Int) 0=1 from rfl,show max (1:Int) 1=1 from rfl]<;>omega)|(rw [m9];omega)),HX.out r HBX.out⟩,Below.r⟩
 ·rw [hh] at c6 HX
  clear hh hh1 hh0
  go_region_held3 (fun W=>W.cell? ⟨w.heap.size,6,none⟩=some (.int .i64 1)∧W.cell? ⟨w.heap.size,14,none⟩=some (.slice (some ⟨b,o,none⟩) t.a.length ml)∧∀k,W.cell? ⟨b,k,none⟩=wr.cell? ⟨b,k,none⟩) ((refine ⟨by go_simp,by go_simp,fun k=>by go_simp⟩)) ((go_at_call 29;refine (HC.out _ (by exact RT.ext (Agree.below Below.r) _ _ gx)).mono ?_;rintro e w2 ⟨⟨r,rfl,hbx⟩,hb2⟩;obtain ⟨hr1,hr2⟩:=bx_range (by omega) hbx;have HBX:=hid hbx;clear hbx;have hz2:=hb2.size;(try simp at hz2);have hbr2:Below wr.heap.size wr w2:=Below.r;have y6:=(hbr2.cell (p:=⟨w.heap.size,6,none⟩) hz).trans c6;have y14:=(hbr2.cell (p:=⟨w.heap.size,14,none⟩) hz).trans c14;have yb:∀k,w2.cell? ⟨b,k,none⟩=wr.cell? ⟨b,k,none⟩:=(fun k=>hbr2.cell (p:=⟨b,k,none⟩) hs2)))
  all_goals go_wp2_with fail
  all_goals go_ret
  all_goals exact ⟨⟨_,ret_int (by first|omega|(simp only [show max (1:Int) 0=1 from rfl,show max (1:Int) 1=1 from rfl]<;>omega)|(rw [m9];omega)),HX.out r HBX.out⟩,Below.r⟩
 ·have m1:(1:Int)≤t.hi:=by omega
  have m2:(1:Int) < t.hi:=by omega
  have m3:¬t.hi≤1:=by omega
  have m4:¬t.hi < 1:=by omega
  have m5:decide ((1:Int)≤t.hi)=true:=by simp;omega
  have m6:decide ((1:Int) < t.hi)=true:=by simp;omega
  have m7:decide (t.hi≤(1:Int))=false:=by simp;omega
  have m8:decide (t.hi < (1:Int))=false:=by simp;omega
  have m9:max (1:Int) t.hi=t.hi:=by omega
  go_region_held3 (fun W=>W.cell? ⟨w.heap.size,6,none⟩=some (.int .i64 t.hi)∧W.cell? ⟨w.heap.size,14,none⟩=some (.slice (some ⟨b,o,none⟩) t.a.length ml)∧∀k,W.cell? ⟨b,k,none⟩=wr.cell? ⟨b,k,none⟩) ((refine ⟨by go_simp,by go_simp,fun k=>by go_simp⟩)) ((go_at_call 29;refine (HC.out _ (by exact RT.ext (Agree.below Below.r) _ _ gx)).mono ?_;rintro e w2 ⟨⟨r,rfl,hbx⟩,hb2⟩;obtain ⟨hr1,hr2⟩:=bx_range (by omega) hbx;have HBX:=hid hbx;clear hbx;have hz2:=hb2.size;(try simp at hz2);have hbr2:Below wr.heap.size wr w2:=Below.r;have y6:=(hbr2.cell (p:=⟨w.heap.size,6,none⟩) hz).trans c6;have y14:=(hbr2.cell (p:=⟨w.heap.size,14,none⟩) hz).trans c14;have yb:∀k,w2.cell? ⟨b,k,none⟩=wr.cell? ⟨b,k,none⟩:=(fun k=>hbr2.cell (p:=⟨b,k,none⟩) hs2);have hm0:0≤t.hi*r:=Int.mul_nonneg (by omega) (by omega);have hm1:t.hi*r≤16*4097:=Int.mul_le_mul hh1 (by omega) (by omega) (by omega);have wm:IntKind.i64.wrap (t.hi*r)=t.hi*r:=IntWalk.i64_in _ (by omega);have wn:IntKind.i64.wrap (1+t.hi*r)=1+t.hi*r:=IntWalk.i64_in _ (by omega)))
  all_goals go_wp2_with fail
  all_goals go_ret
  all_goals exact ⟨⟨_,ret_int (by first|omega|(simp only [show max (1:Int) 0=1 from rfl,show max (1:Int) 1=1 from rfl]<;>omega)|(rw [m9];omega)),HX.out r HBX.out⟩,Below.r⟩
set_option maxRecDepth 100000 in
set_option maxHeartbeats 4000000 in
theorem r19bulkX_10 (M:Int) (h1:1≤M) (hM:M≤4096) (ih:BulkXI (M - 1)) (t:GT) (hk:t.k=10):BulkXO M t:=by
 rintro w A ⟨ma,mb,mc,md,me,mf,mg,mh,mi,mj,mk,ml⟩ hg ox hl
 obtain ⟨hn, -, -⟩:=goodT_eq.1 hg
 obtain ⟨h0,h8,hl2⟩:=within_pos hk hn
 obtain ⟨-, -, -, -, -, -, -,oal,oa⟩:=okT_iff.1 ox
 have HT:=hid hl
 have OX:=hid ox
 have h1l:1 < t.a.length:=by omega
 have hgs:=step_good hk hg h1l
 have hos:okT (stepT t t.a[0] t.a[1]):=by
  unfold stepT
  split
  ·exact oa.get 0 (by omega)
  ·exact putT_ok (less_ok (by omega) ox) _ (oa.get 1 (by omega))
 have HS:=hid (fun (W:World) (h:RT W A t ⟨ma,mb,mc,md,me,mf,mg,mh,mi,mj,mk,ml⟩)=>r19step_any t W A ⟨ma,mb,mc,md,me,mf,mg,mh,mi,mj,mk,ml⟩ ox h1l h0 h)
 have HX:=hid (fun (r:Int) (h:BX (M - 1) (stepT t t.a[0] t.a[1]) r)=>bx_10 hk hg (by simp) (by simp) h)
 generalize stepT t t.a[0] t.a[1]=X at hgs hos HS HX
 have HC:=hid (fun (W:World) (A':Nat→Prop) (m':TA) (h:RT W A' X m')=>ih X W A' m' (M - 1) (by omega) (by omega) (by omega) hgs hos h)
 have hm0:decide (M < 1)=false:=by simp;omega
 have hk1:(t.k==1)=false:=by simp [hk]
 have hk4:(t.k==4)=false:=by simp [hk]
 have hk6:(t.k==6)=false:=by simp [hk]
 have hk10:(t.k==10)=true:=by simp [hk]
 have wm1:IntKind.i64.wrap (M - 1)=M - 1:=IntWalk.i64_in _ (by omega)
 clear hg ox hl hn oa ih hk hgs hos hl2 h0 h8 h1l
 go_enter Tryz.func29,Tryz.ntmps29
 go_wp2_with (first
  | (go_at_call 46;refine (HS.out _ (by exact RT.ext (Agree.below Below.r) _ _ HT.out)).mono ?_;rintro e w1 ⟨hb1,m1,rfl,hrt⟩;have HRT:=hid (RT.mono (A':=fun _=>True) (fun _ _ _=>trivial) _ _ hrt);clear hrt;have hz1:=hb1.size;(try simp at hz1))
  | (go_at_call 29;(with_reducible refine (HC.out _ (fun _=>True) m1 (by exact HRT.out)).mono ?_);rintro e w2 ⟨⟨r,rfl,hbx⟩,hb2⟩;obtain ⟨hr1,hr2⟩:=bx_range (by omega) hbx;have HBX:=hid hbx;clear hbx))
 all_goals go_ret
 all_goals exact ⟨⟨_,ret_int (by first|rfl|omega|(split<;>omega)),HX.out r HBX.out⟩,Below.r⟩
theorem r19bulkX_any (M:Nat):BulkXI M:=by
 induction M with
 | zero=>
  intro t w A m mo h0 h1 _ _ _ _
  obtain rfl:mo=0:=by omega
  exact r19bulkX_0 t w m
 | succ M ih=>
  intro t w A m mo h0 h1 h4 hg ox hl
  by_cases hlt:mo≤M
  ·exact ih t w A m mo h0 hlt h4 hg ox hl
  obtain rfl:mo=(M:Int)+1:=by omega
  have hM:(M:Int)+1 - 1=M:=by omega
  have all:∀(N:Nat) (x:GT),sizeT x≤N→BulkXO ((M:Int)+1) x:=by
   intro N
   induction N with
   | zero=>intro x hx;have:=sizeT_pos x;omega
   | succ N ihN=>
    intro x hx
    by_cases k1:x.k=1
    ·exact r19bulkX_1 _ (by omega) h4 x k1
    by_cases k4:x.k=4
    ·exact r19bulkX_4 _ (by omega) h4 x k4
    by_cases k6:x.k=6
    ·exact r19bulkX_6 _ (by omega) h4 x (fun y hy=>ihN y (by omega)) k6
    by_cases k10:x.k=10
    ·exact r19bulkX_10 _ (by omega) h4 (by rw [hM];exact ih) x k10
    ·exact r19bulkX_d _ (by omega) h4 (by rw [hM];exact ih) x ⟨k1,k4,k6,k10⟩
  exact all _ t (Nat.le_refl _) w A m hg ox hl
def HighIH (f:Nat):Prop:=∀(t:GT) (w:World) (A:Nat→Prop) (m:TA) (k n d n':Int),wkT f t [] k n=some (d,n')→goodT false t→okT t→RT w A t m →
  (0≤d∧d≤4096+(f:Int))∧Calls Tryz.prog 71 #[TV t m] w fun e w'=>e=.returned (.int .i64 d)∧Below w.heap.size w w'
theorem deepMax_app:∀(l:List GV) (x:GV) (d:Int),deepMax (l++[x]) d=max (deepMax l d) (deepV x)
 | [],x,d=>rfl
 | y::l,x,d=>by simp only [List.cons_append,deepMax];exact deepMax_app l x _
theorem deepMax_take {l:List GV} {j:Nat} (h:j < l.length) (d:Int):deepMax (l.take (j+1)) d=max (deepMax (l.take j) d) (deepV l[j]):=by
 rw [List.take_succ_eq_append_getElem h,deepMax_app]
set_option maxRecDepth 100000 in
set_option maxHeartbeats 4000000 in
theorem high_1 (t:GT) (w:World) (A:Nat→Prop) (m:TA) (hk:t.k=1) (hg:goodT false t) (ox:okT t) (hl:RT w A t m):
  Calls Tryz.prog 71 #[TV t m] w fun e w'=>e=.returned (.int .i64 (deepV t.v))∧Below w.heap.size w w':=by
 obtain ⟨ma,mb,mc,md,me,mf,mg,mh,mi,mj,mk,ml⟩:=m
 obtain ⟨hn, -, -⟩:=goodT_eq.1 hg
 obtain ⟨-,ov, -⟩:=okT_iff.1 ox
 have hc:=size_of_checkV (value_at hk hn)
 have HV:=hid (RT_iff.1 hl).1
 have OV:=hid ov
 have hk1:(t.k==1)=true:=by simp [hk]
 clear hg ox hl hn ov hk
 go_enter Tryz.func71,Tryz.ntmps71
 go_wp2_with (go_at_call 111;refine (r14deep_any _ t.v _ A ⟨ma,mb⟩ (Nat.le_refl _) (by omega) OV.out (by exact RV_iff.1 (RV.ext (Agree.below Below.r) _ _ HV.out))).mono ?_;rintro e w1 ⟨rfl,hb1⟩)
 go_ret
 exact ⟨rfl,Below.r⟩
set_option maxRecDepth 100000 in
set_option maxHeartbeats 4000000 in
theorem high_2 (t:GT) (w:World) (A:Nat→Prop) (m:TA) (hk:t.k=2) (hg:goodT false t) (ox:okT t) (hl:RT w A t m):
  Calls Tryz.prog 71 #[TV t m] w fun e w'=>e=.returned (.int .i64 (1))∧Below w.heap.size w w':=by
 obtain ⟨ma,mb,mc,md,me,mf,mg,mh,mi,mj,mk,ml⟩:=m
 have hk1:(t.k==1)=false:=by simp [hk]
 have hk2:(t.k==2)=true:=by simp [hk]
 clear hg ox hl hk
 go_enter Tryz.func71,Tryz.ntmps71
 go_wp2_with fail
 go_ret
 exact ⟨rfl,Below.r⟩
set_option maxRecDepth 100000 in
set_option maxHeartbeats 4000000 in
theorem high_60 (t:GT) (w:World) (A:Nat→Prop) (m:TA) (hk:t.k=6) (hh:t.hi=0) (hg:goodT false t) (ox:okT t) (hl:RT w A t m):
  Calls Tryz.prog 71 #[TV t m] w fun e w'=>e=.returned (.int .i64 (1))∧Below w.heap.size w w':=by
 obtain ⟨ma,mb,mc,md,me,mf,mg,mh,mi,mj,mk,ml⟩:=m
 have hk1:(t.k==1)=false:=by simp [hk]
 have hk2:(t.k==2)=false:=by simp [hk]
 have hk4:(t.k==4)=false:=by simp [hk]
 have hk6:(t.k==6)=true:=by simp [hk]
 have hh0:(t.hi==0)=true:=by simp [hh]
 clear hg ox hl hk hh
 go_enter Tryz.func71,Tryz.ntmps71
 go_wp2_with fail
 go_ret
 exact ⟨rfl,Below.r⟩
set_option maxRecDepth 100000 in
set_option maxHeartbeats 4000000 in
theorem high_4 (t:GT) (w:World) (A:Nat→Prop) (m:TA) (hk:t.k=4) (hg:goodT false t) (ox:okT t) (hl:RT w A t m):
  Calls Tryz.prog 71 #[TV t m] w fun e w'=>e=.returned (.int .i64 (deepMax t.vs 0))∧Below w.heap.size w w':=by
 obtain ⟨ma,mb,mc,md,me,mf,mg,mh,mi,mj,mk,ml⟩:=m
 obtain ⟨hn, -, -⟩:=goodT_eq.1 hg
 obtain ⟨-, -,⟨ovl,ovs⟩, -⟩:=okT_iff.1 ox
 obtain ⟨h64,hc⟩:=row_at hk hn
 have HVS:=hid (RT_iff.1 hl).2.1
 have O:=hid ovs
 have HC:=hid (fun j hj=>size_of_checkV (hc j hj))
 have hk1:(t.k==1)=false:=by simp [hk]
 have hk2:(t.k==2)=false:=by simp [hk]
 have hk4:(t.k==4)=true:=by simp [hk]
 clear hg ox hl hn ovs hc hk
 go_enter Tryz.func71,Tryz.ntmps71
 go_wp2_with fail
 go_loopg [3,4] (t.vs.length) (fun gk t3 t4 wr=>∃(j:Nat) (q:Int),gk+j=t.vs.length∧t3=.int .i64 q∧t4=.int .i64 j∧Hid (q=deepMax (t.vs.take j) 0)∧Below w.heap.size w wr∧w.heap.size < wr.heap.size∧wr.cell? ⟨w.heap.size,4,none⟩=some (.slice mc t.vs.length md))
 case atStart=>exact ⟨0,0,by omega,rfl,rfl,hid (by simp [deepMax]),Below.r,by simp,by go_simp⟩
 case round=>
  obtain ⟨j,q,hj,rfl,rfl,HQ,hb,hz,hcell⟩:=hrel
  by_cases hlt:j < t.vs.length
  ·obtain ⟨b,o,mj',rfl,hA,hbs,g0,gx⟩:=HVS.out.get j hlt
   obtain ⟨k0,k1,k2⟩:=At3.1 (g0.ext (Agree.below hb) (A:=fun _=>True) trivial)
   have hs1:b < wr.heap.size:=by omega
   have hv1:=HC.out j hlt
   clear g0
   go_wp2_with (go_at_call 111;refine (r14deep_any _ t.vs[j] _ A mj' (Nat.le_refl _) (by omega) (O.out.get j hlt) (by exact RV_iff.1 (RV.ext (Agree.below Below.r) _ _ gx))).mono ?_;rintro e w2 ⟨rfl,hb2⟩;have hz2:=hb2.size;(try simp at hz2))
   all_goals
    go_roundg (gk - 1)
    case measure=>omega
    case rel=>exact ⟨j+1,max q (deepV t.vs[j]),by omega,by (first|(congr 1;omega)|go_num),by go_num,hid (by rw [deepMax_take hlt,HQ.out]),Below.r,by omega,(hb2.cell so).trans (by go_simp)⟩
  ·have hjl:j=t.vs.length:=by omega
   subst hjl
   have hq5:=HQ.out
   rw [List.take_length] at hq5
   clear HQ
   subst hq5
   go_wp2_with fail
   go_ret
   exact ⟨rfl,Below.r⟩
set_option maxRecDepth 100000 in
set_option maxHeartbeats 4000000 in
theorem high_3 (t:GT) (w:World) (A:Nat→Prop) (m:TA) (hk:t.k=3) (f:Nat) (hf:f≤4098) (ih:HighIH f) (K n1 D0 n':Int) (hF:foldA (fun n x=>wkT f x [] K n) t.a 0 n1=some (D0,n')) (hg:goodT false t) (ox:okT t) (hl:RT w A t m):
  Calls Tryz.prog 71 #[TV t m] w fun e w'=>e=.returned (.int .i64 (D0))∧Below w.heap.size w w':=by
 obtain ⟨ma,mb,mc,md,me,mf,mg,mh,mi,mj,mk,ml⟩:=m
 obtain ⟨-, -, -, -, -, -, -,oal,oa⟩:=okT_iff.1 ox
 have IH:=hid ih
 have HL:=hid (RT_iff.1 hl).2.2.2.2
 have O:=hid oa
 have HGA:=hid (fun (j:Nat) (hj:j < t.a.length)=>goodT_arg hg (by omega) (List.getElem_mem hj))
 have HF:=hid hF
 have hk1:(t.k==1)=false:=by first|(simp [hk];done)|(simp;omega)
 have hk2:(t.k==2)=false:=by first|(simp [hk];done)|(simp;omega)
 have hk4:(t.k==4)=false:=by first|(simp [hk];done)|(simp;omega)
 have hk6:(t.k==6)=false:=by first|(simp [hk];done)|(simp;omega)
 have hk10:(t.k==10)=false:=by first|(simp [hk];done)|(simp;omega)
 have hk3:(t.k==3)=true:=by first|(simp [hk];done)|(simp;omega)
 clear ih hg ox hl oa hk hF
 go_enter Tryz.func71,Tryz.ntmps71
 go_wp2_with fail
 go_loopg [3,5] (t.a.length) (fun gk t3 t5 wr=>∃(j:Nat) (q nq:Int),gk+j=t.a.length∧t3=.int .i64 q∧t5=.int .i64 j∧0≤q∧q≤4096+(f:Int)∧Hid (foldA (fun n x=>wkT f x [] K n) (t.a.drop j) q nq=some (D0,n'))∧Below w.heap.size w wr∧w.heap.size < wr.heap.size∧wr.cell? ⟨w.heap.size,0,none⟩=some (.int .u8 t.k)∧wr.cell? ⟨w.heap.size,14,none⟩=some (.slice mk t.a.length ml))
 case atStart=>exact ⟨0,0,n1,by omega,rfl,rfl,by omega,by omega,HF,Below.r,by simp,by go_simp,by go_simp⟩
 case round=>
  obtain ⟨j,q,nq,hj,rfl,rfl,hq0,hq1,HQ,hb,hz,hc0,hcell⟩:=hrel
  by_cases hlt:j < t.a.length
  ·obtain ⟨b,o,mj',rfl,hA,hbs,g0,gx⟩:=HL.out.get j hlt
   obtain ⟨k0,k1,k2,k3,k4,k5,k6,k7,k8,k9,ka,kb,kc,kd,ke⟩:=At15.1 (g0.ext (Agree.below hb) (A:=fun _=>True) trivial)
   have hs1:b < wr.heap.size:=by omega
   have hQ:=HQ.out
   rw [foldA_drop _ j hlt] at hQ
   cases hw:wkT f t.a[j] [] K nq with
   | none=>rw [hw] at hQ;cases hQ
   | some y=>
    obtain ⟨dj,nj⟩:=y
    rw [hw] at hQ
    have HQ2:=hid hQ
    have HW:=hid hw
    have hdj:=(IH.out t.a[j] wr A mj' K nq dj nj hw (HGA.out j hlt) (O.out.get j hlt) (RT.ext (Agree.below hb) _ _ gx)).1
    clear g0 hQ HQ hw
    obtain ⟨hd1,hd2⟩:=hdj
    go_wp2_with (go_at_call 71;refine (IH.out t.a[j] _ A mj' K nq dj nj HW.out (HGA.out j hlt) (O.out.get j hlt) (by exact RT.ext (Agree.below Below.r) _ _ gx)).2.mono ?_;rintro e w2 ⟨rfl,hb2⟩;have hz2:=hb2.size;(try simp at hz2))
    all_goals
     go_roundg (gk - 1)
     case measure=>omega
     case rel=>exact ⟨j+1,max q dj,nj,by omega,by (first|(congr 1;omega)|go_num),by go_num,by omega,by omega,HQ2,Below.r,by omega,(hb2.cell so).trans (by go_simp),(hb2.cell so).trans (by go_simp)⟩
  ·have hjl:j=t.a.length:=by omega
   subst hjl
   have hQ:=HQ.out
   rw [List.drop_length] at hQ
   simp only [foldA,Option.some.injEq,Prod.mk.injEq] at hQ
   obtain ⟨rfl,rfl⟩:=hQ
   clear HQ HF
   go_wp2_with fail
   go_ret
   exact ⟨by first|rfl|exact ret_int (by omega),Below.r⟩
set_option maxRecDepth 100000 in
set_option maxHeartbeats 4000000 in
theorem high_9 (t:GT) (w:World) (A:Nat→Prop) (m:TA) (hk:t.k=9) (f:Nat) (hf:f≤4098) (ih:HighIH f) (K n1 D0 n':Int) (hF:foldA (fun n x=>wkT f x [] K n) t.a 0 n1=some (D0,n')) (hg:goodT false t) (ox:okT t) (hl:RT w A t m):
  Calls Tryz.prog 71 #[TV t m] w fun e w'=>e=.returned (.int .i64 (D0))∧Below w.heap.size w w':=by
 obtain ⟨ma,mb,mc,md,me,mf,mg,mh,mi,mj,mk,ml⟩:=m
 obtain ⟨-, -, -, -, -, -, -,oal,oa⟩:=okT_iff.1 ox
 have IH:=hid ih
 have HL:=hid (RT_iff.1 hl).2.2.2.2
 have O:=hid oa
 have HGA:=hid (fun (j:Nat) (hj:j < t.a.length)=>goodT_arg hg (by omega) (List.getElem_mem hj))
 have HF:=hid hF
 have hk1:(t.k==1)=false:=by first|(simp [hk];done)|(simp;omega)
 have hk2:(t.k==2)=false:=by first|(simp [hk];done)|(simp;omega)
 have hk4:(t.k==4)=false:=by first|(simp [hk];done)|(simp;omega)
 have hk6:(t.k==6)=false:=by first|(simp [hk];done)|(simp;omega)
 have hk10:(t.k==10)=false:=by first|(simp [hk];done)|(simp;omega)
 have hk3:(t.k==3)=false:=by first|(simp [hk];done)|(simp;omega)
 have hk9:(t.k==9)=true:=by first|(simp [hk];done)|(simp;omega)
 clear ih hg ox hl oa hk hF
 go_enter Tryz.func71,Tryz.ntmps71
 go_wp2_with fail
 go_loopg [3,5] (t.a.length) (fun gk t3 t5 wr=>∃(j:Nat) (q nq:Int),gk+j=t.a.length∧t3=.int .i64 q∧t5=.int .i64 j∧0≤q∧q≤4096+(f:Int)∧Hid (foldA (fun n x=>wkT f x [] K n) (t.a.drop j) q nq=some (D0,n'))∧Below w.heap.size w wr∧w.heap.size < wr.heap.size∧wr.cell? ⟨w.heap.size,0,none⟩=some (.int .u8 t.k)∧wr.cell? ⟨w.heap.size,14,none⟩=some (.slice mk t.a.length ml))
 case atStart=>exact ⟨0,0,n1,by omega,rfl,rfl,by omega,by omega,HF,Below.r,by simp,by go_simp,by go_simp⟩
 case round=>
  obtain ⟨j,q,nq,hj,rfl,rfl,hq0,hq1,HQ,hb,hz,hc0,hcell⟩:=hrel
  by_cases hlt:j < t.a.length
  ·obtain ⟨b,o,mj',rfl,hA,hbs,g0,gx⟩:=HL.out.get j hlt
   obtain ⟨k0,k1,k2,k3,k4,k5,k6,k7,k8,k9,ka,kb,kc,kd,ke⟩:=At15.1 (g0.ext (Agree.below hb) (A:=fun _=>True) trivial)
   have hs1:b < wr.heap.size:=by omega
   have hQ:=HQ.out
   rw [foldA_drop _ j hlt] at hQ
   cases hw:wkT f t.a[j] [] K nq with
   | none=>rw [hw] at hQ;cases hQ
   | some y=>
    obtain ⟨dj,nj⟩:=y
    rw [hw] at hQ
    have HQ2:=hid hQ
    have HW:=hid hw
    have hdj:=(IH.out t.a[j] wr A mj' K nq dj nj hw (HGA.out j hlt) (O.out.get j hlt) (RT.ext (Agree.below hb) _ _ gx)).1
    clear g0 hQ HQ hw
    obtain ⟨hd1,hd2⟩:=hdj
    go_wp2_with (go_at_call 71;refine (IH.out t.a[j] _ A mj' K nq dj nj HW.out (HGA.out j hlt) (O.out.get j hlt) (by exact RT.ext (Agree.below Below.r) _ _ gx)).2.mono ?_;rintro e w2 ⟨rfl,hb2⟩;have hz2:=hb2.size;(try simp at hz2))
    all_goals
     go_roundg (gk - 1)
     case measure=>omega
     case rel=>exact ⟨j+1,max q dj,nj,by omega,by (first|(congr 1;omega)|go_num),by go_num,by omega,by omega,HQ2,Below.r,by omega,(hb2.cell so).trans (by go_simp),(hb2.cell so).trans (by go_simp)⟩
  ·have hjl:j=t.a.length:=by omega
   subst hjl
   have hQ:=HQ.out
   rw [List.drop_length] at hQ
   simp only [foldA,Option.some.injEq,Prod.mk.injEq] at hQ
   obtain ⟨rfl,rfl⟩:=hQ
   clear HQ HF
   go_wp2_with fail
   go_ret
   exact ⟨by first|rfl|exact ret_int (by omega),Below.r⟩
set_option maxRecDepth 100000 in
set_option maxHeartbeats 4000000 in
theorem high_6 (t:GT) (w:World) (A:Nat→Prop) (m:TA) (hk:t.k=6) (hh:¬t.hi=0) (f:Nat) (hf:f≤4098) (ih:HighIH f) (K n1 D0 n':Int) (hF:foldA (fun n x=>wkT f x [] K n) t.a 0 n1=some (D0,n')) (hg:goodT false t) (ox:okT t) (hl:RT w A t m):
  Calls Tryz.prog 71 #[TV t m] w fun e w'=>e=.returned (.int .i64 (D0+1))∧Below w.heap.size w w':=by
 obtain ⟨ma,mb,mc,md,me,mf,mg,mh,mi,mj,mk,ml⟩:=m
 obtain ⟨-, -, -, -, -, -, -,oal,oa⟩:=okT_iff.1 ox
 have IH:=hid ih
 have HL:=hid (RT_iff.1 hl).2.2.2.2
 have O:=hid oa
 have HGA:=hid (fun (j:Nat) (hj:j < t.a.length)=>goodT_arg hg (by omega) (List.getElem_mem hj))
 have HF:=hid hF
 have hk1:(t.k==1)=false:=by first|(simp [hk];done)|(simp;omega)
 have hk2:(t.k==2)=false:=by first|(simp [hk];done)|(simp;omega)
 have hk4:(t.k==4)=false:=by first|(simp [hk];done)|(simp;omega)
 have hk6:(t.k==6)=true:=by first|(simp [hk];done)|(simp;omega)
 have hk3:(t.k==3)=false:=by first|(simp [hk];done)|(simp;omega)
 have hk9:(t.k==9)=false:=by first|(simp [hk];done)|(simp;omega)
 have hh0:(t.hi==0)=false:=by simp [hh]
 clear ih hg ox hl oa hk hF
 go_enter Tryz.func71,Tryz.ntmps71
 go_wp2_with fail
 go_loopg [3,5] (t.a.length) (fun gk t3 t5 wr=>∃(j:Nat) (q nq:Int),gk+j=t.a.length∧t3=.int .i64 q∧t5=.int .i64 j∧0≤q∧q≤4096+(f:Int)∧Hid (foldA (fun n x=>wkT f x [] K n) (t.a.drop j) q nq=some (D0,n'))∧Below w.heap.size w wr∧w.heap.size < wr.heap.size∧wr.cell? ⟨w.heap.size,0,none⟩=some (.int .u8 t.k)∧wr.cell? ⟨w.heap.size,14,none⟩=some (.slice mk t.a.length ml))
 case atStart=>exact ⟨0,0,n1,by omega,rfl,rfl,by omega,by omega,HF,Below.r,by simp,by go_simp,by go_simp⟩
 case round=>
  obtain ⟨j,q,nq,hj,rfl,rfl,hq0,hq1,HQ,hb,hz,hc0,hcell⟩:=hrel
  by_cases hlt:j < t.a.length
  ·obtain ⟨b,o,mj',rfl,hA,hbs,g0,gx⟩:=HL.out.get j hlt
   obtain ⟨k0,k1,k2,k3,k4,k5,k6,k7,k8,k9,ka,kb,kc,kd,ke⟩:=At15.1 (g0.ext (Agree.below hb) (A:=fun _=>True) trivial)
   have hs1:b < wr.heap.size:=by omega
   have hQ:=HQ.out
   rw [foldA_drop _ j hlt] at hQ
   cases hw:wkT f t.a[j] [] K nq with
   | none=>rw [hw] at hQ;cases hQ
   | some y=>
    obtain ⟨dj,nj⟩:=y
    rw [hw] at hQ
    have HQ2:=hid hQ
    have HW:=hid hw
    have hdj:=(IH.out t.a[j] wr A mj' K nq dj nj hw (HGA.out j hlt) (O.out.get j hlt) (RT.ext (Agree.below hb) _ _ gx)).1
    clear g0 hQ HQ hw
    obtain ⟨hd1,hd2⟩:=hdj
    go_wp2_with (go_at_call 71;refine (IH.out t.a[j] _ A mj' K nq dj nj HW.out (HGA.out j hlt) (O.out.get j hlt) (by exact RT.ext (Agree.below Below.r) _ _ gx)).2.mono ?_;rintro e w2 ⟨rfl,hb2⟩;have hz2:=hb2.size;(try simp at hz2))
    all_goals
     go_roundg (gk - 1)
     case measure=>omega
     case rel=>exact ⟨j+1,max q dj,nj,by omega,by (first|(congr 1;omega)|go_num),by go_num,by omega,by omega,HQ2,Below.r,by omega,(hb2.cell so).trans (by go_simp),(hb2.cell so).trans (by go_simp)⟩
  ·have hjl:j=t.a.length:=by omega
   subst hjl
   have hQ:=HQ.out
   rw [List.drop_length] at hQ
   simp only [foldA,Option.some.injEq,Prod.mk.injEq] at hQ
   obtain ⟨rfl,rfl⟩:=hQ
   clear HQ HF
   go_wp2_with fail
   go_ret
   exact ⟨by first|rfl|exact ret_int (by omega),Below.r⟩
set_option maxRecDepth 100000 in
set_option maxHeartbeats 4000000 in
theorem high_d (t:GT) (w:World) (A:Nat→Prop) (m:TA) (hk:t.k=5∨t.k=7∨t.k=8) (f:Nat) (hf:f≤4098) (ih:HighIH f) (K n1 D0 n':Int) (hF:foldA (fun n x=>wkT f x [] K n) t.a 0 n1=some (D0,n')) (hg:goodT false t) (ox:okT t) (hl:RT w A t m):
  Calls Tryz.prog 71 #[TV t m] w fun e w'=>e=.returned (.int .i64 (D0+1))∧Below w.heap.size w w':=by
 obtain ⟨ma,mb,mc,md,me,mf,mg,mh,mi,mj,mk,ml⟩:=m
 obtain ⟨-, -, -, -, -, -, -,oal,oa⟩:=okT_iff.1 ox
 have IH:=hid ih
 have HL:=hid (RT_iff.1 hl).2.2.2.2
 have O:=hid oa
 have HGA:=hid (fun (j:Nat) (hj:j < t.a.length)=>goodT_arg hg (by omega) (List.getElem_mem hj))
 have HF:=hid hF
 have hk1:(t.k==1)=false:=by first|(simp [hk];done)|(simp;omega)
 have hk2:(t.k==2)=false:=by first|(simp [hk];done)|(simp;omega)
 have hk4:(t.k==4)=false:=by first|(simp [hk];done)|(simp;omega)
 have hk6:(t.k==6)=false:=by first|(simp [hk];done)|(simp;omega)
 have hk10:(t.k==10)=false:=by first|(simp [hk];done)|(simp;omega)
 have hk3:(t.k==3)=false:=by first|(simp [hk];done)|(simp;omega)
 have hk9:(t.k==9)=false:=by first|(simp [hk];done)|(simp;omega)
 clear ih hg ox hl oa hk hF
 go_enter Tryz.func71,Tryz.ntmps71
 go_wp2_with fail
 go_loopg [3,5] (t.a.length) (fun gk t3 t5 wr=>∃(j:Nat) (q nq:Int),gk+j=t.a.length∧t3=.int .i64 q∧t5=.int .i64 j∧0≤q∧q≤4096+(f:Int)∧Hid (foldA (fun n x=>wkT f x [] K n) (t.a.drop j) q nq=some (D0,n'))∧Below w.heap.size w wr∧w.heap.size < wr.heap.size∧wr.cell? ⟨w.heap.size,0,none⟩=some (.int .u8 t.k)∧wr.cell? ⟨w.heap.size,14,none⟩=some (.slice mk t.a.length ml))
 case atStart=>exact ⟨0,0,n1,by omega,rfl,rfl,by omega,by omega,HF,Below.r,by simp,by go_simp,by go_simp⟩
 case round=>
  obtain ⟨j,q,nq,hj,rfl,rfl,hq0,hq1,HQ,hb,hz,hc0,hcell⟩:=hrel
  by_cases hlt:j < t.a.length
  ·obtain ⟨b,o,mj',rfl,hA,hbs,g0,gx⟩:=HL.out.get j hlt
   obtain ⟨k0,k1,k2,k3,k4,k5,k6,k7,k8,k9,ka,kb,kc,kd,ke⟩:=At15.1 (g0.ext (Agree.below hb) (A:=fun _=>True) trivial)
   have hs1:b < wr.heap.size:=by omega
   have hQ:=HQ.out
   rw [foldA_drop _ j hlt] at hQ
   cases hw:wkT f t.a[j] [] K nq with
   | none=>rw [hw] at hQ;cases hQ
   | some y=>
    obtain ⟨dj,nj⟩:=y
    rw [hw] at hQ
    have HQ2:=hid hQ
    have HW:=hid hw
    have hdj:=(IH.out t.a[j] wr A mj' K nq dj nj hw (HGA.out j hlt) (O.out.get j hlt) (RT.ext (Agree.below hb) _ _ gx)).1
    clear g0 hQ HQ hw
    obtain ⟨hd1,hd2⟩:=hdj
    go_wp2_with (go_at_call 71;refine (IH.out t.a[j] _ A mj' K nq dj nj HW.out (HGA.out j hlt) (O.out.get j hlt) (by exact RT.ext (Agree.below Below.r) _ _ gx)).2.mono ?_;rintro e w2 ⟨rfl,hb2⟩;have hz2:=hb2.size;(try simp at hz2))
    all_goals
     go_roundg (gk - 1)
     case measure=>omega
     case rel=>exact ⟨j+1,max q dj,nj,by omega,by (first|(congr 1;omega)|go_num),by go_num,by omega,by omega,HQ2,Below.r,by omega,(hb2.cell so).trans (by go_simp),(hb2.cell so).trans (by go_simp)⟩
  ·have hjl:j=t.a.length:=by omega
   subst hjl
   have hQ:=HQ.out
   rw [List.drop_length] at hQ
   simp only [foldA,Option.some.injEq,Prod.mk.injEq] at hQ
   obtain ⟨rfl,rfl⟩:=hQ
   clear HQ HF
   go_wp2_with fail
   go_ret
   exact ⟨by first|rfl|exact ret_int (by omega),Below.r⟩
end Go.Proofs.YtclphfojkggcpaaGreat
