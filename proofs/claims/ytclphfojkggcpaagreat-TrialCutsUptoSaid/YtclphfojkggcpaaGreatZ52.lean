/- What the proofs of the Trial statements need: part 53. -/
import Derived.Test.YtclphfojkggcpaaGreatZ3
set_option linter.unusedVariables false
set_option linter.unusedSimpArgs false
namespace Go.Proofs.YtclphfojkggcpaaGreat
open Go.Lib (hid)
open Go Go.RowKit
theorem RTs_one {w:World} {A:Nat→Prop} {x:GT} {m:TA} {b:Nat} (hA:A b) (hc:At w b 0 [.int .u8 x.k,.int .u8 x.v.k,.int .i64 x.v.n,.slice m.va x.v.l.length m.vc,.slice m.vsa x.vs.length m.vsc,.int .i64 x.lo,.int .i64 x.hi,.slice m.wa x.w.length m.wc,.int .u8 x.p.k,.int .u8 x.p.v.k,.int .i64 x.p.v.n,.slice m.pva x.p.v.l.length m.pvc,.int .i64 x.p.n,.slice m.pa x.p.a.length m.pc,.slice m.a x.a.length m.c]) (hr:RT w A x m):RTs w A [x] (some ⟨b,0,none⟩):=by
 simp only [RTs]
 exact ⟨b,0,m,rfl,hA,hc,hr,trivial⟩
theorem long14_one (x:GV) (w:World) (A:Nat→Prop) (b:Nat) (m:VA) (ox:okV x) (hc:At w b 0 [.int .u8 x.k,.int .i64 x.n,.slice m.a x.l.length m.c]) (hr:RV w A x m.a):
  Calls Tryz.prog 43 #[.slice (some ⟨b,0,none⟩) 1 1] w (SomeB w):=
 long14_any [x] w (fun _=>True) (some ⟨b,0,none⟩) 1 (by simp) ⟨ox,trivial⟩ (RVs_one trivial hc (RV.mono (fun _ _ _=>trivial) _ _ hr))
theorem long17_one (x:GP) (w:World) (A:Nat→Prop) (b:Nat) (m:PA) (ox:okP x) (hc:At w b 0 [.int .u8 x.k,.int .u8 x.v.k,.int .i64 x.v.n,.slice m.va x.v.l.length m.vc,.int .i64 x.n,.slice m.a x.a.length m.c]) (hr:RP w A x m):
  Calls Tryz.prog 12 #[.slice (some ⟨b,0,none⟩) 1 1] w (SomeB w):=
 long17_any [x] w (fun _=>True) (some ⟨b,0,none⟩) 1 (by simp) ⟨ox,trivial⟩ (RPs_one trivial hc (RP.mono (fun _ _ _=>trivial) _ _ hr))
set_option maxRecDepth 100000 in
set_option maxHeartbeats 2000000 in
theorem weigh19_any (N:Nat):∀(t:GT) (w:World) (A:Nat→Prop) (m:TA) (most:Int),sizeT t≤N→okT t→RT w A t m →
  Calls Tryz.prog 42 #[TV t m,.int .i64 most] w (SomeI w):=by
 induction N with
 | zero=>intro t;have:=sizeT_pos t;intros;omega
 | succ N ih=>
  rintro t w A ⟨ma,mb,mc,md,me,mf,mg,mh,mi,mj,mk,ml⟩ most hN ox hl
  have IH:=hid ih
  obtain ⟨h1,h2,h3,h4,h5⟩:=RT_iff.1 hl
  have HV:=hid h1
  have HVS:=hid h2
  have HP:=hid h4
  have HL:=hid h5
  obtain ⟨_,ov,⟨ovl,ovs⟩,_,_,⟨owl,_⟩,op,hlen,oa⟩:=okT_iff.1 ox
  have O:=hid oa
  have OV:=hid ov
  have OVS:=hid ovs
  have OP:=hid op
  have hse:=sizeT_eq t
  clear ih hl ox oa ov ovs op h1 h2 h3 h4 h5
  cases hv0:decide (0 < t.v.l.length)
  all_goals cases hp0:(t.p.k != 0)
  all_goals by_cases hw2:(200:Int) < (t.w.length:Int)
  all_goals by_cases hv2:(200:Int) < (t.vs.length:Int)
  all_goals go_enter Tryz.func42,Tryz.ntmps42
  all_goals go_wp2_with (first
   | (go_at_call 43;(with_reducible refine (long14_one t.v _ A _ ⟨ma,mb⟩ OV.out (by exact (At3.2 ⟨by go_simp,by go_simp,by go_simp⟩)) (by exact RV.ext (Agree.below Below.z) _ _ HV.out)).mono ?_);rintro e w1 ⟨⟨b1,rfl⟩,hb1⟩;obtain ⟨hc1,hf1⟩:=bcells hb1;have hz1:=hb1.size;(try simp at hz1);have y1:w.heap.size < w1.heap.size:=(by omega);cases b1)
   | (go_at_call 43;(with_reducible refine (long14_any t.vs _ A mc md ovl OVS.out (by exact RVs.ext (Agree.below Below.z) _ _ HVS.out)).mono ?_);rintro e w2 ⟨⟨b2,rfl⟩,hb2⟩;obtain ⟨hc2,hf2⟩:=bcells hb2;have hz2:=hb2.size;(try simp at hz2);have y2:w.heap.size < w2.heap.size:=(by omega);cases b2)
   | (go_at_call 12;(with_reducible refine (long17_one t.p _ A _ ⟨mg,mh,mi,mj⟩ OP.out (by exact (At6.2 ⟨by go_simp,by go_simp,by go_simp,by go_simp,by go_simp,by go_simp⟩)) (by exact RP.ext (Agree.below Below.z) _ _ HP.out)).mono ?_);rintro e w3 ⟨⟨b3,rfl⟩,hb3⟩;obtain ⟨hc3,hf3⟩:=bcells hb3;have hz3:=hb3.size;(try simp at hz3);have y3:w.heap.size < w3.heap.size:=(by omega);cases b3))
  all_goals try (go_ret;exact ⟨⟨_,rfl⟩,Below.z⟩)
  all_goals
   have hbw:Below w.heap.size w w3:=Below.z
   have q14:w3.cell? ⟨w.heap.size,14,none⟩=some (.slice mk t.a.length ml):=by go_simp
   go_loopg [5,6] (t.a.length) (fun gk n i wr=>∃(j:Nat) (q:Int),gk+j=t.a.length∧i=.int .i64 j∧n=.int .i64 q∧Below w.heap.size w wr∧w.heap.size < wr.heap.size∧wr.cell? ⟨w.heap.size,14,none⟩=some (.slice mk t.a.length ml))
   case atStart=>exact ⟨0,_,by omega,rfl,rfl,hbw,by omega,q14⟩
   case round=>
    obtain ⟨j,q,hj,rfl,rfl,hb,hz,hcell⟩:=hrel
    by_cases hlt:j < t.a.length
    ·by_cases hq:q < most
     ·obtain ⟨b,o,mj',rfl,hA,hbs,g0,gx⟩:=HL.out.get j hlt
      obtain ⟨k0,k1,k2,k3,k4,k5,k6,k7,k8,k9,ka,kb,kc,kd,ke⟩:=At15.1 (g0.ext (Agree.below hb) (A:=fun _=>True) trivial)
      have hs1:b < wr.heap.size:=by have:=hb.size;omega
      have hq1:=sizeTs_get t.a j hlt
      clear g0
      go_wp2_with (go_at_call 42;refine (IH.out t.a[j] _ A mj' _ (by omega) (O.out.get j hlt) (by exact RT.ext (Agree.below Below.z) _ _ gx)).mono ?_;rintro e w4 ⟨⟨n2,rfl⟩,hb4⟩)
      have hbb:Below w.heap.size w w4:=hb.trans (hb4.mono (by omega))
      go_roundg (gk - 1)
      case measure=>omega
      case rel=>exact ⟨j+1,_,by omega,by go_num,rfl,hbb,by have:=hb4.size;omega,(hb4.cell (by simp;omega)).trans hcell⟩
     ·go_wp2_with fail
      go_ret
      exact ⟨⟨q,rfl⟩,hb⟩
    ·go_wp2_with fail
     go_ret
     exact ⟨⟨q,rfl⟩,hb⟩
set_option maxRecDepth 100000 in
set_option maxHeartbeats 1000000 in
theorem long19_any (l:List GT) (w:World) (A:Nat→Prop) (a:Option Addr) (cp:Nat) (hlen:l.length≤1048576) (ol:okTs l) (hl:RTs w A l a):
  Calls Tryz.prog 26 #[.slice a l.length cp] w (SomeB w):=by
 have HL:=hid hl
 have O:=hid ol
 clear hl ol
 go_enter Tryz.func26,Tryz.ntmps26
 go_wp2_with fail
 go_loopg [3,4] (l.length) (fun gk n i wr=>∃(j:Nat) (q:Int),gk+j=l.length∧i=.int .i64 j∧n=.int .i64 q∧Below w.heap.size w wr)
 case atStart=>exact ⟨0,0,by omega,rfl,rfl,Below.z⟩
 case round=>
  obtain ⟨j,q,hj,rfl,rfl,hb⟩:=hrel
  by_cases hlt:j < l.length
  ·by_cases hq:q < 1500
   ·obtain ⟨b,o,mj',rfl,hA,hbs,g0,gx⟩:=HL.out.get j hlt
    obtain ⟨k0,k1,k2,k3,k4,k5,k6,k7,k8,k9,ka,kb,kc,kd,ke⟩:=At15.1 (g0.ext (Agree.below hb) (A:=fun _=>True) trivial)
    have hs1:b < wr.heap.size:=by have:=hb.size;omega
    clear g0
    go_wp2_with (go_at_call 42;refine (weigh19_any _ l[j] _ A mj' _ (Nat.le_refl _) (O.out.get j hlt) (by exact RT.ext (Agree.below Below.z) _ _ gx)).mono ?_;rintro e w2 ⟨⟨n2,rfl⟩,hb2⟩)
    have hbb:Below w.heap.size w w2:=hb.trans (hb2.mono (by have:=hb.size;omega))
    go_roundg (gk - 1)
    case measure=>omega
    case rel=>exact ⟨j+1,_,by omega,by go_num,rfl,hbb⟩
   ·go_wp2_with fail
    go_ret
    exact ⟨⟨_,rfl⟩,hb⟩
  ·go_wp2_with fail
   go_ret
   exact ⟨⟨_,rfl⟩,hb⟩
mutual
theorem sameV_self:∀x:GV,sameV x x=true
 | ⟨k,n,l⟩=>by simp only [sameV,sameVs_self l,beq_self_eq_true,Bool.and_self]
theorem sameVs_self:∀l:List GV,sameVs l l=true
 | []=>rfl
 | x::l=>by simp only [sameVs,sameV_self x,sameVs_self l,Bool.and_self]
end
end Go.Proofs.YtclphfojkggcpaaGreat
