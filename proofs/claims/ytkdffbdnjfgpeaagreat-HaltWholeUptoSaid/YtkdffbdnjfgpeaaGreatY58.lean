/- Part 59. -/
import Derived.Test.YtkdffbdnjfgpeaaGreatY3
set_option linter.all false
namespace Go.Proofs.YtkdffbdnjfgpeaaGreat
open Go.Lib (hid)
open Go Go.RowKit Go.Proofs.Tryz
def Zgd (w:World):Ending→World→Prop:=fun e w'=>(∃n:Int,e=.returned (.int .i64 n))∧Below w.heap.size w w'
def KY (w:World):Ending→World→Prop:=fun e w'=>(∃b:Bool,e=.returned (.bool b))∧Below w.heap.size w w'
set_option maxRecDepth 100000
set_option maxHeartbeats 1000000
theorem ZeH (N:Nat):∀(x:GV) (w:World) (A:Nat→Prop) (m:VA) (most:Int),Zg x≤N→okV x→RVs w A x.l m.a →
  Calls prog 53 #[VV x m,.int .i64 most] w (Zgd w):=by
 induction N with
 | zero=>intro x;have:=Zr x;intros;omega
 | succ N ih=>
  rintro x w A ⟨ma,mc⟩ most hN ox hl
  have IH:=hid ih
  have HL:=hid hl
  obtain ⟨_,_,hlen,oa⟩:=ZA.1 ox
  have O:=hid oa
  have hse:=XZ x
  clear ih hl ox oa
  go_enter func53,ntmps53
  go_wp2_with fail
  go_loopg [5,6] (x.l.length) (fun gk n i wr=>∃(j:Nat) (q:Int),gk+j=x.l.length∧i=.int .i64 j∧n=.int .i64 q∧Below w.heap.size w wr∧w.heap.size < wr.heap.size∧wr.cell? ⟨w.heap.size,2,none⟩=some (.slice ma x.l.length mc))
  case atStart=>exact ⟨0,1,om,rfl,rfl,ZtX,sm,gs⟩
  case round=>
   obtain ⟨j,q,hj,rfl,rfl,hb,hz,hcell⟩:=hrel
   by_cases hlt:j < x.l.length
   ·by_cases hq:q < most
    ·obtain ⟨b,o,mj,rfl,hA,hbs,g0,gx⟩:=HL.out.get j hlt
     obtain ⟨k0,k1,k2⟩:=At3.1 (g0.ext (ZtY hb) (A:=fun _=>True) trivial)
     have hs1:b < wr.heap.size:=om
     have hq1:=ZX x.l j hlt
     clear g0
     go_wp2_with (go_at_call 53;refine (IH.out x.l[j] _ A mj _ om (O.out.get j hlt) (by exact Zt8 az _ _ (Zl.1 gx))).mono ?_;rintro e w2 ⟨⟨n2,rfl⟩,hb2⟩)
     have hbb:Below w.heap.size w w2:=hb.trans (hb2.mono om)
     go_roundg (gk - 1)
     case measure=>omega
     case rel=>exact ⟨j+1,_,om,by go_num,rfl,hbb,by have:=hb2.size;omega,(hb2.cell (by simp;omega)).trans hcell⟩
    go_wp2_with fail
    go_ret
    exact ⟨⟨q,rfl⟩,hb⟩
   go_wp2_with fail
   go_ret
   exact ⟨⟨q,rfl⟩,hb⟩
theorem Ku (l:List GV) (w:World) (A:Nat→Prop) (a:Option Addr) (cp:Nat) (hlen:l.length≤1048576) (ol:okVs l) (hl:RVs w A l a):
  Calls prog 16 #[.slice a l.length cp] w (KY w):=by
 have HL:=hid hl
 have O:=hid ol
 clear hl ol
 go_enter func16,ntmps16
 go_wp2_with fail
 go_loopg [3,4] (l.length) (fun gk n i wr=>∃(j:Nat) (q:Int),gk+j=l.length∧i=.int .i64 j∧n=.int .i64 q∧Below w.heap.size w wr)
 case atStart=>exact ⟨0,0,om,rfl,rfl,ZtX⟩
 case round=>
  obtain ⟨j,q,hj,rfl,rfl,hb⟩:=hrel
  by_cases hlt:j < l.length
  ·by_cases hq:q < 6000
   ·obtain ⟨b,o,mj,rfl,hA,hbs,g0,gx⟩:=HL.out.get j hlt
    obtain ⟨k0,k1,k2⟩:=At3.1 (g0.ext (ZtY hb) (A:=fun _=>True) trivial)
    have hs1:b < wr.heap.size:=by have:=hb.size;omega
    clear g0
    go_wp2_with (go_at_call 53;refine (ZeH _ l[j] _ A mj _ (Nat.le_refl _) (O.out.get j hlt) (by exact Zt8 az _ _ (Zl.1 gx))).mono ?_;rintro e w2 ⟨⟨n2,rfl⟩,hb2⟩)
    have hbb:Below w.heap.size w w2:=hb.trans (hb2.mono (by have:=hb.size;omega))
    go_roundg (gk - 1)
    case measure=>omega
    case rel=>exact ⟨j+1,_,om,by go_num,rfl,hbb⟩
   go_wp2_with fail
   go_ret
   exact ⟨⟨_,rfl⟩,hb⟩
  go_wp2_with fail
  go_ret
  exact ⟨⟨_,rfl⟩,hb⟩
set_option maxRecDepth 512
theorem Zgc {w:World} {A:Nat→Prop} {x:GV} {m:VA} {b:Nat} (hA:A b) (hc:At w b 0 [.int .u8 x.k,.int .i64 x.n,.slice m.a x.l.length m.c]) (hr:RV w A x m.a) (hf:Fz w A b 0:=by exact ZaK _ _ _):RVs w A [x] (some ⟨b,0,none⟩):=by
 simp only [RVs]
 exact ⟨b,0,m,rfl,hA,hc,hr,trivial,hf⟩
set_option maxRecDepth 100000
theorem ZeI (N:Nat):∀(p:GP) (w:World) (A:Nat→Prop) (m:PA) (most:Int),Zm p≤N→okP p→RP w A p m →
  Calls prog 180 #[PV p m,.int .i64 most] w (Zgd w):=by
 induction N with
 | zero=>intro p;have:=ZS p;intros;omega
 | succ N ih=>
  rintro p w A ⟨ma,mc,mb,md⟩ most hN ox hl
  have IH:=hid ih
  have HL:=hid (Wn.1 hl).2
  have HV:=hid (Wn.1 hl).1
  obtain ⟨_,ov,_,hlen,oa⟩:=Y3.1 ox
  have O:=hid oa
  have OV:=hid ov
  have hse:=Wk p
  clear ih hl ox oa ov
  cases hv0:decide (0 < p.v.l.length)
  all_goals
   go_enter func180,ntmps180
   go_wp2_with (go_at_call 16;refine (Ku [p.v] _ (fun _=>True) (some ⟨w.heap.size+1,0,none⟩) 1 sm (by exact ⟨OV.out,trivial⟩) (by exact Zgc trivial (m:=⟨ma,mc⟩) (At3.2 ⟨gs,gs,gs⟩) (Zt9 (fun _ _ _=>trivial) _ _ (Zt5 az _ _ HV.out)))).mono ?_;rintro e w1 ⟨⟨b1,rfl⟩,hb1⟩;have hz1:=hb1.size;simp at hz1;have q3:w1.cell? ⟨w.heap.size,3,none⟩=some (.slice ma p.v.l.length mc):=(hb1.cell so).trans gs;have q5:w1.cell? ⟨w.heap.size,5,none⟩=some (.slice mb p.a.length md):=(hb1.cell so).trans gs;have hbw:Below w.heap.size w w1:=ZtX;cases b1)
   rotate_right
   ·go_ret
    exact ⟨⟨_,rfl⟩,ZtX⟩
   all_goals
    go_loopg [5,6] (p.a.length) (fun gk n i wr=>∃(j:Nat) (q:Int),gk+j=p.a.length∧i=.int .i64 j∧n=.int .i64 q∧Below w.heap.size w wr∧w.heap.size < wr.heap.size∧wr.cell? ⟨w.heap.size,5,none⟩=some (.slice mb p.a.length md))
    case atStart=>exact ⟨0,_,om,rfl,rfl,hbw,om,q5⟩
    case round=>
     obtain ⟨j,q,hj,rfl,rfl,hb,hz,hcell⟩:=hrel
     by_cases hlt:j < p.a.length
     ·by_cases hq:q < most
      ·obtain ⟨b,o,mj,rfl,hA,hbs,g0,gx⟩:=HL.out.get j hlt
       obtain ⟨k0,k1,k2,k3,k4,k5⟩:=At6.1 (g0.ext (ZtY hb) (A:=fun _=>True) trivial)
       have hs1:b < wr.heap.size:=om
       have hq1:=Xq p.a j hlt
       clear g0
       go_wp2_with (go_at_call 180;refine (IH.out p.a[j] _ A mj _ om (O.out.get j hlt) (by exact Zub az _ _ gx)).mono ?_;rintro e w2 ⟨⟨n2,rfl⟩,hb2⟩)
       have hbb:Below w.heap.size w w2:=hb.trans (hb2.mono om)
       go_roundg (gk - 1)
       case measure=>omega
       case rel=>exact ⟨j+1,_,om,by go_num,rfl,hbb,by have:=hb2.size;omega,(hb2.cell (by simp;omega)).trans hcell⟩
      go_wp2_with fail
      go_ret
      exact ⟨⟨q,rfl⟩,hb⟩
     go_wp2_with fail
     go_ret
     exact ⟨⟨q,rfl⟩,hb⟩
set_option maxRecDepth 512
theorem ZiT {w:World} {A:Nat→Prop} {x:GP} {m:PA} {b:Nat} (hA:A b) (hc:At w b 0 [.int .u8 x.k,.int .u8 x.v.k,.int .i64 x.v.n,.slice m.va x.v.l.length m.vc,.int .i64 x.n,.slice m.a x.a.length m.c]) (hr:RP w A x m):RPs w A [x] (some ⟨b,0,none⟩):=by
 simp only [RPs]
 exact ⟨b,0,m,rfl,hA,hc,hr,trivial⟩
set_option maxRecDepth 100000
theorem Zfb (l:List GP) (w:World) (A:Nat→Prop) (a:Option Addr) (cp:Nat) (hlen:l.length≤1048576) (ol:okPs l) (hl:RPs w A l a):
  Calls prog 111 #[.slice a l.length cp] w (KY w):=by
 have HL:=hid hl
 have O:=hid ol
 clear hl ol
 go_enter func111,ntmps111
 go_wp2_with fail
 go_loopg [3,4] (l.length) (fun gk n i wr=>∃(j:Nat) (q:Int),gk+j=l.length∧i=.int .i64 j∧n=.int .i64 q∧Below w.heap.size w wr)
 case atStart=>exact ⟨0,0,om,rfl,rfl,ZtX⟩
 case round=>
  obtain ⟨j,q,hj,rfl,rfl,hb⟩:=hrel
  by_cases hlt:j < l.length
  ·by_cases hq:q < 3000
   ·obtain ⟨b,o,mj,rfl,hA,hbs,g0,gx⟩:=HL.out.get j hlt
    obtain ⟨k0,k1,k2,k3,k4,k5⟩:=At6.1 (g0.ext (ZtY hb) (A:=fun _=>True) trivial)
    have hs1:b < wr.heap.size:=by have:=hb.size;omega
    clear g0
    go_wp2_with (go_at_call 180;refine (ZeI _ l[j] _ A mj _ (Nat.le_refl _) (O.out.get j hlt) (by exact Zub az _ _ gx)).mono ?_;rintro e w2 ⟨⟨n2,rfl⟩,hb2⟩)
    have hbb:Below w.heap.size w w2:=hb.trans (hb2.mono (by have:=hb.size;omega))
    go_roundg (gk - 1)
    case measure=>omega
    case rel=>exact ⟨j+1,_,om,by go_num,rfl,hbb⟩
   go_wp2_with fail
   go_ret
   exact ⟨⟨_,rfl⟩,hb⟩
  go_wp2_with fail
  go_ret
  exact ⟨⟨_,rfl⟩,hb⟩
set_option maxRecDepth 512
theorem ZiV {w:World} {A:Nat→Prop} {x:GT} {m:TA} {b:Nat} (hA:A b) (hc:At w b 0 [.int .u8 x.k,.int .u8 x.v.k,.int .i64 x.v.n,.slice m.va x.v.l.length m.vc,.slice m.vsa x.vs.length m.vsc,.int .i64 x.lo,.int .i64 x.hi,.slice m.wa x.w.length m.wc,.int .u8 x.p.k,.int .u8 x.p.v.k,.int .i64 x.p.v.n,.slice m.pva x.p.v.l.length m.pvc,.int .i64 x.p.n,.slice m.pa x.p.a.length m.pc,.slice m.a x.a.length m.c]) (hr:RT w A x m):RTs w A [x] (some ⟨b,0,none⟩):=by
 simp only [RTs]
 exact ⟨b,0,m,rfl,hA,hc,hr,trivial⟩
theorem Zfa (x:GV) (w:World) (A:Nat→Prop) (b:Nat) (m:VA) (ox:okV x) (hc:At w b 0 [.int .u8 x.k,.int .i64 x.n,.slice m.a x.l.length m.c]) (hr:RV w A x m.a):
  Calls prog 16 #[.slice (some ⟨b,0,none⟩) 1 1] w (KY w):=
 Ku [x] w (fun _=>True) (some ⟨b,0,none⟩) 1 sm ⟨ox,trivial⟩ (Zgc trivial hc (Zt9 (fun _ _ _=>trivial) _ _ hr))
theorem Zbw (x:GP) (w:World) (A:Nat→Prop) (b:Nat) (m:PA) (ox:okP x) (hc:At w b 0 [.int .u8 x.k,.int .u8 x.v.k,.int .i64 x.v.n,.slice m.va x.v.l.length m.vc,.int .i64 x.n,.slice m.a x.a.length m.c]) (hr:RP w A x m):
  Calls prog 111 #[.slice (some ⟨b,0,none⟩) 1 1] w (KY w):=
 Zfb [x] w (fun _=>True) (some ⟨b,0,none⟩) 1 sm ⟨ox,trivial⟩ (ZiT trivial hc (RP.mono (fun _ _ _=>trivial) _ _ hr))
set_option maxRecDepth 100000
set_option maxHeartbeats 2000000
theorem ZeJ (N:Nat):∀(t:GT) (w:World) (A:Nat→Prop) (m:TA) (most:Int),Zb t≤N→okT t→RT w A t m →
  Calls prog 74 #[TV t m,.int .i64 most] w (Zgd w):=by
 induction N with
 | zero=>intro t;have:=X8 t;intros;omega
 | succ N ih=>
  rintro t w A ⟨ma,mb,mc,md,me,mf,mg,mh,mi,mj,mk,ml⟩ most hN ox hl
  have IH:=hid ih
  obtain ⟨h1,h2,h3,h4,h5⟩:=Zo.1 hl
  have HV:=hid h1
  have HVS:=hid h2
  have HP:=hid h4
  have HL:=hid h5
  obtain ⟨_,ov,⟨ovl,ovs⟩,_,_,⟨owl,_⟩,op,hlen,oa⟩:=Ze.1 ox
  have O:=hid oa
  have OV:=hid ov
  have OVS:=hid ovs
  have OP:=hid op
  have hse:=Zq t
  clear ih hl ox oa ov ovs op h1 h2 h3 h4 h5
  cases hv0:decide (0 < t.v.l.length)
  all_goals cases hp0:(t.p.k != 0)
  all_goals by_cases hw2:(200:Int) < (t.w.length:Int)
  all_goals by_cases hv2:(200:Int) < (t.vs.length:Int)
  all_goals go_enter func74,ntmps74
  all_goals go_wp2_with (first
   | (go_at_call 16;(with_reducible refine (Zfa t.v _ A _ ⟨ma,mb⟩ OV.out (by exact (At3.2 ⟨gs,gs,gs⟩)) (by exact Zt5 az _ _ HV.out)).mono ?_);rintro e w1 ⟨⟨b1,rfl⟩,hb1⟩;obtain ⟨hc1,hf1⟩:=Za hb1;have hz1:=hb1.size;(try simp at hz1);have y1:w.heap.size < w1.heap.size:=om;cases b1)
   | (go_at_call 16;(with_reducible refine (Ku t.vs _ A mc md ovl OVS.out (by exact Zt8 az _ _ HVS.out)).mono ?_);rintro e w2 ⟨⟨b2,rfl⟩,hb2⟩;obtain ⟨hc2,hf2⟩:=Za hb2;have hz2:=hb2.size;(try simp at hz2);have y2:w.heap.size < w2.heap.size:=om;cases b2)
   | (go_at_call 111;(with_reducible refine (Zbw t.p _ A _ ⟨mg,mh,mi,mj⟩ OP.out (by exact (At6.2 ⟨gs,gs,gs,gs,gs,gs⟩)) (by exact Zub az _ _ HP.out)).mono ?_);rintro e w3 ⟨⟨b3,rfl⟩,hb3⟩;obtain ⟨hc3,hf3⟩:=Za hb3;have hz3:=hb3.size;(try simp at hz3);have y3:w.heap.size < w3.heap.size:=om;cases b3))
  all_goals try (go_ret;exact ⟨⟨_,rfl⟩,ZtX⟩)
  all_goals
   have hbw:Below w.heap.size w w3:=ZtX
   have q14:w3.cell? ⟨w.heap.size,14,none⟩=some (.slice mk t.a.length ml):=gs
   go_loopg [5,6] (t.a.length) (fun gk n i wr=>∃(j:Nat) (q:Int),gk+j=t.a.length∧i=.int .i64 j∧n=.int .i64 q∧Below w.heap.size w wr∧w.heap.size < wr.heap.size∧wr.cell? ⟨w.heap.size,14,none⟩=some (.slice mk t.a.length ml))
   case atStart=>exact ⟨0,_,om,rfl,rfl,hbw,om,q14⟩
   case round=>
    obtain ⟨j,q,hj,rfl,rfl,hb,hz,hcell⟩:=hrel
    by_cases hlt:j < t.a.length
    ·by_cases hq:q < most
     ·obtain ⟨b,o,mj',rfl,hA,hbs,g0,gx⟩:=HL.out.get j hlt
      obtain ⟨k0,k1,k2,k3,k4,k5,k6,k7,k8,k9,ka,kb,kc,kd,ke⟩:=Yp.1 (g0.ext (ZtY hb) (A:=fun _=>True) trivial)
      have hs1:b < wr.heap.size:=by have:=hb.size;omega
      have hq1:=ZD t.a j hlt
      clear g0
      go_wp2_with (go_at_call 74;refine (IH.out t.a[j] _ A mj' _ om (O.out.get j hlt) (by exact Zt2 az _ _ gx)).mono ?_;rintro e w4 ⟨⟨n2,rfl⟩,hb4⟩)
      have hbb:Below w.heap.size w w4:=hb.trans (hb4.mono om)
      go_roundg (gk - 1)
      case measure=>omega
      case rel=>exact ⟨j+1,_,om,by go_num,rfl,hbb,by have:=hb4.size;omega,(hb4.cell (by simp;omega)).trans hcell⟩
     go_wp2_with fail
     go_ret
     exact ⟨⟨q,rfl⟩,hb⟩
    go_wp2_with fail
    go_ret
    exact ⟨⟨q,rfl⟩,hb⟩
theorem Zfc (l:List GT) (w:World) (A:Nat→Prop) (a:Option Addr) (cp:Nat) (hlen:l.length≤1048576) (ol:okTs l) (hl:RTs w A l a):
  Calls prog 44 #[.slice a l.length cp] w (KY w):=by
 have HL:=hid hl
 have O:=hid ol
 clear hl ol
 go_enter func44,ntmps44
 go_wp2_with fail
 go_loopg [3,4] (l.length) (fun gk n i wr=>∃(j:Nat) (q:Int),gk+j=l.length∧i=.int .i64 j∧n=.int .i64 q∧Below w.heap.size w wr)
 case atStart=>exact ⟨0,0,om,rfl,rfl,ZtX⟩
 case round=>
  obtain ⟨j,q,hj,rfl,rfl,hb⟩:=hrel
  by_cases hlt:j < l.length
  ·by_cases hq:q < 1500
   ·obtain ⟨b,o,mj',rfl,hA,hbs,g0,gx⟩:=HL.out.get j hlt
    obtain ⟨k0,k1,k2,k3,k4,k5,k6,k7,k8,k9,ka,kb,kc,kd,ke⟩:=Yp.1 (g0.ext (ZtY hb) (A:=fun _=>True) trivial)
    have hs1:b < wr.heap.size:=by have:=hb.size;omega
    clear g0
    go_wp2_with (go_at_call 74;refine (ZeJ _ l[j] _ A mj' _ (Nat.le_refl _) (O.out.get j hlt) (by exact Zt2 az _ _ gx)).mono ?_;rintro e w2 ⟨⟨n2,rfl⟩,hb2⟩)
    have hbb:Below w.heap.size w w2:=hb.trans (hb2.mono (by have:=hb.size;omega))
    go_roundg (gk - 1)
    case measure=>omega
    case rel=>exact ⟨j+1,_,om,by go_num,rfl,hbb⟩
   go_wp2_with fail
   go_ret
   exact ⟨⟨_,rfl⟩,hb⟩
  go_wp2_with fail
  go_ret
  exact ⟨⟨_,rfl⟩,hb⟩
end Go.Proofs.YtkdffbdnjfgpeaaGreat
