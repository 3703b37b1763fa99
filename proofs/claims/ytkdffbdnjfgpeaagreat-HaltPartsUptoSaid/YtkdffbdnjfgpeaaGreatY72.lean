/- Part 73. -/
import Derived.Test.YtkdffbdnjfgpeaaGreatY54
import Derived.Test.YtkdffbdnjfgpeaaGreatY61
set_option linter.all false
namespace Go.Proofs.YtkdffbdnjfgpeaaGreat
open Go.Lib (hid)
open Go Go.RowKit Go.Proofs.Tryz
theorem ZgB:∀(f:Nat) (t:GT) (e:Env) (k n d n':Int),1≤k→wkT f t e k n=some (d,n')→n+k≤n'
 | 0,_,_,_,_,_,_,_,h=>by simp [wkT] at h
 | f+1,t,e,k,n,d,n',hk,h=>by
  have hst:∀t m up,Xx (wkT f) t m up k n=some (d,n')→n+k≤n':=fun t m up h=>by
   unfold Xx at h
   cases hs:Zu n k with
   | none=>rw [hs] at h;cases h
   | some n1=>
    rw [hs] at h
    obtain ⟨e1,e2⟩:=ZC hs
    dsimp only at h
    split at h
    ·split at h
     ·have:=KQ f _ _ _ _ _ _ om h;omega
     cases h
    split at h
    ·have:=KQ f _ _ _ _ _ _ om h;omega
    cases h
  have hfo:∀(j:Int),0≤j→∀l d0 n0 d1 n1,Zx (fun n x=>wkT f x e j n) l d0 n0=some (d1,n1)→n0≤n1:=fun j hj l d0 n0 d1 n1 h=>Jb (fun n x d n' h=>KQ f x e j n d n' hj h) l _ _ _ _ h
  simp only [wkT] at h
  split at h
  ·cases hs:Zu n (k*(Zg t.v:Int)) with
   | none=>rw [hs] at h;cases h
   | some n1=>
    rw [hs] at h
    obtain ⟨e1,e2⟩:=ZC hs
    have hq:k*1≤k*(Zg t.v:Int):=Int.mul_le_mul_of_nonneg_left (by have:=Zr t.v;omega) om
    cases h
    omega
  split at h
  ·split at h
   ·cases h
   exact hst _ _ _ h
  split at h
  ·exact hst _ _ _ h
  cases hs:Zu n k with
  | none=>rw [hs] at h;cases h
  | some n1=>
   rw [hs] at h
   obtain ⟨e1,e2⟩:=ZC hs
   dsimp only at h
   split at h
   ·cases h;omega
   split at h
   ·have:=JR om _ _ _ _ _ h;omega
   split at h
   ·cases hx:Zx (fun n x=>wkT f x e (k*max 1 t.hi) n) t.a 0 n1 with
    | none=>rw [hx] at h;cases h
    | some y=>
     obtain ⟨d2,n2⟩:=y
     have h3:=hfo _ (Int.mul_nonneg om om) _ _ _ _ _ hx
     rw [hx] at h
     dsimp only at h
     split at h<;>(cases h;omega)
   split at h
   ·have:=hfo _ om _ _ _ _ _ h;omega
   cases hx:Zx (fun n x=>wkT f x e k n) t.a 0 n1 with
   | none=>rw [hx] at h;cases h
   | some y=>
    obtain ⟨d2,n2⟩:=y
    have h3:=hfo _ om _ _ _ _ _ hx
    rw [hx] at h
    simp only [ZcE] at h
    cases h
    omega
theorem ZkQ (t:GT):Big t 0:=fun f k n d n' h1 h0 h=>by
 have:=ZgB f t [] k n d n' h1 h
 rw [Int.zero_add,Int.mul_one];exact this
theorem Ziq {l:List GT} (h:l.length=1):l=[l[0]'om]:=by
 match l,h with
 | [x],_=>rfl
theorem Zjg {M q:Int} {l:List GT} {j:Nat} (h:FX M l j q) (hq:¬q≤M):FX M l l.length q:=by
 rcases h with ⟨-,h, -⟩|h
 ·exact absurd h hq
 exact .inr h
theorem ZkS {M q:Int} {t:GT} (hg:Zp false t) (hk:¬t.k=1∧¬t.k=4∧¬t.k=6∧¬t.k=10) (hM:1≤M) (h:FX M t.a t.a.length q):BX M t q:=by
 obtain ⟨hn,h11, -⟩:=Zk.1 hg
 obtain ⟨⟨r1,r2⟩, -, -, -,ha⟩:=Y9 hn
 have h11':¬t.k=11:=fun e=>by have:=h11 e;cases this
 obtain ⟨k1,k4,k6,k10⟩:=hk
 by_cases h2:t.k=2
 ·have hl:t.a.length=0:=by
   unfold Zn at ha
   rw [if_neg om,if_neg om,if_neg om,if_neg om,if_neg om] at ha
   have:=Wu ha
   omega
  have hnil:t.a=[]:=List.eq_nil_of_length_eq_zero hl
  have hq:q=1:=by
   rcases h with ⟨h1,h3,D,hD⟩|⟨h1,hb⟩
   ·rw [hnil] at hD
    have:=(hD 1 1 0 om om om).2 (0,0) (by simp [Zx])
    have h5:=congrArg Prod.snd this.2
    simp at h5
    omega
   rw [hnil] at hb
   have:=hb 1 1 0 (0,0) om om om (by simp [Zx])
   simp at this
   omega
  subst hq
  have:=ZdK (M:=M) (Zlw h2) om
  rwa [show min (1:Int) (M+1)=1 by omega] at this
 exact Zlu om h
def ZeS (M:Int) (t:GT) (w:World) (e:Ending) (w':World):Prop:=(∃r:Int,e=.returned (.int .i64 r)∧BX M t r)∧Below w.heap.size w w'
def ZeR (M:Int):Prop:=∀(t:GT) (w:World) (A:Nat→Prop) (m:TA) (mo:Int),0≤mo→mo≤M→mo≤4096→Zp false t→okT t→RT w A t m →
  Calls prog 76 #[TV t m,.int .i64 mo] w (ZeS mo t w)
def Kp (M:Int) (t:GT):Prop:=∀(w:World) (A:Nat→Prop) (m:TA),Zp false t→okT t→RT w A t m→Calls prog 76 #[TV t m,.int .i64 M] w (ZeS M t w)
set_option maxRecDepth 100000
set_option maxHeartbeats 4000000
theorem Zfx (t:GT) (w:World) (m:TA):Calls prog 76 #[TV t m,.int .i64 0] w (ZeS 0 t w):=by
 go_enter func76,ntmps76
 go_wp2_with fail
 go_ret
 exact ⟨⟨1,Zf om,.inr ⟨om,ZkQ t⟩⟩,ZtZ⟩
set_option maxRecDepth 512
theorem Zxu {p:Prop} (h:p:=by
 go_ret
 all_goals exact ⟨⟨_,Zf (by first|rfl|omega|(split<;>omega)),HX.out⟩,ZtZ⟩):p:=h
set_option maxRecDepth 100000
theorem Zfy (M:Int) (h1:1≤M) (hM:M≤4096) (t:GT) (hk:t.k=1):Kp M t:=by
 rintro w A ⟨ma,mb,mc,md,me,mf,mg,mh,mi,mj,mk,ml⟩ hg ox hl
 obtain ⟨hn, -, -⟩:=Zk.1 hg
 obtain ⟨-,ov, -⟩:=Ze.1 ox
 have hc:=JF hk hn
 have hx:=ZdK (M:=M) (Zlv (t:=t) hk) (by have:=Zr t.v;omega)
 have HX:=hid hx
 have hv1:=YE hc
 have hv2:=Zr t.v
 clear hx
 have HV:=hid (Zo.1 hl).1
 have OV:=hid ov
 have hm0:decide (M < 1)=false:=by simp;omega
 have wm:IntKind.i64.wrap (M+1)=M+1:=IntWalk.i64_in _ om
 obtain ⟨k,v,vs,lo,hi,ws,p,l⟩:=t
 dsimp only at hk hc hv1 hv2 HX
 subst hk
 clear hg ox hl hn ov
 go_enter func76,ntmps76
 go_wp2_with (go_at_call 113;refine (XQ _ v _ A ⟨ma,mb⟩ (Nat.le_refl _) om OV.out (by exact Zl.1 (Zt5 ar _ _ HV.out))).mono ?_;rintro e w1 ⟨rfl,hb1⟩)
 all_goals exact Zxu
theorem Zfz (M:Int) (h1:1≤M) (hM:M≤4096) (t:GT) (hk:t.k=4):Kp M t:=by
 rintro w A ⟨ma,mb,mc,md,me,mf,mg,mh,mi,mj,mk,ml⟩ hg ox hl
 obtain ⟨hn, -, -⟩:=Zk.1 hg
 obtain ⟨-, -,⟨ovl,ovs⟩, -⟩:=Ze.1 ox
 obtain ⟨h64,hc⟩:=Zdy hk hn
 have HVS:=hid (Zo.1 hl).2.1
 have O:=hid ovs
 have HC:=hid (fun j hj=>YE (hc j hj))
 have HX:=hid (ZdK (M:=M) (Zlx (t:=t) hk) om)
 have hm0:decide (M < 1)=false:=by simp;omega
 have hk1:(t.k==1)=false:=by simp [hk]
 have hk4:(t.k==4)=true:=by simp [hk]
 clear hg ox hl hn ovs hc hk
 go_enter func76,ntmps76
 go_wp2_with fail
 go_loopg [5,6] (t.vs.length) (fun gk t5 t6 wr=>∃(j:Nat) (q:Int),gk+j=t.vs.length∧t5=.int .i64 q∧t6=.int .i64 j∧1≤q∧q≤1+4096*(j:Int)∧Hid (q=1+(Zi (t.vs.take j):Int))∧Below w.heap.size w wr∧w.heap.size < wr.heap.size∧wr.cell? ⟨w.heap.size,4,none⟩=some (.slice mc t.vs.length md))
 case atStart=>exact ⟨0,1,om,rfl,rfl,om,om,hid (by simp [Zi]),ZtZ,sm,gs⟩
 case round=>
  obtain ⟨j,q,hj,rfl,rfl,hq1,hq2,HQ,hb,hz,hcell⟩:=hrel
  by_cases hlt:j < t.vs.length
  ·obtain ⟨b,o,mj',rfl,hA,hbs,g0,gx⟩:=HVS.out.get j hlt
   obtain ⟨k0,k1,k2⟩:=At3.1 (g0.ext (ZtY hb) (A:=fun _=>True) trivial)
   have hs1:b < wr.heap.size:=om
   have hq4:=X9 t.vs j hlt
   have HQ4:=hid hq4
   have hv1:=HC.out j hlt
   have hv2:=Zr t.vs[j]
   clear g0 hq4
   go_wp2_with (go_at_call 113;refine (XQ _ t.vs[j] _ A mj' (Nat.le_refl _) om (O.out.get j hlt) (by exact Zl.1 (Zt5 ar _ _ gx))).mono ?_;rintro e w2 ⟨rfl,hb2⟩;have hz2:=hb2.size;(try simp at hz2))
   go_roundg (gk - 1)
   case measure=>omega
   case rel=>exact ⟨j+1,q+(Zg t.vs[j]:Int),om,by go_num,by go_num,om,om,hid (by have:=HQ.out;have:=HQ4.out;omega),ZtZ,om,(hb2.cell so).trans gs⟩
  obtain rfl:j=t.vs.length:=om
  have hq5:=HQ.out
  rw [List.take_length] at hq5
  clear HQ
  subst hq5
  go_wp2_with fail
  all_goals exact Zxu
theorem ZfB (M:Int) (h1:1≤M) (hM:M≤4096) (ih:ZeR (M - 1)) (t:GT) (hk:¬t.k=1∧¬t.k=4∧¬t.k=6∧¬t.k=10):Kp M t:=by
 rintro w A ⟨ma,mb,mc,md,me,mf,mg,mh,mi,mj,mk,ml⟩ hg ox hl
 obtain ⟨-, -, -, -, -, -, -,oal,oa⟩:=Ze.1 ox
 have IH:=hid ih
 have HL:=hid (Zo.1 hl).2.2.2.2
 have O:=hid oa
 have HG:=hid hg
 have hm0:decide (M < 1)=false:=by simp;omega
 have hk1:(t.k==1)=false:=by simp [hk]
 have hk4:(t.k==4)=false:=by simp [hk]
 have hk6:(t.k==6)=false:=by simp [hk]
 have hk10:(t.k==10)=false:=by simp [hk]
 have HK10:=hid hk.2.2.2
 have HX:=hid (fun (q:Int) (h:FX M t.a t.a.length q)=>ZkS hg hk h1 h)
 clear ih hg ox hl oa hk
 go_enter func76,ntmps76
 go_wp2_with fail
 go_loopg [5,7] (t.a.length) (fun gk t5 t7 wr=>∃(j:Nat) (q:Int),gk+j=t.a.length∧t5=.int .i64 q∧t7=.int .i64 j∧1≤q∧q≤M+1∧Hid (FX M t.a j q)∧Below w.heap.size w wr∧w.heap.size < wr.heap.size∧wr.cell? ⟨w.heap.size,14,none⟩=some (.slice mk t.a.length ml))
 case atStart=>exact ⟨0,1,om,rfl,rfl,om,om,hid (Zkd t.a h1),ZtZ,sm,gs⟩
 case round=>
  obtain ⟨j,q,hj,rfl,rfl,hq1,hq2,HF,hb,hz,hcell⟩:=hrel
  by_cases hlt:j < t.a.length
  ·by_cases hq:q≤M
   ·obtain ⟨b,o,mj',rfl,hA,hbs,g0,gx⟩:=HL.out.get j hlt
    obtain ⟨k0,k1,k2,k3,k4,k5,k6,k7,k8,k9,ka,kb,kc,kd,ke⟩:=Yp.1 (g0.ext (ZtY hb) (A:=fun _=>True) trivial)
    have hs1:b < wr.heap.size:=om
    clear g0
    go_wp2_with (go_at_call 76;refine (IH.out t.a[j] _ A mj' (M - q) om om om (YG HG.out HK10.out (List.getElem_mem hlt)) (O.out.get j hlt) (by exact Zt2 ar _ _ gx)).mono ?_;rintro e w2 ⟨⟨r,rfl,hbx⟩,hb2⟩;obtain ⟨hr1,hr2⟩:=Qm om hbx;have HBX:=hid hbx;clear hbx;have hz2:=hb2.size;(try simp at hz2))
    go_roundg (gk - 1)
    case measure=>omega
    case rel=>exact ⟨j+1,q+r,om,by go_num,by go_num,om,om,hid (Zjh hlt HF.out hq HBX.out),ZtZ,om,(hb2.cell so).trans gs⟩
   have hq':decide (q≤M)=false:=by simp;omega
   go_wp2_with fail
   all_goals go_ret
   all_goals exact ⟨⟨_,rfl,HX.out q (Zjg HF.out om)⟩,ZtZ⟩
  obtain rfl:j=t.a.length:=om
  go_wp2_with fail
  all_goals go_ret
  all_goals exact ⟨⟨_,rfl,HX.out q HF.out⟩,ZtZ⟩
set_option maxRecDepth 512
theorem Zxo {p:Prop} (h:p:=by
 go_wp2_with fail
 all_goals go_ret
 all_goals exact ⟨⟨_,Zf (by first|omega|(simp only [show max (1:Int) 0=1 from rfl,show max (1:Int) 1=1 from rfl]<;>omega)|(rw [m9];omega)),HX.out r HBX.out⟩,ZtZ⟩):p:=h
set_option maxRecDepth 100000
theorem ZfA (M:Int) (h1:1≤M) (hM:M≤4096) (t:GT) (ih:∀x,Zb x < Zb t→Kp M x) (hk:t.k=6):Kp M t:=by
 rintro w A ⟨ma,mb,mc,md,me,mf,mg,mh,mi,mj,mk,ml⟩ hg ox hl
 obtain ⟨hn, -, -⟩:=Zk.1 hg
 obtain ⟨hl1, -,hh1,hh0⟩:=Zip hk hn
 obtain ⟨-, -, -, -, -, -, -,oal,oa⟩:=Ze.1 ox
 have HL:=hid (Zo.1 hl).2.2.2.2
 have h0l:0 < t.a.length:=om
 obtain ⟨b,o,mj',rfl,hA,hbs,g0,gx⟩:=HL.out.get 0 h0l
 have hsz:=ZD t.a 0 h0l
 have hse:=Zq t
 have HC:=hid (fun (W:World) (h:RT W A (t.a[0]'h0l) mj')=>ih (t.a[0]'h0l) om W A mj' (YG hg om (List.getElem_mem h0l)) (oa.get 0 h0l) h)
 obtain ⟨k0,k1,k2,k3,k4,k5,k6,k7,k8,k9,ka,kb,kc,kd,ke⟩:=Yp.1 (show At w b o _ by simpa using g0)
 have HX:=hid (fun (r:Int) (h:BX M (t.a[0]'h0l) r)=>Zlt hk (Ziq hl1) om h)
 have hI0:(0:Int) < (t.a.length:Int):=om
 have hm0:decide (M < 1)=false:=by simp;omega
 have hk1:(t.k==1)=false:=by simp [hk]
 have hk4:(t.k==4)=false:=by simp [hk]
 have hk6:(t.k==6)=true:=by simp [hk]
 have hs1:b < w.heap.size+1:=om
 clear hg ox hl hn oa ih hk g0 hl1 hsz hse
 go_enter func76,ntmps76
 go_wp2_with fail
 refine ZT (fun W=>Below w.heap.size w W∧w.heap.size < W.heap.size∧W.cell? ⟨w.heap.size,6,none⟩=some (.int .i64 t.hi)∧W.cell? ⟨w.heap.size,14,none⟩=some (.slice (some ⟨b,o,none⟩) t.a.length ml)) ⟨ZtZ,sm,gs,gs⟩ ?_
 intro wr ⟨hb,hz,c6,c14⟩
 have hs2:b < wr.heap.size:=om
 obtain ⟨k0,k1,k2,k3,k4,k5,k6,k7,k8,k9,ka,kb,kc,kd,ke⟩:=Yp.1 (Zuf (ZtY hb) (A:=fun _=>True) trivial _ _ (Yp.2 ⟨k0,k1,k2,k3,k4,k5,k6,k7,k8,k9,ka,kb,kc,kd,ke⟩))
 rcases (by omega:t.hi=0∨t.hi=1∨2≤t.hi) with hh|hh|hh
 ·rw [hh] at c6 HX
  clear hh hh1 hh0
  go_region_held3 (fun W=>W.cell? ⟨w.heap.size,6,none⟩=some (.int .i64 0)∧W.cell? ⟨w.heap.size,14,none⟩=some (.slice (some ⟨b,o,none⟩) t.a.length ml)∧∀k,W.cell? ⟨b,k,none⟩=wr.cell? ⟨b,k,none⟩) ((refine ⟨gs,gs,fun k=>gs⟩)) ((go_at_call 76;refine (HC.out _ (by exact Zt2 ar _ _ gx)).mono ?_;rintro e w2 ⟨⟨r,rfl,hbx⟩,hb2⟩;obtain ⟨hr1,hr2⟩:=Qm om hbx;have HBX:=hid hbx;clear hbx;have hz2:=hb2.size;(try simp at hz2);have hbr2:Below wr.heap.size wr w2:=ZtZ;have y6:=(hbr2.cell (p:=⟨w.heap.size,6,none⟩) hz).trans c6;have y14:=(hbr2.cell (p:=⟨w.heap.size,14,none⟩) hz).trans c14;have yb:∀k,w2.cell? ⟨b,k,none⟩=wr.cell? ⟨b,k,none⟩:=(fun k=>hbr2.cell (p:=⟨b,k,none⟩) hs2)))
  all_goals exact Zxo
 ·rw [hh] at c6 HX
  clear hh hh1 hh0
  go_region_held3 (fun W=>W.cell? ⟨w.heap.size,6,none⟩=some (.int .i64 1)∧W.cell? ⟨w.heap.size,14,none⟩=some (.slice (some ⟨b,o,none⟩) t.a.length ml)∧∀k,W.cell? ⟨b,k,none⟩=wr.cell? ⟨b,k,none⟩) ((refine ⟨gs,gs,fun k=>gs⟩)) ((go_at_call 76;refine (HC.out _ (by exact Zt2 ar _ _ gx)).mono ?_;rintro e w2 ⟨⟨r,rfl,hbx⟩,hb2⟩;obtain ⟨hr1,hr2⟩:=Qm om hbx;have HBX:=hid hbx;clear hbx;have hz2:=hb2.size;(try simp at hz2);have hbr2:Below wr.heap.size wr w2:=ZtZ;have y6:=(hbr2.cell (p:=⟨w.heap.size,6,none⟩) hz).trans c6;have y14:=(hbr2.cell (p:=⟨w.heap.size,14,none⟩) hz).trans c14;have yb:∀k,w2.cell? ⟨b,k,none⟩=wr.cell? ⟨b,k,none⟩:=(fun k=>hbr2.cell (p:=⟨b,k,none⟩) hs2)))
  all_goals exact Zxo
 have m1:(1:Int)≤t.hi:=om
 have m2:(1:Int) < t.hi:=om
 have m3:¬t.hi≤1:=om
 have m4:¬t.hi < 1:=om
 have m5:decide ((1:Int)≤t.hi)=true:=by simp;omega
 have m6:decide ((1:Int) < t.hi)=true:=by simp;omega
 have m7:decide (t.hi≤(1:Int))=false:=by simp;omega
 have m8:decide (t.hi < (1:Int))=false:=by simp;omega
 have m9:max (1:Int) t.hi=t.hi:=om
 go_region_held3 (fun W=>W.cell? ⟨w.heap.size,6,none⟩=some (.int .i64 t.hi)∧W.cell? ⟨w.heap.size,14,none⟩=some (.slice (some ⟨b,o,none⟩) t.a.length ml)∧∀k,W.cell? ⟨b,k,none⟩=wr.cell? ⟨b,k,none⟩) ((refine ⟨gs,gs,fun k=>gs⟩)) ((go_at_call 76;refine (HC.out _ (by exact Zt2 ar _ _ gx)).mono ?_;rintro e w2 ⟨⟨r,rfl,hbx⟩,hb2⟩;obtain ⟨hr1,hr2⟩:=Qm om hbx;have HBX:=hid hbx;clear hbx;have hz2:=hb2.size;(try simp at hz2);have hbr2:Below wr.heap.size wr w2:=ZtZ;have y6:=(hbr2.cell (p:=⟨w.heap.size,6,none⟩) hz).trans c6;have y14:=(hbr2.cell (p:=⟨w.heap.size,14,none⟩) hz).trans c14;have yb:∀k,w2.cell? ⟨b,k,none⟩=wr.cell? ⟨b,k,none⟩:=(fun k=>hbr2.cell (p:=⟨b,k,none⟩) hs2);have hm0:0≤t.hi*r:=Int.mul_nonneg om om;have hm1:t.hi*r≤16*4097:=Int.mul_le_mul hh1 om om om;have wm:IntKind.i64.wrap (t.hi*r)=t.hi*r:=IntWalk.i64_in _ om;have wn:IntKind.i64.wrap (1+t.hi*r)=1+t.hi*r:=IntWalk.i64_in _ om))
 all_goals exact Zxo
theorem Zeq (M:Int) (h1:1≤M) (hM:M≤4096) (ih:ZeR (M - 1)) (t:GT) (hk:t.k=10):Kp M t:=by
 rintro w A ⟨ma,mb,mc,md,me,mf,mg,mh,mi,mj,mk,ml⟩ hg ox hl
 obtain ⟨hn, -, -⟩:=Zk.1 hg
 obtain ⟨h0,h8,hl2⟩:=KP hk hn
 obtain ⟨-, -, -, -, -, -, -,oal,oa⟩:=Ze.1 ox
 have HT:=hid hl
 have OX:=hid ox
 have h1l:1 < t.a.length:=om
 have hgs:=UE hk hg h1l
 have hos:okT (YY t t.a[0] t.a[1]):=by
  unfold YY
  split
  ·exact oa.get 0 om
  exact Jp (ZaL om ox) _ (oa.get 1 om)
 have HS:=hid (fun (W:World) (h:RT W A t ⟨ma,mb,mc,md,me,mf,mg,mh,mi,mj,mk,ml⟩)=>Ul t W A ⟨ma,mb,mc,md,me,mf,mg,mh,mi,mj,mk,ml⟩ ox h1l h0 h)
 have HX:=hid (fun (r:Int) (h:BX (M - 1) (YY t t.a[0] t.a[1]) r)=>ZkR hk hg sm sm h)
 generalize YY t t.a[0] t.a[1]=X at hgs hos HS HX
 have HC:=hid (fun (W:World) (A':Nat→Prop) (m':TA) (h:RT W A' X m')=>ih X W A' m' (M - 1) om om om hgs hos h)
 have hm0:decide (M < 1)=false:=by simp;omega
 have hk1:(t.k==1)=false:=by simp [hk]
 have hk4:(t.k==4)=false:=by simp [hk]
 have hk6:(t.k==6)=false:=by simp [hk]
 have hk10:(t.k==10)=true:=by simp [hk]
 have wm1:IntKind.i64.wrap (M - 1)=M - 1:=IntWalk.i64_in _ om
 clear hg ox hl hn oa ih hk hgs hos hl2 h0 h8 h1l
 go_enter func76,ntmps76
 go_wp2_with (first
  | (go_at_call 114;refine (HS.out _ (by exact Zt2 ar _ _ HT.out)).mono ?_;rintro e w1 ⟨hb1,m1,rfl,hrt⟩;have HRT:=hid (Zud (A':=fun _=>True) (fun _ _ _=>trivial) _ _ hrt);clear hrt;have hz1:=hb1.size;(try simp at hz1))
  | (go_at_call 76;(with_reducible refine (HC.out _ (fun _=>True) m1 (by exact HRT.out)).mono ?_);rintro e w2 ⟨⟨r,rfl,hbx⟩,hb2⟩;obtain ⟨hr1,hr2⟩:=Qm om hbx;have HBX:=hid hbx;clear hbx))
 all_goals go_ret
 all_goals exact ⟨⟨_,Zf (by first|rfl|omega|(split<;>omega)),HX.out r HBX.out⟩,ZtZ⟩
set_option maxRecDepth 512
theorem Zds (M:Nat):ZeR M:=by
 induction M with
 | zero=>
  intro t w A m mo h0 h1 _ _ _ _
  obtain rfl:mo=0:=om
  exact Zfx t w m
 | succ M ih=>
  intro t w A m mo h0 h1 h4 hg ox hl
  by_cases hlt:mo≤M
  ·exact ih t w A m mo h0 hlt h4 hg ox hl
  obtain rfl:mo=(M:Int)+1:=om
  have hM:(M:Int)+1 - 1=M:=om
  have all:∀(N:Nat) (x:GT),Zb x≤N→Kp ((M:Int)+1) x:=by
   intro N
   induction N with
   | zero=>intro x hx;have:=X8 x;omega
   | succ N ihN=>
    intro x hx
    by_cases k1:x.k=1
    ·exact Zfy _ om h4 x k1
    by_cases k4:x.k=4
    ·exact Zfz _ om h4 x k4
    by_cases k6:x.k=6
    ·exact ZfA _ om h4 x (fun y hy=>ihN y om) k6
    by_cases k10:x.k=10
    ·exact Zeq _ om h4 (by rw [hM];exact ih) x k10
    exact ZfB _ om h4 (by rw [hM];exact ih) x ⟨k1,k4,k6,k10⟩
  exact all _ t (Nat.le_refl _) w A m hg ox hl
def JI (f:Nat):Prop:=∀(t:GT) (w:World) (A:Nat→Prop) (m:TA) (k n d n':Int),wkT f t [] k n=some (d,n')→Zp false t→okT t→RT w A t m →
  (0≤d∧d≤4096+(f:Int))∧Calls prog 130 #[TV t m] w fun e w'=>e=.returned (.int .i64 d)∧Below w.heap.size w w'
theorem Zab:∀(l:List GV) (x:GV) (d:Int),Xn (l++[x]) d=max (Xn l d) (Yx x)
 | [],x,d=>rfl
 | y::l,x,d=>by simp only [List.cons_append,Xn];exact Zab l x _
theorem Zdb {l:List GV} {j:Nat} (h:j < l.length) (d:Int):Xn (l.take (j+1)) d=max (Xn (l.take j) d) (Yx l[j]):=by
 rw [List.take_succ_eq_append_getElem h,Zab]
set_option maxRecDepth 100000
theorem Zke (t:GT) (w:World) (A:Nat→Prop) (m:TA) (hk:t.k=1) (hg:Zp false t) (ox:okT t) (hl:RT w A t m):
  Calls prog 130 #[TV t m] w fun e w'=>e=.returned (.int .i64 (Yx t.v))∧Below w.heap.size w w':=by
 obtain ⟨ma,mb,mc,md,me,mf,mg,mh,mi,mj,mk,ml⟩:=m
 obtain ⟨hn, -, -⟩:=Zk.1 hg
 obtain ⟨-,ov, -⟩:=Ze.1 ox
 have hc:=YE (JF hk hn)
 have HV:=hid (Zo.1 hl).1
 have OV:=hid ov
 have hk1:(t.k==1)=true:=by simp [hk]
 clear hg ox hl hn ov hk
 go_enter func130,ntmps130
 go_wp2_with (go_at_call 201;refine (Qz _ t.v _ A ⟨ma,mb⟩ (Nat.le_refl _) om OV.out (by exact Zl.1 (Zt5 ar _ _ HV.out))).mono ?_;rintro e w1 ⟨rfl,hb1⟩)
 go_ret
 exact ⟨rfl,ZtZ⟩
theorem Zkf (t:GT) (w:World) (A:Nat→Prop) (m:TA) (hk:t.k=2) (hg:Zp false t) (ox:okT t) (hl:RT w A t m):
  Calls prog 130 #[TV t m] w fun e w'=>e=.returned (.int .i64 (1))∧Below w.heap.size w w':=by
 obtain ⟨ma,mb,mc,md,me,mf,mg,mh,mi,mj,mk,ml⟩:=m
 have hk1:(t.k==1)=false:=by simp [hk]
 have hk2:(t.k==2)=true:=by simp [hk]
 clear hg ox hl hk
 go_enter func130,ntmps130
 go_wp2_with fail
 go_ret
 exact ⟨rfl,ZtZ⟩
theorem Zjj (t:GT) (w:World) (A:Nat→Prop) (m:TA) (hk:t.k=6) (hh:t.hi=0) (hg:Zp false t) (ox:okT t) (hl:RT w A t m):
  Calls prog 130 #[TV t m] w fun e w'=>e=.returned (.int .i64 (1))∧Below w.heap.size w w':=by
 obtain ⟨ma,mb,mc,md,me,mf,mg,mh,mi,mj,mk,ml⟩:=m
 have hk1:(t.k==1)=false:=by simp [hk]
 have hk2:(t.k==2)=false:=by simp [hk]
 have hk4:(t.k==4)=false:=by simp [hk]
 have hk6:(t.k==6)=true:=by simp [hk]
 have hh0:(t.hi==0)=true:=by simp [hh]
 clear hg ox hl hk hh
 go_enter func130,ntmps130
 go_wp2_with fail
 go_ret
 exact ⟨rfl,ZtZ⟩
theorem Zkh (t:GT) (w:World) (A:Nat→Prop) (m:TA) (hk:t.k=4) (hg:Zp false t) (ox:okT t) (hl:RT w A t m):
  Calls prog 130 #[TV t m] w fun e w'=>e=.returned (.int .i64 (Xn t.vs 0))∧Below w.heap.size w w':=by
 obtain ⟨ma,mb,mc,md,me,mf,mg,mh,mi,mj,mk,ml⟩:=m
 obtain ⟨hn, -, -⟩:=Zk.1 hg
 obtain ⟨-, -,⟨ovl,ovs⟩, -⟩:=Ze.1 ox
 obtain ⟨h64,hc⟩:=Zdy hk hn
 have HVS:=hid (Zo.1 hl).2.1
 have O:=hid ovs
 have HC:=hid (fun j hj=>YE (hc j hj))
 have hk1:(t.k==1)=false:=by simp [hk]
 have hk2:(t.k==2)=false:=by simp [hk]
 have hk4:(t.k==4)=true:=by simp [hk]
 clear hg ox hl hn ovs hc hk
 go_enter func130,ntmps130
 go_wp2_with fail
 go_loopg [3,4] (t.vs.length) (fun gk t3 t4 wr=>∃(j:Nat) (q:Int),gk+j=t.vs.length∧t3=.int .i64 q∧t4=.int .i64 j∧Hid (q=Xn (t.vs.take j) 0)∧Below w.heap.size w wr∧w.heap.size < wr.heap.size∧wr.cell? ⟨w.heap.size,4,none⟩=some (.slice mc t.vs.length md))
 case atStart=>exact ⟨0,0,om,rfl,rfl,hid (by simp [Xn]),ZtZ,sm,gs⟩
 case round=>
  obtain ⟨j,q,hj,rfl,rfl,HQ,hb,hz,hcell⟩:=hrel
  by_cases hlt:j < t.vs.length
  ·obtain ⟨b,o,mj',rfl,hA,hbs,g0,gx⟩:=HVS.out.get j hlt
   obtain ⟨k0,k1,k2⟩:=At3.1 (g0.ext (ZtY hb) (A:=fun _=>True) trivial)
   have hs1:b < wr.heap.size:=om
   have hv1:=HC.out j hlt
   clear g0
   go_wp2_with (go_at_call 201;refine (Qz _ t.vs[j] _ A mj' (Nat.le_refl _) om (O.out.get j hlt) (by exact Zl.1 (Zt5 ar _ _ gx))).mono ?_;rintro e w2 ⟨rfl,hb2⟩;have hz2:=hb2.size;(try simp at hz2))
   all_goals
    go_roundg (gk - 1)
    case measure=>omega
    case rel=>exact ⟨j+1,max q (Yx t.vs[j]),om,by (first|(congr 1;omega)|go_num),by go_num,hid (by rw [Zdb hlt,HQ.out]),ZtZ,om,(hb2.cell so).trans gs⟩
  have hjl:j=t.vs.length:=om
  subst hjl
  have hq5:=HQ.out
  rw [List.take_length] at hq5
  clear HQ
  subst hq5
  go_wp2_with fail
  go_ret
  exact ⟨rfl,ZtZ⟩
set_option maxRecDepth 512
theorem Zxl {p:Prop} (h:p:=by
 obtain ⟨j,q,nq,hj,rfl,rfl,hq0,hq1,HQ,hb,hz,hc0,hcell⟩:=hrel
 by_cases hlt:j < t.a.length
 ·obtain ⟨b,o,mj',rfl,hA,hbs,g0,gx⟩:=HL.out.get j hlt
  obtain ⟨k0,k1,k2,k3,k4,k5,k6,k7,k8,k9,ka,kb,kc,kd,ke⟩:=Yp.1 (g0.ext (ZtY hb) (A:=fun _=>True) trivial)
  have hs1:b < wr.heap.size:=om
  have hQ:=HQ.out
  rw [VR _ j hlt] at hQ
  cases hw:wkT f t.a[j] [] K nq with
  | none=>rw [hw] at hQ;cases hQ
  | some y=>
   obtain ⟨dj,nj⟩:=y
   rw [hw] at hQ
   have HQ2:=hid hQ
   have HW:=hid hw
   have hdj:=(IH.out t.a[j] wr A mj' K nq dj nj hw (HGA.out j hlt) (O.out.get j hlt) (Zt2 (ZtY hb) _ _ gx)).1
   clear g0 hQ HQ hw
   obtain ⟨hd1,hd2⟩:=hdj
   go_wp2_with (go_at_call 130;refine (IH.out t.a[j] _ A mj' K nq dj nj HW.out (HGA.out j hlt) (O.out.get j hlt) (by exact Zt2 ar _ _ gx)).2.mono ?_;rintro e w2 ⟨rfl,hb2⟩;have hz2:=hb2.size;(try simp at hz2))
   all_goals
    go_roundg (gk - 1)
    case measure=>omega
    case rel=>exact ⟨j+1,max q dj,nj,om,by (first|(congr 1;omega)|go_num),by go_num,om,om,HQ2,ZtZ,om,(hb2.cell so).trans gs,(hb2.cell so).trans gs⟩
 have hjl:j=t.a.length:=om
 subst hjl
 have hQ:=HQ.out
 rw [List.drop_length] at hQ
 simp only [Zx,Option.some.injEq,Prod.mk.injEq] at hQ
 obtain ⟨rfl,rfl⟩:=hQ
 clear HQ HF
 go_wp2_with fail
 go_ret
 exact ⟨by first|rfl|exact Zf om,ZtZ⟩):p:=h
set_option maxRecDepth 100000
theorem Zkg (t:GT) (w:World) (A:Nat→Prop) (m:TA) (hk:t.k=3) (f:Nat) (hf:f≤4098) (ih:JI f) (K n1 D0 n':Int) (hF:Zx (fun n x=>wkT f x [] K n) t.a 0 n1=some (D0,n')) (hg:Zp false t) (ox:okT t) (hl:RT w A t m):
  Calls prog 130 #[TV t m] w fun e w'=>e=.returned (.int .i64 (D0))∧Below w.heap.size w w':=by
 obtain ⟨ma,mb,mc,md,me,mf,mg,mh,mi,mj,mk,ml⟩:=m
 obtain ⟨-, -, -, -, -, -, -,oal,oa⟩:=Ze.1 ox
 have IH:=hid ih
 have HL:=hid (Zo.1 hl).2.2.2.2
 have O:=hid oa
 have HGA:=hid (fun (j:Nat) (hj:j < t.a.length)=>YG hg om (List.getElem_mem hj))
 have HF:=hid hF
 have hk1:(t.k==1)=false:=by first|(simp [hk];done)|(simp;omega)
 have hk2:(t.k==2)=false:=by first|(simp [hk];done)|(simp;omega)
 have hk4:(t.k==4)=false:=by first|(simp [hk];done)|(simp;omega)
 have hk6:(t.k==6)=false:=by first|(simp [hk];done)|(simp;omega)
 have hk10:(t.k==10)=false:=by first|(simp [hk];done)|(simp;omega)
 have hk3:(t.k==3)=true:=by first|(simp [hk];done)|(simp;omega)
 clear ih hg ox hl oa hk hF
 go_enter func130,ntmps130
 go_wp2_with fail
 go_loopg [3,5] (t.a.length) (fun gk t3 t5 wr=>∃(j:Nat) (q nq:Int),gk+j=t.a.length∧t3=.int .i64 q∧t5=.int .i64 j∧0≤q∧q≤4096+(f:Int)∧Hid (Zx (fun n x=>wkT f x [] K n) (t.a.drop j) q nq=some (D0,n'))∧Below w.heap.size w wr∧w.heap.size < wr.heap.size∧wr.cell? ⟨w.heap.size,0,none⟩=some (.int .u8 t.k)∧wr.cell? ⟨w.heap.size,14,none⟩=some (.slice mk t.a.length ml))
 case atStart=>exact ⟨0,0,n1,om,rfl,rfl,om,om,HF,ZtZ,sm,gs,gs⟩
 case round=>
  exact Zxl
theorem Zkj (t:GT) (w:World) (A:Nat→Prop) (m:TA) (hk:t.k=9) (f:Nat) (hf:f≤4098) (ih:JI f) (K n1 D0 n':Int) (hF:Zx (fun n x=>wkT f x [] K n) t.a 0 n1=some (D0,n')) (hg:Zp false t) (ox:okT t) (hl:RT w A t m):
  Calls prog 130 #[TV t m] w fun e w'=>e=.returned (.int .i64 (D0))∧Below w.heap.size w w':=by
 obtain ⟨ma,mb,mc,md,me,mf,mg,mh,mi,mj,mk,ml⟩:=m
 obtain ⟨-, -, -, -, -, -, -,oal,oa⟩:=Ze.1 ox
 have IH:=hid ih
 have HL:=hid (Zo.1 hl).2.2.2.2
 have O:=hid oa
 have HGA:=hid (fun (j:Nat) (hj:j < t.a.length)=>YG hg om (List.getElem_mem hj))
 have HF:=hid hF
 have hk1:(t.k==1)=false:=by first|(simp [hk];done)|(simp;omega)
 have hk2:(t.k==2)=false:=by first|(simp [hk];done)|(simp;omega)
 have hk4:(t.k==4)=false:=by first|(simp [hk];done)|(simp;omega)
 have hk6:(t.k==6)=false:=by first|(simp [hk];done)|(simp;omega)
 have hk10:(t.k==10)=false:=by first|(simp [hk];done)|(simp;omega)
 have hk3:(t.k==3)=false:=by first|(simp [hk];done)|(simp;omega)
 have hk9:(t.k==9)=true:=by first|(simp [hk];done)|(simp;omega)
 clear ih hg ox hl oa hk hF
 go_enter func130,ntmps130
 go_wp2_with fail
 go_loopg [3,5] (t.a.length) (fun gk t3 t5 wr=>∃(j:Nat) (q nq:Int),gk+j=t.a.length∧t3=.int .i64 q∧t5=.int .i64 j∧0≤q∧q≤4096+(f:Int)∧Hid (Zx (fun n x=>wkT f x [] K n) (t.a.drop j) q nq=some (D0,n'))∧Below w.heap.size w wr∧w.heap.size < wr.heap.size∧wr.cell? ⟨w.heap.size,0,none⟩=some (.int .u8 t.k)∧wr.cell? ⟨w.heap.size,14,none⟩=some (.slice mk t.a.length ml))
 case atStart=>exact ⟨0,0,n1,om,rfl,rfl,om,om,HF,ZtZ,sm,gs,gs⟩
 case round=>
  exact Zxl
theorem Zki (t:GT) (w:World) (A:Nat→Prop) (m:TA) (hk:t.k=6) (hh:¬t.hi=0) (f:Nat) (hf:f≤4098) (ih:JI f) (K n1 D0 n':Int) (hF:Zx (fun n x=>wkT f x [] K n) t.a 0 n1=some (D0,n')) (hg:Zp false t) (ox:okT t) (hl:RT w A t m):
  Calls prog 130 #[TV t m] w fun e w'=>e=.returned (.int .i64 (D0+1))∧Below w.heap.size w w':=by
 obtain ⟨ma,mb,mc,md,me,mf,mg,mh,mi,mj,mk,ml⟩:=m
 obtain ⟨-, -, -, -, -, -, -,oal,oa⟩:=Ze.1 ox
 have IH:=hid ih
 have HL:=hid (Zo.1 hl).2.2.2.2
 have O:=hid oa
 have HGA:=hid (fun (j:Nat) (hj:j < t.a.length)=>YG hg om (List.getElem_mem hj))
 have HF:=hid hF
 have hk1:(t.k==1)=false:=by first|(simp [hk];done)|(simp;omega)
 have hk2:(t.k==2)=false:=by first|(simp [hk];done)|(simp;omega)
 have hk4:(t.k==4)=false:=by first|(simp [hk];done)|(simp;omega)
 have hk6:(t.k==6)=true:=by first|(simp [hk];done)|(simp;omega)
 have hk3:(t.k==3)=false:=by first|(simp [hk];done)|(simp;omega)
 have hk9:(t.k==9)=false:=by first|(simp [hk];done)|(simp;omega)
 have hh0:(t.hi==0)=false:=by simp [hh]
 clear ih hg ox hl oa hk hF
 go_enter func130,ntmps130
 go_wp2_with fail
 go_loopg [3,5] (t.a.length) (fun gk t3 t5 wr=>∃(j:Nat) (q nq:Int),gk+j=t.a.length∧t3=.int .i64 q∧t5=.int .i64 j∧0≤q∧q≤4096+(f:Int)∧Hid (Zx (fun n x=>wkT f x [] K n) (t.a.drop j) q nq=some (D0,n'))∧Below w.heap.size w wr∧w.heap.size < wr.heap.size∧wr.cell? ⟨w.heap.size,0,none⟩=some (.int .u8 t.k)∧wr.cell? ⟨w.heap.size,14,none⟩=some (.slice mk t.a.length ml))
 case atStart=>exact ⟨0,0,n1,om,rfl,rfl,om,om,HF,ZtZ,sm,gs,gs⟩
 case round=>
  exact Zxl
theorem Zkk (t:GT) (w:World) (A:Nat→Prop) (m:TA) (hk:t.k=5∨t.k=7∨t.k=8) (f:Nat) (hf:f≤4098) (ih:JI f) (K n1 D0 n':Int) (hF:Zx (fun n x=>wkT f x [] K n) t.a 0 n1=some (D0,n')) (hg:Zp false t) (ox:okT t) (hl:RT w A t m):
  Calls prog 130 #[TV t m] w fun e w'=>e=.returned (.int .i64 (D0+1))∧Below w.heap.size w w':=by
 obtain ⟨ma,mb,mc,md,me,mf,mg,mh,mi,mj,mk,ml⟩:=m
 obtain ⟨-, -, -, -, -, -, -,oal,oa⟩:=Ze.1 ox
 have IH:=hid ih
 have HL:=hid (Zo.1 hl).2.2.2.2
 have O:=hid oa
 have HGA:=hid (fun (j:Nat) (hj:j < t.a.length)=>YG hg om (List.getElem_mem hj))
 have HF:=hid hF
 have hk1:(t.k==1)=false:=by first|(simp [hk];done)|(simp;omega)
 have hk2:(t.k==2)=false:=by first|(simp [hk];done)|(simp;omega)
 have hk4:(t.k==4)=false:=by first|(simp [hk];done)|(simp;omega)
 have hk6:(t.k==6)=false:=by first|(simp [hk];done)|(simp;omega)
 have hk10:(t.k==10)=false:=by first|(simp [hk];done)|(simp;omega)
 have hk3:(t.k==3)=false:=by first|(simp [hk];done)|(simp;omega)
 have hk9:(t.k==9)=false:=by first|(simp [hk];done)|(simp;omega)
 clear ih hg ox hl oa hk hF
 go_enter func130,ntmps130
 go_wp2_with fail
 go_loopg [3,5] (t.a.length) (fun gk t3 t5 wr=>∃(j:Nat) (q nq:Int),gk+j=t.a.length∧t3=.int .i64 q∧t5=.int .i64 j∧0≤q∧q≤4096+(f:Int)∧Hid (Zx (fun n x=>wkT f x [] K n) (t.a.drop j) q nq=some (D0,n'))∧Below w.heap.size w wr∧w.heap.size < wr.heap.size∧wr.cell? ⟨w.heap.size,0,none⟩=some (.int .u8 t.k)∧wr.cell? ⟨w.heap.size,14,none⟩=some (.slice mk t.a.length ml))
 case atStart=>exact ⟨0,0,n1,om,rfl,rfl,om,om,HF,ZtZ,sm,gs,gs⟩
 case round=>
  exact Zxl
end Go.Proofs.YtkdffbdnjfgpeaaGreat
