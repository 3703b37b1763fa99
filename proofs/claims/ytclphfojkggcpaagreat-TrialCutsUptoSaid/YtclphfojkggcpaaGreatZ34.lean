/- What the proofs of the Trial statements need: part 35. -/
import Derived.Deep.RegionHeld3
import Derived.IntWalk
import Derived.Maps.AppendAt
import Derived.Test.YtclphfojkggcpaaGreatZ2
import Derived.Test.YtclphfojkggcpaaGreatZ20
import Derived.Test.YtclphfojkggcpaaGreatZ23
import Derived.Test.YtclphfojkggcpaaGreatZ27
import Derived.Test.YtclphfojkggcpaaGreatZ32
import Derived.Test.YtclphfojkggcpaaGreatZ33
import Derived.Test.YtclphfojkggcpaaGreatZ46
import Derived.Test.YtclphfojkggcpaaGreatZ47
import Derived.Test.YtclphfojkggcpaaGreatZ49
import Derived.Test.YtclphfojkggcpaaGreatZ50
import Derived.Test.YtclphfojkggcpaaGreatZ51
set_option linter.unusedVariables false
set_option linter.unusedSimpArgs false
namespace Go.Proofs.YtclphfojkggcpaaGreat
open Go.Lib (hid)
open Go Go.RowKit
mutual
theorem may_size:∀(p:GP) (pl d:Int),(chkP pl d p).2=0→sizeP p≤2*nodesP p
 | ⟨k,v,n,l⟩,pl,d,h=>by
  simp only [chkP] at h
  split at h
  ·simp at h
  ·split at h
   ·rename_i h1;exact absurd h h1
   ·rename_i h1
    have hl:=may_sizes l _ _ h
    have h2:nodeP ⟨k,v,n,l⟩=0:=by simpa using h1
    simp only [sizeP,nodesP]
    unfold nodeP at h2
    split at h2
    ·simp at h2
    ·split at h2
     ·rename_i h3
      rw [if_pos h3];omega
     ·rename_i h3
      split at h2
      ·rename_i h4
       have h5:sizeV v=1:=by
        obtain ⟨vk,vn,vl⟩:=v
        simp [noneV] at h4
        obtain ⟨-,h6⟩:=h4
        simp [h6,sizeV,sizeVs]
       rw [if_neg h3];omega
      ·simp at h2
theorem may_sizes:∀(l:List GP) (pl d:Int),(chkPs pl d l).2=0→sizePs l≤2*nodesPs l
 | [],_,_,_=>by simp [sizePs]
 | x::l,pl,d,h=>by
  simp only [chkPs] at h
  split at h
  ·rename_i h1;exact absurd h h1
  ·rename_i h1
   have hx:=may_size x pl d (by simpa using h1)
   have hl:=may_sizes l _ _ h
   simp only [sizePs,nodesPs];omega
end
theorem may_small {p:GP} (h:mayP p=true):sizeP p≤1024:=by
 unfold mayP checkPE at h
 split at h
 ·rename_i h1;exact absurd (by simpa using h) h1
 ·rename_i h1
  split at h
  ·simp at h
  ·have:=may_size p 0 1 (by simpa using h1);omega
theorem r17Holds_at (p:GP) (v:GV) (b:Bool) (hb:holdsP p v=b) (A A2:Nat→Prop) (mp:PA) (m:VA) (w:World) (ox:okP p) (hs:sizeP p≤1099511627776) (hr:RP w A p mp) (ov:okV v) (hv2:RV w A2 v m.a) (hmay:mayP p=true):
  Calls Tryz.prog 21 #[PV p mp,VV v m] w fun e w'=>e=.returned (.bool b)∧Below w.heap.size w w':=by
 subst hb
 exact r17Holds_any p v w A A2 mp m ox hs hr ov hv2 hmay
structure F22 (c b o:Nat) (t:GT) (mg mi:Option Addr) (mh mj mk':Nat) (B:Nat) (W:World):Prop where
 p0:W.cell? ⟨B,8,none⟩=some (.int .u8 t.p.k)
 p1:W.cell? ⟨B,9,none⟩=some (.int .u8 t.p.v.k)
 p2:W.cell? ⟨B,10,none⟩=some (.int .i64 t.p.v.n)
 p3:W.cell? ⟨B,11,none⟩=some (.slice mg t.p.v.l.length mh)
 p4:W.cell? ⟨B,12,none⟩=some (.int .i64 t.p.n)
 p5:W.cell? ⟨B,13,none⟩=some (.slice mi t.p.a.length mj)
 p6:W.cell? ⟨B,14,none⟩=some (.slice (some ⟨b,o,none⟩) t.a.length mk')
 z:ZRes W (B+1)
theorem F22.but {c b o:Nat} {t:GT} {mg mi:Option Addr} {mh mj mk' B N:Nat} {w w':World} (h:F22 c b o t mg mi mh mj mk' B w) (hb:But c N w w') (h1:B+1 < N) (h2:c < B):F22 c b o t mg mi mh mj mk' B w':=by
 obtain ⟨a1,a2,a3,a4,a5,a6,a7,a8⟩:=h
 have k0:B < N:=by omega
 have n0:B≠c:=by omega
 exact ⟨(hb.cell k0 n0).trans a1,(hb.cell k0 n0).trans a2,(hb.cell k0 n0).trans a3,(hb.cell k0 n0).trans a4,(hb.cell k0 n0).trans a5,(hb.cell k0 n0).trans a6,(hb.cell k0 n0).trans a7,a8.but hb h1 (by omega)⟩
set_option maxRecDepth 100000 in
set_option maxHeartbeats 8000000 in
theorem s22_9 (c:Nat) (s:ByteArray) (f:Nat) (ih:SamIH22 c s f) (t:GT) (i:Nat) (w:World) (m:TA) (hk:t.k=9) (hn:nodeT t=0) (hx:∀x∈t.a,goodT false x∧okT x∧∃k n,wkT f x [] k n≠none) (ox:okT t) (hi:i≤s.size) (hc:Cur w c s i false) (hl:RT w (fun b=>b≠c) t m):
  Calls Tryz.prog 53 #[.pointer (some ⟨c,0,none⟩),TV t m] w (Sam22 c s (sampT s (f+1) t [] i) w):=by
 rw [sampT_9 s f t [] i hk]
 obtain ⟨ma,mb,mc,md,me,mf,mg,mh,mi,mj,mk,ml⟩:=m
 obtain ⟨hal,hmay⟩:=node_filter hn hk
 have h0l:0 < t.a.length:=by omega
 have halI:(0:Int) < (t.a.length:Int):=by omega
 have hG:(fun j=>atD (fun x=>sampT s f x []) t.a 0 j)=fun j=>sampT s f t.a[0] [] j:=by
  funext j;unfold atD;rw [List.getElem?_eq_getElem h0l]
 rw [hG]
 have hm0:=List.getElem_mem h0l
 have hsp:sizeP t.p≤1099511627776:=by have:=may_small hmay;omega
 obtain ⟨-, -, -, -, -, -,op, -, -⟩:=okT_iff.1 ox
 obtain ⟨hgx,hox,hwx⟩:=hx _ hm0
 have IH:=hid ih
 have HX:=hid (And.intro hgx (And.intro hox hwx))
 have HIN:=hid (fun q hq=>sampT_in s (sizeT t.a[0]) f t.a[0] [] q hgx hox (Nat.le_refl _) trivial hq)
 have HMAY:=hid hmay
 have OP:=hid op
 have H4:=hid (RT_iff.1 hl).2.2.2.1
 have HC:=hid hc
 have hcs:c < w.heap.size:=World.block_lt_of_cell? _ _ hc.1.1
 obtain ⟨b,o,mj',hja,hA,hbs,g0,gx⟩:=(RT_iff.1 hl).2.2.2.2.get 0 h0l
 dsimp only at hja
 subst hja
 have G0:=hid (show At w b o _ by simpa using g0)
 have GX:=hid gx
 have hbc:b≠c:=hA
 have hk1:(t.k==1)=false:=by simp [hk]
 have hk2:(t.k==2)=false:=by simp [hk]
 have hk3:(t.k==3)=false:=by simp [hk]
 have hk4:(t.k==4)=false:=by simp [hk]
 have hk5:(t.k==5)=false:=by simp [hk]
 have hk6:(t.k==6)=false:=by simp [hk]
 have hk7:(t.k==7)=false:=by simp [hk]
 have hk8:(t.k==8)=false:=by simp [hk]
 have hk9:(t.k==9)=true:=by simp [hk]
 generalize hR0:filtD (fun j=>sampT s f t.a[0] [] j) t.p (s.size+1 - i) i=R at *
 have HR0:=hid hR0
 clear hx ox hl hc hn ih hG hm0 hgx hox hwx g0 gx hal hmay hR0 op hk
 go_enter Tryz.func53,Tryz.ntmps53
 go_wp2_with fail
 go_loopg [] (s.size - i) (fun gk wr=>∃(p fu:Nat),gk+p=s.size∧But c w.heap.size w wr∧w.heap.size+1 < wr.heap.size∧s.size+1≤fu+p∧Hid (F22 c b o t mg mi mh mj ml w.heap.size wr)∧Hid (Cur wr c s p false)∧Hid (filtD (fun j=>sampT s f t.a[0] [] j) t.p fu p=R))
 case atStart=>exact ⟨i,s.size+1 - i,by omega,But.r,by simp,by omega,hid ⟨by go_simp,by go_simp,by go_simp,by go_simp,by go_simp,by go_simp,by go_simp,⟨by go_simp,by go_simp,by go_simp⟩,by go_simp,by go_simp,by go_simp⟩,hid (Cur.below (B:=w.heap.size) Below.r hcs HC.out),HR0⟩
 case round=>
  obtain ⟨p,fu,hp,hbt,hz,hfu,HF,HCU,HP⟩:=hrel
  have hpi:p≤s.size:=by omega
  obtain ⟨fu',rfl⟩:∃fu',fu=fu'+1:=⟨fu - 1,by omega⟩
  have hst:=HP.out
  rw [filtD_round] at hst
  have hinj:=HIN.out p hpi
  have hcr:c < wr.heap.size:=by omega
  have hbr:b < wr.heap.size:=by omega
  obtain ⟨p0,p1,p2,p3,p4,p5,p6, -⟩:=HF.out
  obtain ⟨⟨e0,e1,e2⟩,e3,e4,e5⟩:=HCU.out
  obtain ⟨z0,z1,z2,z3,z4,z5,z6,z7,z8,z9,za,zb,zc,zd,ze⟩:=At15.1 (At.ext (Agree.but hbt) hA _ _ G0.out)
  have y0:w.heap.size < wr.heap.size:=by omega
  have y2:¬w.heap.size+1=c:=by omega
  have y3:¬w.heap.size=c:=by omega
  rcases hW:sampT s f t.a[0] [] p with ⟨v,q⟩|⟨k⟩
  ·rw [hW] at hst hinj
   obtain ⟨hpq,hqs,hokv⟩:=hinj
   have OKV:=hid hokv
   have HW:=hid hW
   dsimp only at hst
   clear hW hokv
   cases hHv:holdsP t.p v
   ·have HH:=hid hHv
    rw [hHv,if_neg (by simp)] at hst
    clear hHv
    by_cases hqp:q=p
    ·rw [if_pos hqp] at hst
     have hqp':((q:Int)==(p:Int))=true:=beq_iff_eq.2 (by omega)
     clear hqp
     have HST:=hid hst
     clear hst
     go_wp2_with (first
      | (go_at_call 53;refine (IH.out t.a[0] p _ mj' HX.out.1 HX.out.2.1 hpi HX.out.2.2 (by exact HCU.out) (by exact RT.ext (Agree.but But.r) _ _ GX.out)).mono ?_;rw [HW.out];rintro e w2 ⟨hb2,⟨m2,rfl,hrv⟩,hc2⟩;have HRV:=hid hrv;have HC2:=hid hc2;clear hrv hc2;have hz2:=hb2.size;have y1:w.heap.size+1 < w2.heap.size:=(by omega);have y7:w.heap.size < w2.heap.size:=(by omega);obtain ⟨p0',p1',p2',p3',p4',p5',p6',⟨q0,q1,q2⟩,f0,f1,f2⟩:=HF.out.but hb2 hz hcs;obtain ⟨⟨d0,d1,d2⟩,d3,d4,d5⟩:=HC2.out;have hc2s:c < w2.heap.size:=(by omega))
      | (go_at_call 21;refine (r17Holds_at t.p v false HH.out (fun b=>b≠c) (fun b=>wr.heap.size≤b) ⟨mg,mh,mi,mj⟩ m2 _ OP.out hsp (by exact RP.ext (Agree.but (show But c w.heap.size w _ from But.r)) _ _ H4.out) OKV.out (by exact RV.ext (Agree.below (show Below w2.heap.size w2 _ from Below.r)) _ _ HRV.out) HMAY.out).mono ?_;rintro e3 w4 ⟨rfl,hb4⟩;have hz4:=hb4.size;(try simp at hz4);have hb24:Below w2.heap.size w2 w4:=Below.r;have HC4:=hid (Cur.below hb24 hc2s HC2.out);obtain ⟨⟨j0,j1,j2⟩,j3,j4,j5⟩:=HC4.out;obtain ⟨hc4,hf4⟩:=bcells hb4;have y4:w.heap.size+1 < w4.heap.size:=(by omega)))
     refine bodyPost_ret (v:=(.tuple #[VV ⟨0,0,[]⟩ ⟨none,0⟩,.int .u8 3])) (by first|(simp [results,Tryz.f53,go_sem];done)|(simp [results,Tryz.f53,go_sem, *];done)) rfl ?_
     rw [←HST.out]
     exact ⟨But.r,rfl,by omega,by omega⟩
    ·have hqp2:p < q:=by omega
     rw [if_neg hqp] at hst
     have hqp':((q:Int)==(p:Int))=false:=beq_eq_false_iff_ne.2 (by omega)
     have HST:=hid hst
     clear hst hqp
     go_wp2_with (first
      | (go_at_call 53;refine (IH.out t.a[0] p _ mj' HX.out.1 HX.out.2.1 hpi HX.out.2.2 (by exact HCU.out) (by exact RT.ext (Agree.but But.r) _ _ GX.out)).mono ?_;rw [HW.out];rintro e w2 ⟨hb2,⟨m2,rfl,hrv⟩,hc2⟩;have HRV:=hid hrv;have HC2:=hid hc2;clear hrv hc2;have hz2:=hb2.size;have y1:w.heap.size+1 < w2.heap.size:=(by omega);have y7:w.heap.size < w2.heap.size:=(by omega);obtain ⟨p0',p1',p2',p3',p4',p5',p6',⟨q0,q1,q2⟩,f0,f1,f2⟩:=HF.out.but hb2 hz hcs;obtain ⟨⟨d0,d1,d2⟩,d3,d4,d5⟩:=HC2.out;have hc2s:c < w2.heap.size:=(by omega))
      | (go_at_call 21;refine (r17Holds_at t.p v false HH.out (fun b=>b≠c) (fun b=>wr.heap.size≤b) ⟨mg,mh,mi,mj⟩ m2 _ OP.out hsp (by exact RP.ext (Agree.but (show But c w.heap.size w _ from But.r)) _ _ H4.out) OKV.out (by exact RV.ext (Agree.below (show Below w2.heap.size w2 _ from Below.r)) _ _ HRV.out) HMAY.out).mono ?_;rintro e3 w4 ⟨rfl,hb4⟩;have hz4:=hb4.size;(try simp at hz4);have hb24:Below w2.heap.size w2 w4:=Below.r;have HC4:=hid (Cur.below hb24 hc2s HC2.out);obtain ⟨⟨j0,j1,j2⟩,j3,j4,j5⟩:=HC4.out;obtain ⟨hc4,hf4⟩:=bcells hb4;have y4:w.heap.size+1 < w4.heap.size:=(by omega)))
     have hbw4:But c w.heap.size w w4:=But.r
     have hbq4:But c wr.heap.size wr w4:=But.r
     go_roundg (s.size - q)
     case measure=>omega
     case rel=>exact ⟨q,fu',by omega,hbw4,by omega,by omega,hid (HF.out.but hbq4 (by omega) hcs),HC4,HST⟩
   ·have HH:=hid hHv
    rw [hHv,if_pos rfl] at hst
    have HST:=hid hst
    clear hst hHv
    go_wp2_with (first
     | (go_at_call 53;refine (IH.out t.a[0] p _ mj' HX.out.1 HX.out.2.1 hpi HX.out.2.2 (by exact HCU.out) (by exact RT.ext (Agree.but But.r) _ _ GX.out)).mono ?_;rw [HW.out];rintro e w2 ⟨hb2,⟨m2,rfl,hrv⟩,hc2⟩;have HRV:=hid hrv;have HC2:=hid hc2;clear hrv hc2;have hz2:=hb2.size;have y1:w.heap.size+1 < w2.heap.size:=(by omega);have y7:w.heap.size < w2.heap.size:=(by omega);obtain ⟨p0',p1',p2',p3',p4',p5',p6',⟨q0,q1,q2⟩,f0,f1,f2⟩:=HF.out.but hb2 hz hcs;obtain ⟨⟨d0,d1,d2⟩,d3,d4,d5⟩:=HC2.out;have hc2s:c < w2.heap.size:=(by omega))
     | (go_at_call 21;refine (r17Holds_at t.p v true HH.out (fun b=>b≠c) (fun b=>wr.heap.size≤b) ⟨mg,mh,mi,mj⟩ m2 _ OP.out hsp (by exact RP.ext (Agree.but (show But c w.heap.size w _ from But.r)) _ _ H4.out) OKV.out (by exact RV.ext (Agree.below (show Below w2.heap.size w2 _ from Below.r)) _ _ HRV.out) HMAY.out).mono ?_;rintro e3 w4 ⟨rfl,hb4⟩;have hz4:=hb4.size;(try simp at hz4);have hb24:Below w2.heap.size w2 w4:=Below.r;have HC4:=hid (Cur.below hb24 hc2s HC2.out);obtain ⟨⟨j0,j1,j2⟩,j3,j4,j5⟩:=HC4.out;obtain ⟨hc4,hf4⟩:=bcells hb4;have y4:w.heap.size+1 < w4.heap.size:=(by omega)))
    refine bodyPost_ret (v:=(.tuple #[VV v m2,.int .u8 1])) (by first|(simp [results,Tryz.f53,go_sem];done)|(simp [results,Tryz.f53,go_sem, *];done)) rfl ?_
    rw [←HST.out]
    exact ⟨But.r,⟨m2,rfl,RV.mono (fun b hb _=>by omega) _ _ (RV.ext ((Agree.below hb24).trans (((Agree.set so).trans (Agree.set so)).trans (Agree.set so))) _ _ HRV.out)⟩,Cur.below (B:=w.heap.size+1) Below.r (by omega) HC4.out⟩
  ·rw [hW] at hst
   have HW:=hid hW
   dsimp only at hst
   have HST:=hid hst
   clear hW hst hinj
   go_wp2_with (go_at_call 53;refine (IH.out t.a[0] p _ mj' HX.out.1 HX.out.2.1 hpi HX.out.2.2 (by exact HCU.out) (by exact RT.ext (Agree.but But.r) _ _ GX.out)).mono ?_;rw [HW.out];rintro e w2 ⟨hb2,rfl,hk8,hk9⟩;have hz2:=hb2.size;have y1:w.heap.size+1 < w2.heap.size:=(by omega);have y7:w.heap.size < w2.heap.size:=(by omega);have hkb:(((k:Int)) != 1)=true:=(by simp;omega);obtain ⟨⟨q0,q1,q2⟩,f0,f1,f2⟩:=(HF.out.but hb2 hz hcs).z)
   refine bodyPost_ret (v:=(.tuple #[VV ⟨0,0,[]⟩ ⟨none,0⟩,.int .u8 k])) (by first|(simp [results,Tryz.f53,go_sem];done)|(simp [results,Tryz.f53,go_sem, *];done)) rfl ?_
   rw [←HST.out]
   exact ⟨But.r,rfl,hk8,hk9⟩
theorem sampler_any (c:Nat) (s:ByteArray) (S:Nat) (hS:S≤1099511627776) (hb:isBits s=true):∀f,SamIH c s S f:=by
 intro f
 induction f with
 | zero=>
  intro t e i w m a hg ox hs he hi hwk
  obtain ⟨k,n,hw⟩:=hwk
  exact absurd rfl hw
 | succ f ih=>
  intro t e i w m a hg ox hs he hi hwk hc hr hv
  have hk:=(node_ok (goodT_eq.1 hg).1).1
  rcases (by omega:t.k=1∨t.k=2∨t.k=3∨t.k=4∨t.k=5∨t.k=6∨t.k=7∨t.k=8∨t.k=9∨t.k=10∨t.k=11) with h|h|h|h|h|h|h|h|h|h|h
  ·exact sam_1 c s f t e i w m a hb hg ox h hc hr
  ·exact sam_2 c s f t e i w m a hb hg ox hi h hc hr
  ·exact sam_3 c s S f hS ih t e i w m a hb hg ox hs he hi hwk h hc hr hv
  ·exact sam_4 c s S f hS t e i w m a hb hg ox hi h hc hr
  ·exact sam_5 c s S f hS ih t e i w m a hb hg ox hs he hi hwk h hc hr hv
  ·exact sam_6 c s S f hS ih t e i w m a hb hg ox hs he hi (wk_args (by omega) hwk) h hc hr hv
  ·exact sam_7 c s S f hS ih t e i w m a hb hg ox hs he hi hwk h hc hr hv
  ·exact sam_8 c s S f hS ih t e i w m a hb hg ox hs he hi hwk h hc hr hv
  ·exact sam_9 c s S f hS ih t e i w m a hb hg ox hs he hi hwk h hc hr hv
  ·exact sam_10 c s S f hS ih t e i w m a hb hg ox hs he hi hwk h hc hr hv
  ·exact sam_11 c s S f hS ih t e i w m a hg he hi hwk h hc hv
theorem run_any (t:GT) (s:ByteArray) (w:World) (A:Nat→Prop) (m:TA) (ox:okT t) (hs:sizeT t≤1099511627776) (hl:RT w A t m) (hss:s.size≤9223372036854775807):
  Calls Tryz.prog 23 #[TV t m,.string s] w (RunR t s w):=
 run_of t s w A m (fun hb c=>sampler_any c s (sizeT t) hs hb 4098) ox hs hl hss
theorem run_ok (t:GT) (s:ByteArray) (w:World) (A:Nat→Prop) (m:TA) (ox:okT t) (hs:sizeT t≤1099511627776) (hl:RT w A t m) (hss:s.size≤9223372036854775807) (hE:runE t s=0) (v:GV) (j:Nat) (hr:runT s t=.ok v j):
  Calls Tryz.prog 23 #[TV t m,.string s] w fun e w'=>Below w.heap.size w w'∧∃m:VA,e=.returned (.tuple #[.agg #[.int .u8 1,.int .u8 v.k,.int .i64 v.n,.slice m.a v.l.length m.c,.int .i64 j],.int .i64 0])∧RV w' (fun b=>w.heap.size≤b) v m.a:=
 (run_any t s w A m ox hs hl hss).mono fun e w' h=>by
  obtain ⟨hb,h⟩:=h
  rw [hE,hr] at h
  unfold RunV at h
  rw [if_neg (by simp)] at h
  exact ⟨hb,h⟩
theorem run_no (t:GT) (s:ByteArray) (w:World) (A:Nat→Prop) (m:TA) (ox:okT t) (hs:sizeT t≤1099511627776) (hl:RT w A t m) (hss:s.size≤9223372036854775807) (hE:runE t s=0) (k:Nat) (hr:runT s t=.no k):
  Calls Tryz.prog 23 #[TV t m,.string s] w fun e w'=>Below w.heap.size w w'∧e=.returned (.tuple #[.agg #[.int .u8 k,.int .u8 0,.int .i64 0,.slice none 0 0,.int .i64 0],.int .i64 0]):=
 (run_any t s w A m ox hs hl hss).mono fun e w' h=>by
  obtain ⟨hb,h⟩:=h
  rw [hE,hr] at h
  unfold RunV at h
  rw [if_neg (by simp)] at h
  exact ⟨hb,h⟩
theorem run_err (t:GT) (s:ByteArray) (w:World) (A:Nat→Prop) (m:TA) (ox:okT t) (hs:sizeT t≤1099511627776) (hl:RT w A t m) (hss:s.size≤9223372036854775807):
  Calls Tryz.prog 23 #[TV t m,.string s] w fun e w'=>Below w.heap.size w w'∧∃(k:Int) (v:GV) (m:VA) (n:Int),e=.returned (.tuple #[.agg #[.int .u8 k,.int .u8 v.k,.int .i64 v.n,.slice m.a v.l.length m.c,.int .i64 n],.int .i64 (runE t s)]):=
 (run_any t s w A m ox hs hl hss).mono fun e w' h=>by
  obtain ⟨hb,h⟩:=h
  refine ⟨hb,?_⟩
  unfold RunV at h
  split at h
  ·exact ⟨0,zeroV,⟨none,0⟩,0,h⟩
  ·rename_i h0
   have h0:runE t s=0:=by simpa using h0
   rw [h0]
   split at h
   ·obtain ⟨m,h,_⟩:=h
    exact ⟨1,_,m,_,h⟩
   ·exact ⟨_,zeroV,⟨none,0⟩,0,h⟩
set_option maxRecDepth 100000 in
set_option maxHeartbeats 2000000 in
theorem trialWrong_any (t:GT) (p:GP) (s:ByteArray) (n:Int) (w:World) (A A2:Nat→Prop) (m:TA) (mp:PA) (ox:okT t) (hs:sizeT t≤1099511627776) (hl:RT w A t m) (op:okP p) (hp:sizeP p≤1099511627776) (hr:RP w A2 p mp) (hss:s.size≤9223372036854775807):
  Calls Tryz.prog 22 #[TV t m,PV p mp,.string s,.int .i64 n] w fun e w'=>e=.returned (.int .i64 (cutE t p s n))∧Below w.heap.size w w':=by
 obtain ⟨ma,mb,mc,md,me,mf,mg,mh,mi,mj,mk,ml⟩:=m
 obtain ⟨na,nb,nc,nd⟩:=mp
 have HL:=hid hl
 have HR:=hid hr
 have OX:=hid ox
 have OP:=hid op
 clear hl hr ox op
 have hF:cutE t p s n=if runE t s≠0 then runE t s else if (checkPE p).2≠0 then (checkPE p).2 else if n < 0∨1000 < n then 1 else 0:=rfl
 rw [hF]
 clear hF
 by_cases h1:runE t s=0
 case neg=>
  rw [if_pos h1]
  have h1':(runE t s != 0)=true:=by simp [h1]
  clear h1
  go_enter Tryz.func22,Tryz.ntmps22
  go_wp2_with (go_at_call 23;refine (run_err t s _ A ⟨ma,mb,mc,md,me,mf,mg,mh,mi,mj,mk,ml⟩ OX.out hs (by exact RT.ext (Agree.below Below.z) _ _ HL.out) hss).mono ?_;rintro e w1 ⟨hb1,k,v,m,n1,rfl⟩;have hz1:=hb1.size;(try simp at hz1))
  go_ret
  exact ⟨rfl,Below.z⟩
 have h1':(runE t s != 0)=false:=by simp [h1]
 rw [if_neg (by simp [h1])]
 clear h1
 by_cases h2:(checkPE p).2=0
 case neg=>
  rw [if_pos h2]
  have h2':((checkPE p).2 != 0)=true:=by simp [h2]
  clear h2
  go_enter Tryz.func22,Tryz.ntmps22
  go_wp2_with (first
   | (go_at_call 23;refine (run_err t s _ A ⟨ma,mb,mc,md,me,mf,mg,mh,mi,mj,mk,ml⟩ OX.out hs (by exact RT.ext (Agree.below Below.z) _ _ HL.out) hss).mono ?_;rintro e w1 ⟨hb1,k,v,m,n1,rfl⟩;have hz1:=hb1.size;(try simp at hz1);obtain ⟨hc1,hf1⟩:=bcells hb1;have y0:w.heap.size+1 < w1.heap.size:=(by omega))
   | (go_at_call 36;refine (checkP_any p _ A2 ⟨na,nb,nc,nd⟩ OP.out hp (by exact RP.ext (Agree.below Below.z) _ _ HR.out)).mono ?_;rintro e w2 ⟨rfl,hb2⟩))
  go_ret
  exact ⟨rfl,Below.z⟩
 have h2':((checkPE p).2 != 0)=false:=by simp [h2]
 rw [if_neg (by simp [h2])]
 clear h2
 generalize hF:(if n < 0∨1000 < n then (1:Int) else 0)=F
 have HF:=hid hF
 clear hF
 go_enter Tryz.func22,Tryz.ntmps22
 go_wp2_with (first
  | (go_at_call 23;refine (run_err t s _ A ⟨ma,mb,mc,md,me,mf,mg,mh,mi,mj,mk,ml⟩ OX.out hs (by exact RT.ext (Agree.below Below.z) _ _ HL.out) hss).mono ?_;rintro e w1 ⟨hb1,k,v,m,n1,rfl⟩;have hz1:=hb1.size;(try simp at hz1);obtain ⟨hc1,hf1⟩:=bcells hb1;have y0:w.heap.size+1 < w1.heap.size:=(by omega))
  | (go_at_call 36;refine (checkP_any p _ A2 ⟨na,nb,nc,nd⟩ OP.out hp (by exact RP.ext (Agree.below Below.z) _ _ HR.out)).mono ?_;rintro e w2 ⟨rfl,hb2⟩))
 all_goals go_ret
 all_goals refine ⟨ret_int ?_,Below.z⟩
 all_goals rw [←HF.out]
 all_goals (first|rfl|omega|((try simp only [beq_iff_eq,beq_eq_false_iff_ne,bne_iff_ne,bne_eq_false_iff_eq,decide_eq_true_eq,decide_eq_false_iff_not,ne_eq,Bool.and_eq_true,Bool.or_eq_true,Bool.and_eq_false_iff,Bool.or_eq_false_iff,Bool.not_eq_true',Bool.not_eq_false'] at *);(repeat' split)<;>first|rfl|omega|contradiction|(simp_all;done)|(simp_all;omega)))
def CutV (R:List GR×Int) (w:World) (e:Ending) (w':World):Prop:=∃a c,e=.returned (.tuple #[.slice a R.1.length c,.int .u8 R.2,.int .i64 0])∧RRs w' (fun b=>w.heap.size≤b) R.1 a
def CutC (R:List GR×Int) (w:World) (e:Ending) (w':World):Prop:=∃a c,e=.returned (.tuple #[.slice a R.1.length (R.1.length+c),.int .u8 R.2,.int .i64 0])∧RRs w' (fun b=>w.heap.size≤b) R.1 a
def CutX (R:List GR×Int) (w:World) (e:Ending) (w':World):Prop:=∃a c,e=.returned (.tuple #[.slice a R.1.length (R.1.length+c),.int .u8 R.2,.int .i64 0])∧RRx w' (fun b=>w.heap.size≤b) R.1 a
set_option maxRecDepth 100000 in
set_option maxHeartbeats 2000000 in
theorem cut_err (t:GT) (p:GP) (s:ByteArray) (n:Int) (w:World) (A A2:Nat→Prop) (m:TA) (mp:PA) (ox:okT t) (hs:sizeT t≤1099511627776) (hl:RT w A t m) (op:okP p) (hp:sizeP p≤1099511627776) (hr:RP w A2 p mp) (hss:s.size≤9223372036854775807) (hE:cutE t p s n≠0):
  Calls Tryz.prog 7 #[TV t m,PV p mp,.string s,.int .i64 n] w fun e w'=>e=.returned (.tuple #[.slice none 0 0,.int .u8 0,.int .i64 (cutE t p s n)])∧Below w.heap.size w w':=by
 obtain ⟨ma,mb,mc,md,me,mf,mg,mh,mi,mj,mk,ml⟩:=m
 obtain ⟨na,nb,nc,nd⟩:=mp
 have HL:=hid hl
 have HR:=hid hr
 have OX:=hid ox
 have OP:=hid op
 have h1:(cutE t p s n != 0)=true:=by simp [hE]
 clear hl hr ox op hE
 go_enter Tryz.func7,Tryz.ntmps7
 go_wp2_with (go_at_call 22;refine (trialWrong_any t p s n _ A A2 ⟨ma,mb,mc,md,me,mf,mg,mh,mi,mj,mk,ml⟩ ⟨na,nb,nc,nd⟩ OX.out hs (by exact RT.ext (Agree.below Below.z) _ _ HL.out) OP.out hp (by exact RP.ext (Agree.below Below.z) _ _ HR.out) hss).mono ?_;rintro e w1 ⟨rfl,hb1⟩)
 refine bodyPost_ret (v:=.tuple #[.slice none 0 0,.int .u8 0,.int .i64 (cutE t p s n)]) (by simp [results,Tryz.f7,go_sem]) rfl ?_
 exact ⟨rfl,Below.r⟩
theorem cells_at5 {W:World} {n:Nat} (hn:W.heap.size=n) (a b c d e:Value) (t:TypeId):∀j u,[a,b,c,d,e][j]? =some u→(W.alloc (.cells #[a,b,c,d,e] t)).cell? ((⟨n,0,none⟩:Addr).add j)=some u:=by
 subst hn
 exact fun j u hu=>World.news_of_block (heap_alloc_new W _) j u (by simpa using hu)
theorem agree_set5 {W:World} {n:Nat} (v0 v1 v2 v3 v4:Value) (o:Obj):Agree (fun b=>n+1≤b) W ((((((W.setCell ⟨n,0,none⟩ v0).setCell ⟨n,1,none⟩ v1).setCell ⟨n,2,none⟩ v2).setCell ⟨n,3,none⟩ v3).setCell ⟨n,4,none⟩ v4).alloc o):=
 (((((Agree.set (p:=⟨n,0,none⟩) (fun h=>absurd h (Nat.not_succ_le_self n))).trans (Agree.set (p:=⟨n,1,none⟩) (fun h=>absurd h (Nat.not_succ_le_self n)))).trans (Agree.set (p:=⟨n,2,none⟩) (fun h=>absurd h (Nat.not_succ_le_self n)))).trans (Agree.set (p:=⟨n,3,none⟩) (fun h=>absurd h (Nat.not_succ_le_self n)))).trans (Agree.set (p:=⟨n,4,none⟩) (fun h=>absurd h (Nat.not_succ_le_self n)))).trans (Agree.below (Below.alloc (Below.refl _ _) (Nat.le_refl _) _))
theorem trialWrong_zero (t:GT) (p:GP) (s:ByteArray) (n:Int) (w:World) (A A2:Nat→Prop) (m:TA) (mp:PA) (ox:okT t) (hs:sizeT t≤1099511627776) (hl:RT w A t m) (op:okP p) (hp:sizeP p≤1099511627776) (hr:RP w A2 p mp) (hss:s.size≤9223372036854775807) (hE:cutE t p s n=0):
  Calls Tryz.prog 22 #[TV t m,PV p mp,.string s,.int .i64 n] w fun e w'=>e=.returned (.int .i64 0)∧Below w.heap.size w w':=by
 rw [←hE]
 exact trialWrong_any t p s n w A A2 m mp ox hs hl op hp hr hss
set_option maxRecDepth 100000 in
set_option maxHeartbeats 16000000 in
theorem cut_okx (t:GT) (p:GP) (s:ByteArray) (N:Nat) (w:World) (A A2:Nat→Prop) (m:TA) (mp:PA) (ox:okT t) (hs:sizeT t≤1099511627776) (hl:RT w A t m) (op:okP p) (hp:sizeP p≤1099511627776) (hr:RP w A2 p mp) (hE:cutE t p s N=0):
  Calls Tryz.prog 7 #[TV t m,PV p mp,.string s,.int .i64 N] w fun e w'=>Below w.heap.size w w'∧CutX (cutT s t p N 0) w e w':=by
 obtain ⟨ma,mb,mc,md,me,mf,mg,mh,mi,mj,mk,ml⟩:=m
 obtain ⟨na,nb,nc,nd⟩:=mp
 have HL:=hid hl
 have HR:=hid hr
 have OX:=hid ox
 have OP:=hid op
 have HCE:=hid hE
 obtain ⟨hRE,hPE,hN⟩:runE t s=0∧(checkPE p).2=0∧N≤1000:=by
  unfold cutE at hE
  split at hE
  ·omega
  ·split at hE
   ·omega
   ·split at hE
    ·omega
    ·refine ⟨by omega,by omega,by omega⟩
 have hmay:mayP p=true:=by unfold mayP;simp [hPE]
 have hbits:isBits s=true:=by
  unfold runE at hRE
  split at hRE
  ·omega
  ·split at hRE
   ·assumption
   ·omega
 have h1024:s.size≤1024:=by
  unfold isBits at hbits
  rw [Bool.and_eq_true] at hbits
  exact of_decide_eq_true hbits.1
 have HMAY:=hid hmay
 have HRE:=hid hRE
 have hss:s.size≤9223372036854775807:=by omega
 obtain ⟨i0,hi0,y0,y1,y2⟩:=info_parts infoTr
 generalize hR0:cutT s t p N 0=R
 have HR0:=hid hR0
 clear hl hr ox op hE hRE hPE hmay hbits hR0
 go_enter Tryz.func7,Tryz.ntmps7
 go_wp2_with (go_at_call 22;refine (trialWrong_zero t p s N _ A A2 ⟨ma,mb,mc,md,me,mf,mg,mh,mi,mj,mk,ml⟩ ⟨na,nb,nc,nd⟩ OX.out hs (by exact RT.ext (Agree.below Below.z) _ _ HL.out) OP.out hp (by exact RP.ext (Agree.below Below.z) _ _ HR.out) hss HCE.out).mono ?_;rintro e w1 ⟨rfl,hb1⟩)
 have hz1:=hb1.size
 simp at hz1
 have hbw1:Below w.heap.size w w1:=Below.r
 have HBT:Hid (At w1 w.heap.size 0 [.int .u8 t.k,.int .u8 t.v.k,.int .i64 t.v.n,.slice ma t.v.l.length mb,.slice mc t.vs.length md,.int .i64 t.lo,.int .i64 t.hi,.slice me t.w.length mf,.int .u8 t.p.k,.int .u8 t.p.v.k,.int .i64 t.p.v.n,.slice mg t.p.v.l.length mh,.int .i64 t.p.n,.slice mi t.p.a.length mj,.slice mk t.a.length ml]):=hid (At15z.2 ⟨(hb1.cell so).trans (by go_simp),(hb1.cell so).trans (by go_simp),(hb1.cell so).trans (by go_simp),(hb1.cell so).trans (by go_simp),(hb1.cell so).trans (by go_simp),(hb1.cell so).trans (by go_simp),(hb1.cell so).trans (by go_simp),(hb1.cell so).trans (by go_simp),(hb1.cell so).trans (by go_simp),(hb1.cell so).trans (by go_simp),(hb1.cell so).trans (by go_simp),(hb1.cell so).trans (by go_simp),(hb1.cell so).trans (by go_simp),(hb1.cell so).trans (by go_simp),(hb1.cell so).trans (by go_simp)⟩)
 have HBP:Hid (At w1 (w.heap.size+1) 0 [.int .u8 p.k,.int .u8 p.v.k,.int .i64 p.v.n,.slice na p.v.l.length nb,.int .i64 p.n,.slice nc p.a.length nd]):=hid (At6z.2 ⟨(hb1.cell so).trans (by go_simp),(hb1.cell so).trans (by go_simp),(hb1.cell so).trans (by go_simp),(hb1.cell so).trans (by go_simp),(hb1.cell so).trans (by go_simp),(hb1.cell so).trans (by go_simp)⟩)
 go_loopg [8,12,24] N (fun gk t8 t12 t24 wr=>∃(j i:Nat) (ps:List (GR×VA)) (v:Value),v=t8∧gk+j=N∧t24=.int .i64 j∧t12=.int .i64 i∧i≤s.size∧Below w1.heap.size w1 wr∧Hid (ps.length=j)∧Hid ((ps.map Prod.fst++(cutT s t p (N - j) i).1,(cutT s t p (N - j) i).2)=R) ∧
  Hid (wr.ownsRow w1.heap.size 60 5 v j (flatR ps))∧Hid (∀q∈ps,RV wr (Own w1.heap.size (fun _=>False) v) q.1.v q.2.a))
 case atStart=>exact ⟨0,0,[],_,rfl,by omega,rfl,rfl,by omega,Below.refl _ _,hid rfl,hid (by simpa using HR0.out),hid (World.ownsRow_nil _ _ _ _),hid (fun q hq=>by simp at hq)⟩
 case round=>
  obtain ⟨j,i,ps,v,rfl,hj,rfl,rfl,hi,hbr,HPL,HP,HO,HQ⟩:=hrel
  have hzr:=hbr.size
  have hbw:Below w.heap.size w wr:=hbw1.trans (hbr.mono (by omega))
  by_cases hlt:j < N
  ·have hst:=HP.out
   rw [show N - j=(N - (j+1))+1 by omega,cutT_step] at hst
   have hre:=runE_sub HRE.out i hi
   have hin:=runT_in (s:=subS s i) hre OX.out
   have hsz:=subS_size s i hi
   have HRS:=hid hre
   have hs9:(subS s i).size≤9223372036854775807:=by omega
   have hiI:(i:Int)≤(s.size:Int):=by omega
   have QT:=hid (RT.ext (Agree.below hbw) _ _ HL.out)
   have HOK:=hid (show ∀k,v.ownBlock=some k→k < wr.heap.size from fun k hk=>(HO.out.lt _ hk).2)
   have hownk:∀k,v.ownBlock=some k→w1.heap.size≤k:=fun k hk=>(HO.out.lt _ hk).1
   have HOWN:=hid hownk
   obtain ⟨c0,c1,c2,c3,c4,c5,c6,c7,c8,c9,ca,cb,cc,cd,ce⟩:=At15z.1 (At.ext (Agree.below hbr) (A:=fun _=>True) trivial _ _ HBT.out)
   have u0:w.heap.size < wr.heap.size:=by omega
   have u1:w.heap.size+1 < wr.heap.size:=by omega
   clear hre hownk
   rcases hW:runT (subS s i) t with ⟨x,u⟩|⟨k⟩
   ·rw [hW] at hst hin
    obtain ⟨_,hu,hokx⟩:=hin
    have hu2:i+u≤s.size:=by omega
    have OKX:=hid hokx
    have HW:=hid hW
    have wiu:IntKind.i64.wrap ((i:Int)+(u:Int))=(i:Int)+(u:Int):=IntWalk.i64_in _ (by omega)
    clear hW hokx hsz hu
    dsimp only at hst
    cases hHv:holdsP p x
    ·have HH:=hid (show (mayP p&&holdsP p x)=false by rw [hHv];simp)
     rw [hHv,if_neg (by simp)] at hst
     have HST:=hid hst
     clear hst hHv
     go_wp2_with fail
     go_region_held3 (fun W=>∀k,W.cell? ⟨w.heap.size,k,none⟩=wr.cell? ⟨w.heap.size,k,none⟩) ((intro k;refine Below.cell (B:=wr.heap.size) (w:=wr) (p:=⟨w.heap.size,k,none⟩) ?_ u0;((repeat (first|with_reducible exact Below.refl _ _|with_reducible assumption|with_reducible refine Below.trans ?_ (Below.mono (by with_reducible assumption) (by first|omega|(simp;done)|(simp;omega)))|with_reducible refine Below.drew ?_|with_reducible refine Below.alloc ?_ (by first|omega|(simp;done)|(simp;omega)) _|with_reducible refine Below.setCell ?_ (by first|omega|(simp;done)|(simp;omega)) _));done))) ((go_at_call 23;refine (run_ok t (subS s i) _ A ⟨ma,mb,mc,md,me,mf,mg,mh,mi,mj,mk,ml⟩ OX.out hs (by exact RT.ext (A:=A) (Agree.below Below.r) _ _ QT.out) hs9 HRS.out x u HW.out).mono ?_;rintro e w2 ⟨hb2,mv,rfl,hrv⟩;have HRV:=hid hrv;clear hrv;have hz2:=hb2.size;(try simp at hz2);have hbr2:Below wr.heap.size wr w2:=Below.r;have v0:w.heap.size < w2.heap.size:=(by omega);have v1:w.heap.size+1 < w2.heap.size:=(by omega);have v2:wr.heap.size≤w2.heap.size:=(by omega);(try (have y5':wr.heap.size < w2.heap.size:=(by omega);have q0:w2.cell? ⟨wr.heap.size,0,none⟩=some (.int .u8 0):=(hb2.cell (by simp)).trans (by go_simp);have q1:w2.cell? ⟨wr.heap.size,1,none⟩=some (.int .u8 0):=(hb2.cell (by simp)).trans (by go_simp);have q2:w2.cell? ⟨wr.heap.size,2,none⟩=some (.int .i64 0):=(hb2.cell (by simp)).trans (by go_simp);have q3:w2.cell? ⟨wr.heap.size,3,none⟩=some (.slice none 0 0):=(hb2.cell (by simp)).trans (by go_simp);have q4:w2.cell? ⟨wr.heap.size,4,none⟩=some (.int .i64 0):=(hb2.cell (by simp)).trans (by go_simp);have qf:∀k,w2.frozen? ⟨wr.heap.size,k,none⟩=false:=fun k=>(hb2.frozen (by simp)).trans (by go_simp)))))
     ·go_wp2_with (first|(at_builtin;refine wpList_append_lies _ rfl _ _ 38 rfl w1.heap.size 60 i0 _ 5 56 Tryz.underlying38 hi0 y0 y1 y2 rfl (by decide) _ j _ (by rfl) ((owns_below HO.out (B:=wr.heap.size) (by exact Below.r) HOK.out).alloc _) ⟨w2.heap.size+1,0,none⟩ 1 1 [.int .i64 i,.int .i64 (i+u),.int .u8 x.k,.int .i64 x.n,.slice mv.a x.l.length mv.c] (by rfl) rfl (cells_at5 (by simp) _ _ _ _ _ _) (by simp [Value.oneCell']) (by decide) (by unfold maxLen;omega) (by omega) (by simp;omega) (w2.heap.size+1+1) (by simp) ?_;intro g cap w4 hown hgrow hat hlt1;have hbg:Below w1.heap.size w1 w4:=Below.grown (by exact Below.r) hgrow (by simp;omega) HOWN.out;have hag:Agree (fun b=>b=w2.heap.size) _ w4:=Agree.grown hgrow (fun b hb e=>(by have h8:b=w2.heap.size:=hb;have h9:=HOK.out _ e.symm;omega));have x0:w4.cell? ⟨w2.heap.size,0,none⟩=some (.int .u8 1):=(hag ⟨w2.heap.size,0,none⟩ _ rfl (by go_simp)).1;have x1:w4.cell? ⟨w2.heap.size,1,none⟩=some (.int .u8 x.k):=(hag ⟨w2.heap.size,1,none⟩ _ rfl (by go_simp)).1;have x2:w4.cell? ⟨w2.heap.size,2,none⟩=some (.int .i64 x.n):=(hag ⟨w2.heap.size,2,none⟩ _ rfl (by go_simp)).1;have x3:w4.cell? ⟨w2.heap.size,3,none⟩=some (.slice mv.a x.l.length mv.c):=(hag ⟨w2.heap.size,3,none⟩ _ rfl (by go_simp)).1;have x4:w4.cell? ⟨w2.heap.size,4,none⟩=some (.int .i64 u):=(hag ⟨w2.heap.size,4,none⟩ _ rfl (by go_simp)).1;obtain ⟨g0,g1,g2,g3,g4,g5⟩:=At6z.1 (At.ext (Agree.below hbg) (A:=fun _=>True) trivial _ _ HBP.out);have hz4:=hbg.size;have hbw4:Below w.heap.size w w4:=hbw1.trans (hbg.mono (by omega));have hrx:RV w4 (Own w1.heap.size (fun _=>False) (.slice (some ⟨g,0,none⟩) (j+1) cap)) x mv.a:=RV.own hgrow HOWN.out hat (by simp) (RV.mono (fun b hb _=>(Or.inr ⟨(by omega),fun e=>(by have h9:=HOK.out _ e;omega)⟩)) _ _ (RV.ext (A:=fun b=>wr.heap.size≤b) (Agree.below Below.r) _ _ (RV.mono (fun b hb _=>(by simpa using hb)) _ _ HRV.out)));have hqx:∀q∈ps,RV w4 (Own w1.heap.size (fun _=>False) (.slice (some ⟨g,0,none⟩) (j+1) cap)) q.1.v q.2.a:=fun q hq=>RV.own hgrow HOWN.out hat (by simp) (RV.ext (Agree.below (Below.mono (B:=wr.heap.size) Below.r (Nat.le_refl _))) _ _ (HQ.out q hq));have HRX:=hid hrx;have HQX:=hid hqx;have HOX:=hid hown;clear hrx hqx hown)|(go_at_call 24;refine (Holds_at p x false HH.out A2 (Own w1.heap.size (fun _=>False) (.slice (some ⟨g,0,none⟩) (j+1) cap)) ⟨na,nb,nc,nd⟩ mv _ OP.out hp (by exact RP.ext (Agree.below hbw4) _ _ HR.out) OKX.out (by exact HRX.out)).mono ?_;rintro e6 w6 ⟨rfl,hb6⟩))
      have hz6:=hb6.size
      have hown6:w6.ownsRow w1.heap.size 60 5 (.slice (some ⟨g,0,none⟩) (j+1) cap) (j+1) (flatR (ps++[(⟨(i:Int),((i+u:Nat):Int),x⟩,mv)])):=by
       rw [flatR_append,show ((i+u:Nat):Int)=(i:Int)+(u:Int) from Int.natCast_add i u]
       exact owns_below HOX.out hb6 (fun k hk=>by cases hk;exact hlt1)
      have hq6:∀q∈ps++[((⟨(i:Int),((i+u:Nat):Int),x⟩:GR),mv)],RV w6 (Own w1.heap.size (fun _=>False) (.slice (some ⟨g,0,none⟩) (j+1) cap)) q.1.v q.2.a:=by
       intro q hq
       rcases List.mem_append.1 hq with hq|hq
       ·exact RV.ext (Agree.below hb6) _ _ (HQX.out q hq)
       ·simp at hq
        subst hq
        exact RV.ext (Agree.below hb6) _ _ HRX.out
      have hE2:=RRx_of_row (A:=fun b=>w1.heap.size≤b) hown6 (fun b h=>h) (fun q hq=>RV.mono (fun b hb _=>by rcases hb with ⟨h,_⟩|⟨h,h2⟩;exact absurd h id;exact ⟨h,h2⟩) _ _ (hq6 q hq))
      obtain ⟨av,cv,hav,hrd⟩:=hE2
      refine bodyPost_ret (v:=.tuple #[.slice (some ⟨g,0,none⟩) (j+1) cap,.int .u8 1,.int .i64 0]) (by simp [results,Tryz.f7,go_sem]) rfl ?_
      have hst2:((ps++[((⟨(i:Int),((i+u:Nat):Int),x⟩:GR),mv)]).map Prod.fst,(1:Int))=R:=by rw [←HST.out];simp
      rw [←hst2]
      exact ⟨hbw4.trans (hb6.mono (by omega)),av,cv,by rw [hav],RRx.mono (fun b hb _=>by omega) _ _ hrd⟩
     ·go_wp2_with (first|(at_builtin;refine wpList_append_lies _ rfl _ _ 38 rfl w1.heap.size 60 i0 _ 5 56 Tryz.underlying38 hi0 y0 y1 y2 rfl (by decide) _ j _ (by rfl) ((owns_below HO.out (B:=wr.heap.size) (by exact Below.r) HOK.out).alloc _) ⟨w2.heap.size,0,none⟩ 1 1 [.int .i64 i,.int .i64 (i+u),.int .u8 x.k,.int .i64 x.n,.slice mv.a x.l.length mv.c] (by rfl) rfl (cells_at5 (by simp) _ _ _ _ _ _) (by simp [Value.oneCell']) (by decide) (by unfold maxLen;omega) (by omega) (by simp;omega) (w2.heap.size+1) (by simp) ?_;intro g cap w4 hown hgrow hat hlt1;have hbg:Below w1.heap.size w1 w4:=Below.grown (by exact Below.r) hgrow (by simp;omega) HOWN.out;have hag:Agree (fun b=>b=wr.heap.size) _ w4:=Agree.grown hgrow (fun b hb e=>(by have h8:b=wr.heap.size:=hb;have h9:=HOK.out _ e.symm;omega));have x0:w4.cell? ⟨wr.heap.size,0,none⟩=some (.int .u8 1):=(hag ⟨wr.heap.size,0,none⟩ _ rfl (by go_simp)).1;have x1:w4.cell? ⟨wr.heap.size,1,none⟩=some (.int .u8 x.k):=(hag ⟨wr.heap.size,1,none⟩ _ rfl (by go_simp)).1;have x2:w4.cell? ⟨wr.heap.size,2,none⟩=some (.int .i64 x.n):=(hag ⟨wr.heap.size,2,none⟩ _ rfl (by go_simp)).1;have x3:w4.cell? ⟨wr.heap.size,3,none⟩=some (.slice mv.a x.l.length mv.c):=(hag ⟨wr.heap.size,3,none⟩ _ rfl (by go_simp)).1;have x4:w4.cell? ⟨wr.heap.size,4,none⟩=some (.int .i64 u):=(hag ⟨wr.heap.size,4,none⟩ _ rfl (by go_simp)).1;obtain ⟨g0,g1,g2,g3,g4,g5⟩:=At6z.1 (At.ext (Agree.below hbg) (A:=fun _=>True) trivial _ _ HBP.out);have hz4:=hbg.size;have hbw4:Below w.heap.size w w4:=hbw1.trans (hbg.mono (by omega));have hrx:RV w4 (Own w1.heap.size (fun _=>False) (.slice (some ⟨g,0,none⟩) (j+1) cap)) x mv.a:=RV.own hgrow HOWN.out hat (by simp) (RV.mono (fun b hb _=>(Or.inr ⟨(by omega),fun e=>(by have h9:=HOK.out _ e;omega)⟩)) _ _ (RV.ext (A:=fun b=>wr.heap.size+1≤b) (agree_set5 _ _ _ _ _ _) _ _ (RV.mono (fun b hb _=>(by simpa using hb)) _ _ HRV.out)));have hqx:∀q∈ps,RV w4 (Own w1.heap.size (fun _=>False) (.slice (some ⟨g,0,none⟩) (j+1) cap)) q.1.v q.2.a:=fun q hq=>RV.own hgrow HOWN.out hat (by simp) (RV.ext (Agree.below (Below.mono (B:=wr.heap.size) Below.r (Nat.le_refl _))) _ _ (HQ.out q hq));have HRX:=hid hrx;have HQX:=hid hqx;have HOX:=hid hown;clear hrx hqx hown)|(go_at_call 24;refine (Holds_at p x false HH.out A2 (Own w1.heap.size (fun _=>False) (.slice (some ⟨g,0,none⟩) (j+1) cap)) ⟨na,nb,nc,nd⟩ mv _ OP.out hp (by exact RP.ext (Agree.below hbw4) _ _ HR.out) OKX.out (by exact HRX.out)).mono ?_;rintro e6 w6 ⟨rfl,hb6⟩))
      have hz6:=hb6.size
      have hown6:w6.ownsRow w1.heap.size 60 5 (.slice (some ⟨g,0,none⟩) (j+1) cap) (j+1) (flatR (ps++[(⟨(i:Int),((i+u:Nat):Int),x⟩,mv)])):=by
       rw [flatR_append,show ((i+u:Nat):Int)=(i:Int)+(u:Int) from Int.natCast_add i u]
       exact owns_below HOX.out hb6 (fun k hk=>by cases hk;exact hlt1)
      have hq6:∀q∈ps++[((⟨(i:Int),((i+u:Nat):Int),x⟩:GR),mv)],RV w6 (Own w1.heap.size (fun _=>False) (.slice (some ⟨g,0,none⟩) (j+1) cap)) q.1.v q.2.a:=by
       intro q hq
       rcases List.mem_append.1 hq with hq|hq
       ·exact RV.ext (Agree.below hb6) _ _ (HQX.out q hq)
       ·simp at hq
        subst hq
        exact RV.ext (Agree.below hb6) _ _ HRX.out
      have hE2:=RRx_of_row (A:=fun b=>w1.heap.size≤b) hown6 (fun b h=>h) (fun q hq=>RV.mono (fun b hb _=>by rcases hb with ⟨h,_⟩|⟨h,h2⟩;exact absurd h id;exact ⟨h,h2⟩) _ _ (hq6 q hq))
      obtain ⟨av,cv,hav,hrd⟩:=hE2
      refine bodyPost_ret (v:=.tuple #[.slice (some ⟨g,0,none⟩) (j+1) cap,.int .u8 1,.int .i64 0]) (by simp [results,Tryz.f7,go_sem]) rfl ?_
      have hst2:((ps++[((⟨(i:Int),((i+u:Nat):Int),x⟩:GR),mv)]).map Prod.fst,(1:Int))=R:=by rw [←HST.out];simp
      rw [←hst2]
      exact ⟨hbw4.trans (hb6.mono (by omega)),av,cv,by rw [hav],RRx.mono (fun b hb _=>by omega) _ _ hrd⟩
    ·have HH:=hid (show (mayP p&&holdsP p x)=true by rw [hHv,HMAY.out];rfl)
     rw [hHv,if_pos rfl] at hst
     have HST:=hid hst
     clear hst hHv
     go_wp2_with fail
     go_region_held3 (fun W=>∀k,W.cell? ⟨w.heap.size,k,none⟩=wr.cell? ⟨w.heap.size,k,none⟩) ((intro k;refine Below.cell (B:=wr.heap.size) (w:=wr) (p:=⟨w.heap.size,k,none⟩) ?_ u0;((repeat (first|with_reducible exact Below.refl _ _|with_reducible assumption|with_reducible refine Below.trans ?_ (Below.mono (by with_reducible assumption) (by first|omega|(simp;done)|(simp;omega)))|with_reducible refine Below.drew ?_|with_reducible refine Below.alloc ?_ (by first|omega|(simp;done)|(simp;omega)) _|with_reducible refine Below.setCell ?_ (by first|omega|(simp;done)|(simp;omega)) _));done))) ((go_at_call 23;refine (run_ok t (subS s i) _ A ⟨ma,mb,mc,md,me,mf,mg,mh,mi,mj,mk,ml⟩ OX.out hs (by exact RT.ext (A:=A) (Agree.below Below.r) _ _ QT.out) hs9 HRS.out x u HW.out).mono ?_;rintro e w2 ⟨hb2,mv,rfl,hrv⟩;have HRV:=hid hrv;clear hrv;have hz2:=hb2.size;(try simp at hz2);have hbr2:Below wr.heap.size wr w2:=Below.r;have v0:w.heap.size < w2.heap.size:=(by omega);have v1:w.heap.size+1 < w2.heap.size:=(by omega);have v2:wr.heap.size≤w2.heap.size:=(by omega);(try (have y5':wr.heap.size < w2.heap.size:=(by omega);have q0:w2.cell? ⟨wr.heap.size,0,none⟩=some (.int .u8 0):=(hb2.cell (by simp)).trans (by go_simp);have q1:w2.cell? ⟨wr.heap.size,1,none⟩=some (.int .u8 0):=(hb2.cell (by simp)).trans (by go_simp);have q2:w2.cell? ⟨wr.heap.size,2,none⟩=some (.int .i64 0):=(hb2.cell (by simp)).trans (by go_simp);have q3:w2.cell? ⟨wr.heap.size,3,none⟩=some (.slice none 0 0):=(hb2.cell (by simp)).trans (by go_simp);have q4:w2.cell? ⟨wr.heap.size,4,none⟩=some (.int .i64 0):=(hb2.cell (by simp)).trans (by go_simp);have qf:∀k,w2.frozen? ⟨wr.heap.size,k,none⟩=false:=fun k=>(hb2.frozen (by simp)).trans (by go_simp)))))
     ·go_wp2_with (first|(at_builtin;refine wpList_append_lies _ rfl _ _ 38 rfl w1.heap.size 60 i0 _ 5 56 Tryz.underlying38 hi0 y0 y1 y2 rfl (by decide) _ j _ (by rfl) ((owns_below HO.out (B:=wr.heap.size) (by exact Below.r) HOK.out).alloc _) ⟨w2.heap.size+1,0,none⟩ 1 1 [.int .i64 i,.int .i64 (i+u),.int .u8 x.k,.int .i64 x.n,.slice mv.a x.l.length mv.c] (by rfl) rfl (cells_at5 (by simp) _ _ _ _ _ _) (by simp [Value.oneCell']) (by decide) (by unfold maxLen;omega) (by omega) (by simp;omega) (w2.heap.size+1+1) (by simp) ?_;intro g cap w4 hown hgrow hat hlt1;have hbg:Below w1.heap.size w1 w4:=Below.grown (by exact Below.r) hgrow (by simp;omega) HOWN.out;have hag:Agree (fun b=>b=w2.heap.size) _ w4:=Agree.grown hgrow (fun b hb e=>(by have h8:b=w2.heap.size:=hb;have h9:=HOK.out _ e.symm;omega));have x0:w4.cell? ⟨w2.heap.size,0,none⟩=some (.int .u8 1):=(hag ⟨w2.heap.size,0,none⟩ _ rfl (by go_simp)).1;have x1:w4.cell? ⟨w2.heap.size,1,none⟩=some (.int .u8 x.k):=(hag ⟨w2.heap.size,1,none⟩ _ rfl (by go_simp)).1;have x2:w4.cell? ⟨w2.heap.size,2,none⟩=some (.int .i64 x.n):=(hag ⟨w2.heap.size,2,none⟩ _ rfl (by go_simp)).1;have x3:w4.cell? ⟨w2.heap.size,3,none⟩=some (.slice mv.a x.l.length mv.c):=(hag ⟨w2.heap.size,3,none⟩ _ rfl (by go_simp)).1;have x4:w4.cell? ⟨w2.heap.size,4,none⟩=some (.int .i64 u):=(hag ⟨w2.heap.size,4,none⟩ _ rfl (by go_simp)).1;obtain ⟨g0,g1,g2,g3,g4,g5⟩:=At6z.1 (At.ext (Agree.below hbg) (A:=fun _=>True) trivial _ _ HBP.out);have hz4:=hbg.size;have hbw4:Below w.heap.size w w4:=hbw1.trans (hbg.mono (by omega));have hrx:RV w4 (Own w1.heap.size (fun _=>False) (.slice (some ⟨g,0,none⟩) (j+1) cap)) x mv.a:=RV.own hgrow HOWN.out hat (by simp) (RV.mono (fun b hb _=>(Or.inr ⟨(by omega),fun e=>(by have h9:=HOK.out _ e;omega)⟩)) _ _ (RV.ext (A:=fun b=>wr.heap.size≤b) (Agree.below Below.r) _ _ (RV.mono (fun b hb _=>(by simpa using hb)) _ _ HRV.out)));have hqx:∀q∈ps,RV w4 (Own w1.heap.size (fun _=>False) (.slice (some ⟨g,0,none⟩) (j+1) cap)) q.1.v q.2.a:=fun q hq=>RV.own hgrow HOWN.out hat (by simp) (RV.ext (Agree.below (Below.mono (B:=wr.heap.size) Below.r (Nat.le_refl _))) _ _ (HQ.out q hq));have HRX:=hid hrx;have HQX:=hid hqx;have HOX:=hid hown;clear hrx hqx hown)|(go_at_call 24;refine (Holds_at p x true HH.out A2 (Own w1.heap.size (fun _=>False) (.slice (some ⟨g,0,none⟩) (j+1) cap)) ⟨na,nb,nc,nd⟩ mv _ OP.out hp (by exact RP.ext (Agree.below hbw4) _ _ HR.out) OKX.out (by exact HRX.out)).mono ?_;rintro e6 w6 ⟨rfl,hb6⟩))
      have hz6:=hb6.size
      have hown6:w6.ownsRow w1.heap.size 60 5 (.slice (some ⟨g,0,none⟩) (j+1) cap) (j+1) (flatR (ps++[(⟨(i:Int),((i+u:Nat):Int),x⟩,mv)])):=by
       rw [flatR_append,show ((i+u:Nat):Int)=(i:Int)+(u:Int) from Int.natCast_add i u]
       exact owns_below HOX.out hb6 (fun k hk=>by cases hk;exact hlt1)
      have hq6:∀q∈ps++[((⟨(i:Int),((i+u:Nat):Int),x⟩:GR),mv)],RV w6 (Own w1.heap.size (fun _=>False) (.slice (some ⟨g,0,none⟩) (j+1) cap)) q.1.v q.2.a:=by
       intro q hq
       rcases List.mem_append.1 hq with hq|hq
       ·exact RV.ext (Agree.below hb6) _ _ (HQX.out q hq)
       ·simp at hq
        subst hq
        exact RV.ext (Agree.below hb6) _ _ HRX.out
      go_roundg (gk - 1)
      case measure=>omega
      case rel=>exact ⟨j+1,i+u,ps++[(⟨(i:Int),((i+u:Nat):Int),x⟩,mv)],_,rfl,by omega,by go_num,by go_num,hu2,hbg.trans (hb6.mono (by omega)),hid (by have:=HPL.out;simp;omega),hid (by rw [←HST.out];simp),hid hown6,hid hq6⟩
     ·go_wp2_with (first|(at_builtin;refine wpList_append_lies _ rfl _ _ 38 rfl w1.heap.size 60 i0 _ 5 56 Tryz.underlying38 hi0 y0 y1 y2 rfl (by decide) _ j _ (by rfl) ((owns_below HO.out (B:=wr.heap.size) (by exact Below.r) HOK.out).alloc _) ⟨w2.heap.size,0,none⟩ 1 1 [.int .i64 i,.int .i64 (i+u),.int .u8 x.k,.int .i64 x.n,.slice mv.a x.l.length mv.c] (by rfl) rfl (cells_at5 (by simp) _ _ _ _ _ _) (by simp [Value.oneCell']) (by decide) (by unfold maxLen;omega) (by omega) (by simp;omega) (w2.heap.size+1) (by simp) ?_;intro g cap w4 hown hgrow hat hlt1;have hbg:Below w1.heap.size w1 w4:=Below.grown (by exact Below.r) hgrow (by simp;omega) HOWN.out;have hag:Agree (fun b=>b=wr.heap.size) _ w4:=Agree.grown hgrow (fun b hb e=>(by have h8:b=wr.heap.size:=hb;have h9:=HOK.out _ e.symm;omega));have x0:w4.cell? ⟨wr.heap.size,0,none⟩=some (.int .u8 1):=(hag ⟨wr.heap.size,0,none⟩ _ rfl (by go_simp)).1;have x1:w4.cell? ⟨wr.heap.size,1,none⟩=some (.int .u8 x.k):=(hag ⟨wr.heap.size,1,none⟩ _ rfl (by go_simp)).1;have x2:w4.cell? ⟨wr.heap.size,2,none⟩=some (.int .i64 x.n):=(hag ⟨wr.heap.size,2,none⟩ _ rfl (by go_simp)).1;have x3:w4.cell? ⟨wr.heap.size,3,none⟩=some (.slice mv.a x.l.length mv.c):=(hag ⟨wr.heap.size,3,none⟩ _ rfl (by go_simp)).1;have x4:w4.cell? ⟨wr.heap.size,4,none⟩=some (.int .i64 u):=(hag ⟨wr.heap.size,4,none⟩ _ rfl (by go_simp)).1;obtain ⟨g0,g1,g2,g3,g4,g5⟩:=At6z.1 (At.ext (Agree.below hbg) (A:=fun _=>True) trivial _ _ HBP.out);have hz4:=hbg.size;have hbw4:Below w.heap.size w w4:=hbw1.trans (hbg.mono (by omega));have hrx:RV w4 (Own w1.heap.size (fun _=>False) (.slice (some ⟨g,0,none⟩) (j+1) cap)) x mv.a:=RV.own hgrow HOWN.out hat (by simp) (RV.mono (fun b hb _=>(Or.inr ⟨(by omega),fun e=>(by have h9:=HOK.out _ e;omega)⟩)) _ _ (RV.ext (A:=fun b=>wr.heap.size+1≤b) (agree_set5 _ _ _ _ _ _) _ _ (RV.mono (fun b hb _=>(by simpa using hb)) _ _ HRV.out)));have hqx:∀q∈ps,RV w4 (Own w1.heap.size (fun _=>False) (.slice (some ⟨g,0,none⟩) (j+1) cap)) q.1.v q.2.a:=fun q hq=>RV.own hgrow HOWN.out hat (by simp) (RV.ext (Agree.below (Below.mono (B:=wr.heap.size) Below.r (Nat.le_refl _))) _ _ (HQ.out q hq));have HRX:=hid hrx;have HQX:=hid hqx;have HOX:=hid hown;clear hrx hqx hown)|(go_at_call 24;refine (Holds_at p x true HH.out A2 (Own w1.heap.size (fun _=>False) (.slice (some ⟨g,0,none⟩) (j+1) cap)) ⟨na,nb,nc,nd⟩ mv _ OP.out hp (by exact RP.ext (Agree.below hbw4) _ _ HR.out) OKX.out (by exact HRX.out)).mono ?_;rintro e6 w6 ⟨rfl,hb6⟩))
      have hz6:=hb6.size
      have hown6:w6.ownsRow w1.heap.size 60 5 (.slice (some ⟨g,0,none⟩) (j+1) cap) (j+1) (flatR (ps++[(⟨(i:Int),((i+u:Nat):Int),x⟩,mv)])):=by
       rw [flatR_append,show ((i+u:Nat):Int)=(i:Int)+(u:Int) from Int.natCast_add i u]
       exact owns_below HOX.out hb6 (fun k hk=>by cases hk;exact hlt1)
      have hq6:∀q∈ps++[((⟨(i:Int),((i+u:Nat):Int),x⟩:GR),mv)],RV w6 (Own w1.heap.size (fun _=>False) (.slice (some ⟨g,0,none⟩) (j+1) cap)) q.1.v q.2.a:=by
       intro q hq
       rcases List.mem_append.1 hq with hq|hq
       ·exact RV.ext (Agree.below hb6) _ _ (HQX.out q hq)
       ·simp at hq
        subst hq
        exact RV.ext (Agree.below hb6) _ _ HRX.out
      go_roundg (gk - 1)
      case measure=>omega
      case rel=>exact ⟨j+1,i+u,ps++[(⟨(i:Int),((i+u:Nat):Int),x⟩,mv)],_,rfl,by omega,by go_num,by go_num,hu2,hbg.trans (hb6.mono (by omega)),hid (by have:=HPL.out;simp;omega),hid (by rw [←HST.out];simp),hid hown6,hid hq6⟩
   ·rw [hW] at hst hin
    have hk:k=2∨k=3:=hin
    have HW:=hid hW
    clear hW hsz
    dsimp only at hst
    have HST:=hid hst
    clear HOK HOWN
    have hE2:=RRx_of_row (A:=fun b=>w1.heap.size≤b) HO.out (fun b h=>h) (fun q hq=>RV.mono (fun b hb _=>by rcases hb with ⟨h,_⟩|⟨h,h2⟩;exact absurd h id;exact ⟨h,h2⟩) _ _ (HQ.out q hq))
    obtain ⟨av,cv,hav,hrd⟩:=hE2
    have HRD:=hid hrd
    have HAV:=hid hav
    clear hrd hav hst
    have hle:w.heap.size≤wr.heap.size:=by omega
    have hle1:w1.heap.size≤wr.heap.size:=by omega
    rcases hk with rfl|rfl
    ·have hst2:(ps.map Prod.fst,(3:Int))=R:=by rw [←HST.out];simp
     clear HST
     subst hst2
     go_wp2_with fail
     go_region_held3 (fun W=>∀k,W.cell? ⟨w.heap.size,k,none⟩=wr.cell? ⟨w.heap.size,k,none⟩) ((intro k;refine Below.cell (B:=wr.heap.size) (w:=wr) (p:=⟨w.heap.size,k,none⟩) ?_ u0;((repeat (first|with_reducible exact Below.refl _ _|with_reducible assumption|with_reducible refine Below.trans ?_ (Below.mono (by with_reducible assumption) (by first|omega|(simp;done)|(simp;omega)))|with_reducible refine Below.drew ?_|with_reducible refine Below.alloc ?_ (by first|omega|(simp;done)|(simp;omega)) _|with_reducible refine Below.setCell ?_ (by first|omega|(simp;done)|(simp;omega)) _));done))) ((go_at_call 23;refine (run_no t (subS s i) _ A ⟨ma,mb,mc,md,me,mf,mg,mh,mi,mj,mk,ml⟩ OX.out hs (by exact RT.ext (A:=A) (Agree.below Below.r) _ _ QT.out) hs9 HRS.out _ HW.out).mono ?_;rintro e w2 ⟨hb2,rfl⟩;have hz2:=hb2.size;(try simp at hz2);have hbr2:Below wr.heap.size wr w2:=Below.r;have v0:w.heap.size < w2.heap.size:=(by omega);have v1:w.heap.size+1 < w2.heap.size:=(by omega);have v2:wr.heap.size≤w2.heap.size:=(by omega);(try (have y5':wr.heap.size < w2.heap.size:=(by omega);have q0:w2.cell? ⟨wr.heap.size,0,none⟩=some (.int .u8 0):=(hb2.cell (by simp)).trans (by go_simp);have q1:w2.cell? ⟨wr.heap.size,1,none⟩=some (.int .u8 0):=(hb2.cell (by simp)).trans (by go_simp);have q2:w2.cell? ⟨wr.heap.size,2,none⟩=some (.int .i64 0):=(hb2.cell (by simp)).trans (by go_simp);have q3:w2.cell? ⟨wr.heap.size,3,none⟩=some (.slice none 0 0):=(hb2.cell (by simp)).trans (by go_simp);have q4:w2.cell? ⟨wr.heap.size,4,none⟩=some (.int .i64 0):=(hb2.cell (by simp)).trans (by go_simp);have qf:∀k,w2.frozen? ⟨wr.heap.size,k,none⟩=false:=fun k=>(hb2.frozen (by simp)).trans (by go_simp)))))
     all_goals go_wp2_with fail
     all_goals refine bodyPost_ret (v:=.tuple #[v,.int .u8 3,.int .i64 0]) (by simp [results,Tryz.f7,go_sem]) rfl ?_
     all_goals exact ⟨hbw.trans (Below.mono (B:=wr.heap.size) Below.r hle),av,cv,by rw [HAV.out],RRx.mono (fun b hb _=>by omega) _ _ (RRx.ext (Agree.below (Below.mono (B:=wr.heap.size) Below.r (Nat.le_refl _))) _ _ HRD.out)⟩
    ·have hst2:(ps.map Prod.fst,(4:Int))=R:=by rw [←HST.out];simp
     clear HST
     subst hst2
     go_wp2_with fail
     go_region_held3 (fun W=>∀k,W.cell? ⟨w.heap.size,k,none⟩=wr.cell? ⟨w.heap.size,k,none⟩) ((intro k;refine Below.cell (B:=wr.heap.size) (w:=wr) (p:=⟨w.heap.size,k,none⟩) ?_ u0;((repeat (first|with_reducible exact Below.refl _ _|with_reducible assumption|with_reducible refine Below.trans ?_ (Below.mono (by with_reducible assumption) (by first|omega|(simp;done)|(simp;omega)))|with_reducible refine Below.drew ?_|with_reducible refine Below.alloc ?_ (by first|omega|(simp;done)|(simp;omega)) _|with_reducible refine Below.setCell ?_ (by first|omega|(simp;done)|(simp;omega)) _));done))) ((go_at_call 23;refine (run_no t (subS s i) _ A ⟨ma,mb,mc,md,me,mf,mg,mh,mi,mj,mk,ml⟩ OX.out hs (by exact RT.ext (A:=A) (Agree.below Below.r) _ _ QT.out) hs9 HRS.out _ HW.out).mono ?_;rintro e w2 ⟨hb2,rfl⟩;have hz2:=hb2.size;(try simp at hz2);have hbr2:Below wr.heap.size wr w2:=Below.r;have v0:w.heap.size < w2.heap.size:=(by omega);have v1:w.heap.size+1 < w2.heap.size:=(by omega);have v2:wr.heap.size≤w2.heap.size:=(by omega);(try (have y5':wr.heap.size < w2.heap.size:=(by omega);have q0:w2.cell? ⟨wr.heap.size,0,none⟩=some (.int .u8 0):=(hb2.cell (by simp)).trans (by go_simp);have q1:w2.cell? ⟨wr.heap.size,1,none⟩=some (.int .u8 0):=(hb2.cell (by simp)).trans (by go_simp);have q2:w2.cell? ⟨wr.heap.size,2,none⟩=some (.int .i64 0):=(hb2.cell (by simp)).trans (by go_simp);have q3:w2.cell? ⟨wr.heap.size,3,none⟩=some (.slice none 0 0):=(hb2.cell (by simp)).trans (by go_simp);have q4:w2.cell? ⟨wr.heap.size,4,none⟩=some (.int .i64 0):=(hb2.cell (by simp)).trans (by go_simp);have qf:∀k,w2.frozen? ⟨wr.heap.size,k,none⟩=false:=fun k=>(hb2.frozen (by simp)).trans (by go_simp)))))
     all_goals go_wp2_with fail
     all_goals refine bodyPost_ret (v:=.tuple #[v,.int .u8 4,.int .i64 0]) (by simp [results,Tryz.f7,go_sem]) rfl ?_
     all_goals exact ⟨hbw.trans (Below.mono (B:=wr.heap.size) Below.r hle),av,cv,by rw [HAV.out],RRx.mono (fun b hb _=>by omega) _ _ (RRx.ext (Agree.below (Below.mono (B:=wr.heap.size) Below.r (Nat.le_refl _))) _ _ HRD.out)⟩
  ·have hjl:j=N:=by omega
   have hst:=HP.out
   rw [hjl,Nat.sub_self] at hst
   have hst2:(ps.map Prod.fst,2)=R:=by rw [←hst];simp [cutT]
   have hE2:=RRx_of_row (A:=fun b=>w1.heap.size≤b) HO.out (fun b h=>h) (fun q hq=>RV.mono (fun b hb _=>by rcases hb with ⟨h,_⟩|⟨h,h2⟩;exact absurd h id;exact ⟨h,h2⟩) _ _ (HQ.out q hq))
   obtain ⟨av,cv,hav,hrd⟩:=hE2
   have HRD:=hid hrd
   have HAV:=hid hav
   clear hst hrd hav hjl
   subst hst2
   go_wp2_with fail
   refine bodyPost_ret (v:=.tuple #[v,.int .u8 2,.int .i64 0]) (by simp [results,Tryz.f7,go_sem]) rfl ?_
   exact ⟨hbw,av,cv,by rw [HAV.out],RRx.mono (fun b hb _=>by omega) _ _ HRD.out⟩
theorem cut_okc (t:GT) (p:GP) (s:ByteArray) (N:Nat) (w:World) (A A2:Nat→Prop) (m:TA) (mp:PA) (ox:okT t) (hs:sizeT t≤1099511627776) (hl:RT w A t m) (op:okP p) (hp:sizeP p≤1099511627776) (hr:RP w A2 p mp) (hE:cutE t p s N=0):
  Calls Tryz.prog 7 #[TV t m,PV p mp,.string s,.int .i64 N] w fun e w'=>Below w.heap.size w w'∧CutC (cutT s t p N 0) w e w':=
 (cut_okx t p s N w A A2 m mp ox hs hl op hp hr hE).mono fun e w' h=>by
  obtain ⟨hb,a,c,h,hr⟩:=h
  exact ⟨hb,a,c,h,hr.1⟩
theorem cut_ok (t:GT) (p:GP) (s:ByteArray) (N:Nat) (w:World) (A A2:Nat→Prop) (m:TA) (mp:PA) (ox:okT t) (hs:sizeT t≤1099511627776) (hl:RT w A t m) (op:okP p) (hp:sizeP p≤1099511627776) (hr:RP w A2 p mp) (hE:cutE t p s N=0):
  Calls Tryz.prog 7 #[TV t m,PV p mp,.string s,.int .i64 N] w fun e w'=>Below w.heap.size w w'∧CutV (cutT s t p N 0) w e w':=
 (cut_okc t p s N w A A2 m mp ox hs hl op hp hr hE).mono fun e w' h=>by
  obtain ⟨hb,a,c,h,hr⟩:=h
  exact ⟨hb,a,_,h,hr⟩
set_option maxRecDepth 100000 in
set_option maxHeartbeats 2000000 in
theorem ends_ok (t:GT) (p:GP) (s:ByteArray) (N:Nat) (l:List GR) (en:Int) (many:Nat) (to:Int) (w:World) (A A2:Nat→Prop) (m:TA) (mp:PA) (ox:okT t) (hs:sizeT t≤1099511627776) (hl:RT w A t m) (op:okP p) (hp:sizeP p≤1099511627776) (hr:RP w A2 p mp) (hE:cutE t p s N=0)
  (hR:cutT s t p N 0=(l,en)) (hm:l.length=many) (h1000:many≤1000) (hto:∀h:many - 1 < l.length,l[many - 1].t=to):
  Calls Tryz.prog 17 #[TV t m,PV p mp,.string s,.int .i64 N,.int .u8 en,.int .i64 many,.int .i64 to] w fun e w'=>e=.returned (.bool true)∧Below w.heap.size w w':=by
 obtain ⟨ma,mb,mc,md,me,mf,mg,mh,mi,mj,mk,ml⟩:=m
 obtain ⟨na,nb,nc,nd⟩:=mp
 have HL:=hid hl
 have HR:=hid hr
 have OX:=hid ox
 have OP:=hid op
 have HE:=hid hE
 have HC:=hid hR
 have HM:=hid hm
 have HT:=hid hto
 clear hl hr ox op hE hR hm hto
 by_cases h0:many=0
 ·subst h0
  go_enter Tryz.func17,Tryz.ntmps17
  go_wp2_with (go_at_call 7;refine (cut_ok t p s N _ A A2 ⟨ma,mb,mc,md,me,mf,mg,mh,mi,mj,mk,ml⟩ ⟨na,nb,nc,nd⟩ OX.out hs (by exact RT.ext (Agree.below Below.r) _ _ HL.out) OP.out hp (by exact RP.ext (Agree.below Below.r) _ _ HR.out) HE.out).mono ?_;rw [HC.out];(try dsimp only);rintro e w1 ⟨hb1,a,c,rfl,hrr⟩;have HRR:=hid hrr;clear hrr;rw [HM.out])
  go_ret
  exact ⟨rfl,Below.r⟩
 ·have hne:((many:Int)==0)=false:=beq_eq_false_iff_ne.2 (by omega)
  have hpos:0 < many:=by omega
  have hlt:many - 1 < l.length:=by have:=HM.out;omega
  have hti:=HT.out hlt
  have HTI:=hid hti
  have hcast:(many:Int) - 1=((many - 1:Nat):Int):=by omega
  have HCAST:=hid hcast
  clear h0 hti hcast
  go_enter Tryz.func17,Tryz.ntmps17
  go_wp2_with (go_at_call 7;refine (cut_ok t p s N _ A A2 ⟨ma,mb,mc,md,me,mf,mg,mh,mi,mj,mk,ml⟩ ⟨na,nb,nc,nd⟩ OX.out hs (by exact RT.ext (Agree.below Below.r) _ _ HL.out) OP.out hp (by exact RP.ext (Agree.below Below.r) _ _ HR.out) HE.out).mono ?_;rw [HC.out];(try dsimp only);rintro e w1 ⟨hb1,a,c,rfl,hrr⟩;(obtain ⟨b,o,m9,rfl,hA,hbs,g0,gx⟩:=hrr.get (many - 1) hlt);(obtain ⟨z0,z1,z2,z3,z4⟩:=At5.1 g0);rw [HTI.out] at z1;rw [HM.out];clear g0 gx hrr z0 z2 z3 z4)
  go_ret
  exact ⟨rfl,Below.r⟩
theorem ends_span (s:ByteArray) (N:Nat) (l:List GR) (en:Int) (many:Nat) (to:Int) (w:World) (hE:cutE (spanT 0 7) (lessP 5) s N=0) (hR:cutT s (spanT 0 7) (lessP 5) N 0=(l,en)) (hm:l.length=many) (h1000:many≤1000) (hto:∀h:many - 1 < l.length,l[many - 1].t=to):
  Calls Tryz.prog 17 #[TV (spanT 0 7) nilTA,PV (lessP 5) nilPA,.string s,.int .i64 N,.int .u8 en,.int .i64 many,.int .i64 to] w fun e w'=>e=.returned (.bool true)∧Below w.heap.size w w':=
 ends_ok _ _ s N l en many to w (fun _=>True) (fun _=>True) nilTA nilPA (span_ok 0 7 (by unfold isI64;omega) (by unfold isI64;omega)) (size_span 0 7) (spanR 0 7) (lessP_ok 5 (by unfold isI64;omega)) (size_less 5) (lessR 5) hE hR hm h1000 hto
theorem ends_a (w:World):Calls Tryz.prog 17 #[TV (spanT 0 7) nilTA,PV (lessP 5) nilPA,.string (b6 48 48 48 48 48 49),.int .i64 5,.int .u8 3,.int .i64 2,.int .i64 6] w fun e w'=>e=.returned (.bool true)∧Below w.heap.size w w':=
 ends_span _ 5 tr2 3 2 6 w ev5.1 ev6 rfl (by omega) (fun _=>rfl)
theorem ends_b (w:World):Calls Tryz.prog 17 #[TV (spanT 0 7) nilTA,PV (lessP 5) nilPA,.string (b6 48 48 48 49 49 49),.int .i64 1,.int .u8 2,.int .i64 1,.int .i64 3] w fun e w'=>e=.returned (.bool true)∧Below w.heap.size w w':=
 ends_span _ 1 tr3 2 1 3 w ev5.2.1 ev7 rfl (by omega) (fun _=>rfl)
theorem ends_c (w:World):Calls Tryz.prog 17 #[TV (spanT 0 7) nilTA,PV (lessP 5) nilPA,.string (b6 48 48 48 49 49 49),.int .i64 0,.int .u8 2,.int .i64 0,.int .i64 0] w fun e w'=>e=.returned (.bool true)∧Below w.heap.size w w':=
 ends_span _ 0 [] 2 0 0 w ev5.2.2.1 ev8 rfl (by omega) (fun h=>absurd h (by simp))
theorem ends_d (w:World):Calls Tryz.prog 17 #[TV (numT 1) nilTA,PV yesP nilPA,.string ByteArray.empty,.int .i64 3,.int .u8 2,.int .i64 3,.int .i64 0] w fun e w'=>e=.returned (.bool true)∧Below w.heap.size w w':=
 ends_ok _ _ ByteArray.empty 3 tr4 2 3 0 w (fun _=>True) (fun _=>True) nilTA nilPA (num_ok 1 (by unfold isI64;omega)) (size_num 1) (numR 1) yes_ok size_yes yesR ev5.2.2.2 ev9 rfl (by omega) (fun _=>rfl)
theorem cut_a (w:World):Calls Tryz.prog 7 #[TV (spanT 0 7) nilTA,PV (lessP 5) nilPA,.string (b6 48 48 48 49 49 49),.int .i64 5] w fun e w'=>Below w.heap.size w w'∧∃a c,e=.returned (.tuple #[.slice a 2 c,.int .u8 1,.int .i64 0])∧RRs w' (fun b=>w.heap.size≤b) tr1 a:=
 (cut_ok (spanT 0 7) (lessP 5) (b6 48 48 48 49 49 49) 5 w (fun _=>True) (fun _=>True) nilTA nilPA (span_ok 0 7 (by unfold isI64;omega) (by unfold isI64;omega)) (size_span 0 7) (spanR 0 7) (lessP_ok 5 (by unfold isI64;omega)) (size_less 5) (lessR 5) ev1).mono fun e w' h=>by
  rw [ev2] at h
  exact h
theorem cut_b (w:World):Calls Tryz.prog 7 #[TV (spanT 0 7) nilTA,PV (lessP 5) nilPA,.string ByteArray.empty,.int .i64 1001] w fun e w'=>e=.returned (.tuple #[.slice none 0 0,.int .u8 0,.int .i64 1])∧Below w.heap.size w w':=
 (cut_err (spanT 0 7) (lessP 5) ByteArray.empty 1001 w (fun _=>True) (fun _=>True) nilTA nilPA (span_ok 0 7 (by unfold isI64;omega) (by unfold isI64;omega)) (size_span 0 7) (spanR 0 7) (lessP_ok 5 (by unfold isI64;omega)) (size_less 5) (lessR 5) (by decide) (by rw [ev3];decide)).mono fun e w' h=>by
  rw [ev3] at h
  exact h
theorem RRs_two {w:World} {b:Nat} {x y:GR} {m n:VA} (h0:w.cell? ⟨b,0,none⟩=some (.int .i64 x.f)) (h1:w.cell? ⟨b,1,none⟩=some (.int .i64 x.t)) (h2:w.cell? ⟨b,2,none⟩=some (.int .u8 x.v.k)) (h3:w.cell? ⟨b,3,none⟩=some (.int .i64 x.v.n)) (h4:w.cell? ⟨b,4,none⟩=some (.slice m.a x.v.l.length m.c))
  (g0:w.cell? ⟨b,5,none⟩=some (.int .i64 y.f)) (g1:w.cell? ⟨b,6,none⟩=some (.int .i64 y.t)) (g2:w.cell? ⟨b,7,none⟩=some (.int .u8 y.v.k)) (g3:w.cell? ⟨b,8,none⟩=some (.int .i64 y.v.n)) (g4:w.cell? ⟨b,9,none⟩=some (.slice n.a y.v.l.length n.c)) (hx:x.v.l=[]) (hy:y.v.l=[]):RRs w (fun _=>True) [x,y] (some ⟨b,0,none⟩):=by
 simp only [RRs]
 refine ⟨b,0,m,rfl,trivial,At5.2 ⟨h0,h1,h2,h3,h4⟩,by rw [RV_iff,hx];simp only [RVs],b,5,n,rfl,trivial,At5.2 ⟨g0,g1,g2,g3,g4⟩,by rw [RV_iff,hy];simp only [RVs],trivial⟩
theorem tr1_at {w:World} {b:Nat} (h0:w.cell? ⟨b,0,none⟩=some (.int .i64 0)) (h1:w.cell? ⟨b,1,none⟩=some (.int .i64 3)) (h2:w.cell? ⟨b,2,none⟩=some (.int .u8 1)) (h3:w.cell? ⟨b,3,none⟩=some (.int .i64 0)) (h4:w.cell? ⟨b,4,none⟩=some (.slice none 0 0)) (h5:w.cell? ⟨b,5,none⟩=some (.int .i64 3)) (h6:w.cell? ⟨b,6,none⟩=some (.int .i64 6)) (h7:w.cell? ⟨b,7,none⟩=some (.int .u8 1)) (h8:w.cell? ⟨b,8,none⟩=some (.int .i64 7)) (h9:w.cell? ⟨b,9,none⟩=some (.slice none 0 0)):RRs w (fun _=>True) tr1 (some ⟨b,0,none⟩):=
 RRs_two (x:=⟨0,3,⟨1,0,[]⟩⟩) (y:=⟨3,6,⟨1,7,[]⟩⟩) (m:=⟨none,0⟩) (n:=⟨none,0⟩) h0 h1 h2 h3 h4 h5 h6 h7 h8 h9 rfl rfl
theorem same_tr1 (w:World) (A:Nat→Prop) (a:Option Addr) (c b:Nat) (hr:RRs w A tr1 a) (hq:RRs w (fun _=>True) tr1 (some ⟨b,0,none⟩)):
  Calls Tryz.prog 8 #[.slice a 2 c,.slice (some ⟨b,0,none⟩) 2 2,.int .i64 0] w fun e w'=>e=.returned (.bool true)∧Below w.heap.size w w':=
 (r29same_any tr1 tr1 0 A (fun _=>True) w a (some ⟨b,0,none⟩) c 2 (by simp [tr1]) (by simp [tr1]) ⟨by omega,by omega⟩
  (fun x hx=>by
   simp [tr1] at hx
   rcases hx with rfl|rfl
   all_goals exact ⟨⟨by simp,by simp⟩,⟨by simp,by simp⟩,okV_iff.2 ⟨by unfold isU8;simp,by unfold isI64;simp,by simp,by simp [okVs]⟩⟩)
  (fun x hx=>by
   simp [tr1] at hx
   rcases hx with rfl|rfl
   all_goals exact ⟨by unfold isI64;simp,by unfold isI64;simp,okV_iff.2 ⟨by unfold isU8;simp,by unfold isI64;simp,by simp,by simp [okVs]⟩⟩) hr hq).mono fun e w' h=>by
  rw [ev4] at h
  exact h
theorem told_tr1 (w:World) (A:Nat→Prop) (a:Option Addr) (c:Nat) (hr:RRs w A tr1 a):
  Calls Tryz.prog 9 #[.slice a 2 c] w fun e w'=>Below w.heap.size w w'∧∃a' c',e=.returned (.slice a' 2 c')∧RRs w' (fun b=>A b∨w.heap.size≤b) tr1 a':=
 told_any tr1 A w a c (by simp [tr1]) hr
theorem cut_x (w:World):Calls Tryz.prog 7 #[TV (spanT 0 7) nilTA,PV (lessP 5) nilPA,.string ⟨#[48,48,48,49,49,49]⟩,.int .i64 5] w fun e w'=>Below w.heap.size w w'∧∃a c,e=.returned (.tuple #[.slice a 2 c,.int .u8 1,.int .i64 0])∧RRs w' (fun b=>w.heap.size≤b) tr1 a:=cut_a w
theorem cut_y (w:World):Calls Tryz.prog 7 #[TV (spanT 0 7) nilTA,PV (lessP 5) nilPA,.string ⟨#[]⟩,.int .i64 1001] w fun e w'=>e=.returned (.tuple #[.slice none 0 0,.int .u8 0,.int .i64 1])∧Below w.heap.size w w':=cut_b w
theorem ends_x (w:World):Calls Tryz.prog 17 #[TV (spanT 0 7) nilTA,PV (lessP 5) nilPA,.string ⟨#[48,48,48,48,48,49]⟩,.int .i64 5,.int .u8 3,.int .i64 2,.int .i64 6] w fun e w'=>e=.returned (.bool true)∧Below w.heap.size w w':=ends_a w
theorem ends_y (w:World):Calls Tryz.prog 17 #[TV (spanT 0 7) nilTA,PV (lessP 5) nilPA,.string ⟨#[48,48,48,49,49,49]⟩,.int .i64 1,.int .u8 2,.int .i64 1,.int .i64 3] w fun e w'=>e=.returned (.bool true)∧Below w.heap.size w w':=ends_b w
theorem ends_z (w:World):Calls Tryz.prog 17 #[TV (spanT 0 7) nilTA,PV (lessP 5) nilPA,.string ⟨#[48,48,48,49,49,49]⟩,.int .i64 0,.int .u8 2,.int .i64 0,.int .i64 0] w fun e w'=>e=.returned (.bool true)∧Below w.heap.size w w':=ends_c w
theorem ends_u (w:World):Calls Tryz.prog 17 #[TV (numT 1) nilTA,.agg #[.int .u8 1,.int .u8 0,.int .i64 0,.slice none 0 0,.int .i64 0,.slice none 0 0],.string ⟨#[]⟩,.int .i64 3,.int .u8 2,.int .i64 3,.int .i64 0] w fun e w'=>e=.returned (.bool true)∧Below w.heap.size w w':=ends_d w
set_option maxRecDepth 100000 in
set_option maxHeartbeats 4000000 in
theorem awake_any (w:World):Calls Tryz.prog 5 #[] w fun e w'=>e=.returned (.bool true)∧Below w.heap.size w w':=by
 go_enter Tryz.func5,Tryz.ntmps5
 go_wp2_with (first
  | (go_at_call 14;(with_reducible refine (span_any _ _ _).mono ?_);rintro e w1 ⟨rfl,hb1⟩;have hz1:=hb1.size;(try simp at hz1))
  | (go_at_call 15;(with_reducible refine (less_any _ _).mono ?_);rintro e w1 ⟨rfl,hb1⟩;have hz1:=hb1.size;(try simp at hz1))
  | (go_at_call 18;(with_reducible refine (lnum_any _ _).mono ?_);rintro e w1 ⟨rfl,hb1⟩;have hz1:=hb1.size;(try simp at hz1))
  | (go_at_call 7;(with_reducible refine (cut_x _).mono ?_);rintro e wa ⟨hba,a,c,rfl,hrr⟩;have HRR:=hid hrr;clear hrr;have hza:=hba.size;(try simp at hza))
  | (go_at_call 7;(with_reducible refine (cut_y _).mono ?_);rintro e w1 ⟨rfl,hb1⟩;have hz1:=hb1.size;(try simp at hz1))
  | (go_at_call 9;(with_reducible refine (told_tr1 _ (fun b=>True) a c (by exact RRs.mono (fun _ _ _=>trivial) _ _ (RRs.ext (Agree.below (Below.mono (B:=wa.heap.size) Below.r (Nat.le_refl _))) _ _ HRR.out))).mono ?_);rintro e wt ⟨hbt,a',c',rfl,hrt⟩;have HRT:=hid hrt;clear hrt;have hzt:=hbt.size;(try simp at hzt))
  | (go_at_call 16;(with_reducible refine (awakeV_any _ _).mono ?_);rintro e w1 ⟨rfl,hb1⟩;have hz1:=hb1.size;(try simp at hz1))
  | (go_at_call 17;(with_reducible refine (ends_x _).mono ?_);rintro e w1 ⟨rfl,hb1⟩;have hz1:=hb1.size;(try simp at hz1))
  | (go_at_call 17;(with_reducible refine (ends_y _).mono ?_);rintro e w1 ⟨rfl,hb1⟩;have hz1:=hb1.size;(try simp at hz1))
  | (go_at_call 17;(with_reducible refine (ends_z _).mono ?_);rintro e w1 ⟨rfl,hb1⟩;have hz1:=hb1.size;(try simp at hz1))
  | (go_at_call 17;(with_reducible refine (ends_u _).mono ?_);rintro e w1 ⟨rfl,hb1⟩;have hz1:=hb1.size;(try simp at hz1))
  | (go_at_call 8;(with_reducible refine (same_tr1 _ (fun _=>True) a' c' w1.heap.size (by exact RRs.mono (fun _ _ _=>trivial) _ _ (RRs.ext (Agree.below (Below.mono (B:=wt.heap.size) Below.r (Nat.le_refl _))) _ _ HRT.out)) (by exact tr1_at (by go_simp) (by go_simp) (by go_simp) (by go_simp) (by go_simp) (by go_simp) (by go_simp) (by go_simp) (by go_simp) (by go_simp))).mono ?_);rintro e w1 ⟨rfl,hb1⟩;have hz1:=hb1.size;(try simp at hz1)))
 go_ret
 exact ⟨rfl,Below.r⟩
end Go.Proofs.YtclphfojkggcpaaGreat
