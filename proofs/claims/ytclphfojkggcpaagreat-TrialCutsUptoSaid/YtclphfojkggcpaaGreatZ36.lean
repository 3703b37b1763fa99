/- What the proofs of the Trial statements need: part 37. -/
import Derived.IntWalk
import Derived.Test.YtclphfojkggcpaaGreatZ4
import Derived.Test.YtclphfojkggcpaaGreatZ17
import Derived.Test.YtclphfojkggcpaaGreatZ19
import Derived.Test.YtclphfojkggcpaaGreatZ33
import Derived.Test.YtclphfojkggcpaaGreatZ34
import Derived.Test.YtclphfojkggcpaaGreatZ35
import Derived.Test.YtclphfojkggcpaaGreatZ45
import Derived.Test.YtclphfojkggcpaaGreatZ46
import Derived.Test.YtclphfojkggcpaaGreatZ50
set_option linter.unusedVariables false
set_option linter.unusedSimpArgs false
namespace Go.Proofs.YtclphfojkggcpaaGreat
open Go.Lib (hid)
open Go Go.RowKit
set_option maxRecDepth 100000 in
set_option maxHeartbeats 4000000 in
theorem s22_4 (c:Nat) (s:ByteArray) (f:Nat) (t:GT) (i:Nat) (w:World) (m:TA) (hb:isBits s=true) (hk:t.k=4) (hn:nodeT t=0) (ox:okT t) (hi:i≤s.size) (hc:Cur w c s i false) (hl:RT w (fun b=>b≠c) t m):
  Calls Tryz.prog 53 #[.pointer (some ⟨c,0,none⟩),TV t m] w (Sam22 c s (sampT s (f+1) t [] i) w):=by
 rw [sampT_4 s f t [] i hk]
 obtain ⟨ma,mb,mc,md,me,mf,mg,mh,mi,mj,mk,ml⟩:=m
 obtain ⟨hlen,hfe, -⟩:=node_alias hn hk
 obtain ⟨-, -,⟨-,ovs⟩, -, -,⟨-,ow⟩, -, -, -⟩:=okT_iff.1 ox
 have HVS:=hid (RT_iff.1 hl).2.1
 have HW:=hid (RT_iff.1 hl).2.2.1
 have HC:=hid hc
 have HB:=hid hb
 have HFE:=hid hfe
 have OW:=hid ow
 have OVS:=hid ovs
 have hcs:c < w.heap.size:=World.block_lt_of_cell? _ _ hc.1.1
 have hal:=aliasP_in s t.w i hi
 have hk1:(t.k==1)=false:=by simp [hk]
 have hk2:(t.k==2)=false:=by simp [hk]
 have hk3:(t.k==3)=false:=by simp [hk]
 have hk4:(t.k==4)=true:=by simp [hk]
 clear hc hk hl hn hb hfe ox ow ovs
 rcases hN:aliasP s t.w i with ⟨_|k,j⟩
 ·have HN:=hid hN
  clear hN hal
  show Calls _ _ _ _ (Sam22 c s (.no 2) w)
  go_enter Tryz.func53,Tryz.ntmps53
  go_wp2_with (first
   | (go_at_call 75;(with_reducible refine (r11New_any t.w _ (fun b=>b≠c) me mf HFE.out OW.out (by exact RIs.ext (Agree.below Below.r) _ _ HW.out)).mono ?_);rintro e w1 ⟨hb1,tb,gc,go,cc,co,htb,rfl,h11,hrc,hro⟩;have H11:=hid h11;have HRC:=hid (RIs.mono (A':=fun b=>b≠c) (fun b hb _=>(by (try simp at hb);omega)) _ _ hrc);have HRO:=hid (RIs.mono (A':=fun b=>b≠c) (fun b hb _=>(by (try simp at hb);omega)) _ _ hro);clear h11 hrc hro;(try simp at htb);have hz1:=hb1.size;(try simp at hz1);obtain ⟨hc1,hf1⟩:=bcells hb1;have y0:w.heap.size < w1.heap.size:=(by omega);have y1:w.heap.size+1 < w1.heap.size:=(by omega);have htc:tb≠c:=(by omega))
   | (go_at_call 76;(with_reducible refine (r11Draw_any t.w s i tb c gc go cc co _ HB.out hi HFE.out htc H11.out HRC.out HRO.out (by exact Cur.below (B:=w.heap.size) Below.r hcs HC.out)).mono ?_);rw [HN.out];rintro e w2 ⟨hb2,rfl,hc2⟩;clear hc2;have hz2:=hb2.size;(try simp at hz2);obtain ⟨hc2,hf2⟩:=ccells hb2;have y4:w.heap.size+1 < w2.heap.size:=(by omega);have y2:¬w.heap.size+1=c:=(by omega);have y3:¬w.heap.size=c:=(by omega)))
  refine bodyPost_ret (v:=(.tuple #[VV ⟨0,0,[]⟩ ⟨none,0⟩,.int .u8 2])) (by first|(simp [results,Tryz.f53,go_sem];done)|(simp [results,Tryz.f53,go_sem, *];done)) rfl ?_
  exact ⟨But.r,rfl,by omega,by omega⟩
 ·have HN:=hid hN
  rw [hN] at hal
  have hkl:k < t.vs.length:=by have:=hal.2.2 k rfl;omega
  obtain ⟨b,o,mq,rfl,hA,hbs,g0,gx⟩:=HVS.out.get k hkl
  obtain ⟨z0,z1,z2⟩:=At3.1 g0
  have hkI:(k:Int) < (t.vs.length:Int):=by omega
  have hbc:¬b=c:=hA
  have e0:((needR (some k,j)).bind fun k j=>atD (fun v j=>Res.ok v j) t.vs k j)=.ok t.vs[k] j:=by
   simp only [needR,Res.bind,atD,List.getElem?_eq_getElem hkl]
  rw [e0]
  clear hN hal e0 g0 hA
  go_enter Tryz.func53,Tryz.ntmps53
  go_wp2_with (first
   | (go_at_call 75;(with_reducible refine (r11New_any t.w _ (fun b=>b≠c) me mf HFE.out OW.out (by exact RIs.ext (Agree.below Below.r) _ _ HW.out)).mono ?_);rintro e w1 ⟨hb1,tb,gc,go,cc,co,htb,rfl,h11,hrc,hro⟩;have H11:=hid h11;have HRC:=hid (RIs.mono (A':=fun b=>b≠c) (fun b hb _=>(by (try simp at hb);omega)) _ _ hrc);have HRO:=hid (RIs.mono (A':=fun b=>b≠c) (fun b hb _=>(by (try simp at hb);omega)) _ _ hro);clear h11 hrc hro;(try simp at htb);have hz1:=hb1.size;(try simp at hz1);obtain ⟨hc1,hf1⟩:=bcells hb1;have y0:w.heap.size < w1.heap.size:=(by omega);have y1:w.heap.size+1 < w1.heap.size:=(by omega);have htc:tb≠c:=(by omega);have y8:b < w.heap.size+1+1:=(by omega))
   | (go_at_call 76;(with_reducible refine (r11Draw_any t.w s i tb c gc go cc co _ HB.out hi HFE.out htc H11.out HRC.out HRO.out (by exact Cur.below (B:=w.heap.size) Below.r hcs HC.out)).mono ?_);rw [HN.out];rintro e w2 ⟨hb2,rfl,hc2⟩;have HC2:=hid hc2;clear hc2;have hz2:=hb2.size;(try simp at hz2);obtain ⟨hc2,hf2⟩:=ccells hb2;have y4:w.heap.size+1 < w2.heap.size:=(by omega);have y2:¬w.heap.size+1=c:=(by omega);have y3:¬w.heap.size=c:=(by omega);have y9:b < w1.heap.size:=(by omega))
   | (go_at_call 72;refine (r22Copied_any _ t.vs[k] _ (fun b=>b≠c) mq (Nat.le_refl _) (OVS.out.get k hkl) (by exact RV.ext (Agree.but But.r) _ _ gx)).mono ?_;rintro e w3 ⟨hb3,m3,rfl,hrv⟩;have HRV:=hid hrv;clear hrv;obtain ⟨hc3,hf3⟩:=bcells hb3;have hz3:=hb3.size;(try simp at hz3);have y5:w.heap.size+1 < w3.heap.size:=(by omega)))
  refine bodyPost_ret (v:=(.tuple #[VV t.vs[k] m3,.int .u8 1])) (by first|(simp [results,Tryz.f53,go_sem];done)|(simp [results,Tryz.f53,go_sem, *];done)) rfl ?_
  exact ⟨But.r,⟨m3,rfl,RV.mono (fun b hb _=>by (try simp at hb);omega) _ _ (RV.ext (((Agree.set so).trans (Agree.set so)).trans (Agree.set so)) _ _ HRV.out)⟩,Cur.below (B:=w.heap.size+1) Below.r (by omega) HC2.out⟩
theorem sample22_any (c:Nat) (s:ByteArray) (hb:isBits s=true):∀f,SamIH22 c s f:=by
 intro f
 induction f with
 | zero=>
  intro t i w m hg ox hi hwk
  obtain ⟨k,n,hw⟩:=hwk
  exact absurd rfl hw
 | succ f ih=>
  intro t i w m hg ox hi hwk hc hl
  have hn:=(goodT_eq.1 hg).1
  have hk:=(node_ok hn).1
  have hx:(¬t.k=1∧¬t.k=11∧¬t.k=10∧¬t.k=2∧¬t.k=4)→∀x∈t.a,goodT false x∧okT x∧∃k n,wkT f x [] k n≠none:=fun h x hx=>⟨goodT_arg hg h.2.2.1 hx,okT_arg ox hx,wk_args h hwk x hx⟩
  rcases (by omega:t.k=1∨t.k=2∨t.k=3∨t.k=4∨t.k=5∨t.k=6∨t.k=7∨t.k=8∨t.k=9∨t.k=10∨t.k=11) with h|h|h|h|h|h|h|h|h|h|h
  ·exact s22_1 c s f t i w m h ox hc hl
  ·exact s22_2 c s f t i w m hb h hn hi hc
  ·exact s22_3 c s f ih t i w m hb h hn (hx (by omega)) hi hc hl
  ·exact s22_4 c s f t i w m hb h hn ox hi hc hl
  ·exact s22_5 c s f ih t i w m h hn (hx (by omega)) hi hc hl
  ·exact s22_6 c s f ih t i w m hb h hn (hx (by omega)) hi hc hl
  ·exact s22_7 c s f ih t i w m hb h hn (hx (by omega)) hi hc hl
  ·exact s22_8 c s f ih t i w m hb h hn (hx (by omega)) hi hc hl
  ·exact s22_9 c s f ih t i w m h hn (hx (by omega)) ox hi hc hl
  ·exact s22_10 c s f ih t i w m h hg ox hwk hi hc hl
  ·obtain ⟨k,n,hw⟩:=hwk
   exact absurd (by simp [wkT,h]) hw
def OutR22 (c:Nat) (r:Res GV) (w:World):Ending→World→Prop:=fun e w'=>But c w.heap.size w w' ∧
 match r with
 | .ok v j=>∃m,e=.returned (.tuple #[OV 1 v m j,.int .i64 0])∧RV w' (fun b=>w.heap.size≤b) v m.a
 | .no k=>e=.returned (.tuple #[OV k zeroV ⟨none,0⟩ 0,.int .i64 0])
set_option maxRecDepth 100000 in
set_option maxHeartbeats 4000000 in
theorem r22From_any (c:Nat) (s:ByteArray) (t:GT) (w:World) (x:TA) (hb:isBits s=true) (h0:s.size≤1048576) (hE:(checkTE t).2=0) (ox:okT t) (hs:sizeT t≤1048576) (hj:(sampT s 4098 t [] 0).In okV 0 s.size)
  (hc:Cur w c s 0 false) (hr:RT w (fun b=>b≠c) t x):
  Calls Tryz.prog 33 #[TV t x,.pointer (some ⟨c,0,none⟩)] w (OutR22 c (sampT s 4098 t [] 0) w):=by
 obtain ⟨ma,mb,mc,md,me,mf,mg,mh,mi,mj,mk,ml⟩:=x
 obtain ⟨hg,hwk⟩:=check_facts hE
 have hcs:c < w.heap.size:=World.block_lt_of_cell? _ _ hc.1.1
 have HR:=hid hr
 have HC:=hid hc
 have HE:=hid hE
 have OX:=hid ox
 have HX:=hid (fun (W:World) (m:TA) (h1:Cur W c s 0 false) (h2:RT W (fun b=>b≠c) t m)=>sample22_any c s hb 4098 t 0 W m hg ox (Nat.zero_le _) hwk h1 h2)
 clear hc hr hb hE ox hg hwk
 rcases hN:sampT s 4098 t [] 0 with ⟨v,j⟩|⟨k⟩
 ·rw [hN] at hj
  obtain ⟨_,hjs,_⟩:=hj
  have hjw:IntKind.i64.wrap (j:Int)=(j:Int):=IntWalk.i64_in _ (by omega)
  have hjv:IntKind.i64.wrap ((j:Int) - 0)=(j:Int):=by rw [Int.sub_zero];exact hjw
  have HN:=hid hN
  clear hN
  go_enter Tryz.func33,Tryz.ntmps33
  go_wp2_with (first
   | (go_at_call 52;(refine (r19Sound_any t _ (fun b=>b≠c) ⟨ma,mb,mc,md,me,mf,mg,mh,mi,mj,mk,ml⟩ OX.out hs (by exact RT.ext (Agree.below Below.r) _ _ HR.out) HE.out).mono ?_;rintro e w1 ⟨rfl,hb1⟩);(obtain ⟨hc1,hf1⟩:=bcells hb1);(have hz1:=hb1.size;(try simp at hz1);have y0:w.heap.size < w1.heap.size:=(by omega);have y1:w.heap.size+1 < w1.heap.size:=(by omega);have hcs1:c < w1.heap.size:=(by omega));(have HC1:=hid (show Cur w1 c s 0 false from Cur.below (B:=w.heap.size) Below.r hcs HC.out));(have e1:w1.cell? ⟨c,1,none⟩=some (.int .i64 0):=(by simpa using HC1.out.1.2.1)))
   | (go_at_call 53;(refine (HX.out _ ⟨ma,mb,mc,md,me,mf,mg,mh,mi,mj,mk,ml⟩ (by exact HC1.out) (by exact RT.ext (Agree.below Below.r) _ _ HR.out)).mono ?_);rw [HN.out];rintro e2 w2 ⟨hb2,⟨m2,rfl,hrv⟩,hc2⟩;have HRV:=hid hrv;have HC2:=hid hc2;clear hrv hc2;have hz2:=hb2.size;have d1:w2.cell? ⟨c,1,none⟩=some (.int .i64 j):=HC2.out.1.2.1;obtain ⟨hc2,hf2⟩:=ccells hb2;have y2:w.heap.size+1 < w2.heap.size:=(by omega);have y3:¬w.heap.size+1=c:=(by omega);have y4:c < w2.heap.size:=(by omega)))
  refine wp_tail 8 (by kernel_rfl) (by kernel_rfl) ?_
  simp only [List.take_succ_cons,List.take_zero,List.drop_succ_cons,List.drop_zero]
  repeat still_step
  refine wpStill_nil ?_
  go_wp2_with fail
  refine bodyPost_ret (v:=.tuple #[OV 1 v m2 j,.int .i64 0]) (by first|(simp [results,Tryz.f33,go_sem,OV];done)|(simp [results,Tryz.f33,go_sem,OV, *];done)) rfl ?_
  refine ⟨But.r,m2,rfl,?_⟩
  exact RV.mono (fun b hb _=>by omega) _ _ (RV.ext (A:=fun b=>w1.heap.size≤b) (fun p v hA hc=>Agree.but (c:=w.heap.size+1) But.r p v (by omega) hc) _ _ HRV.out)
 ·have HN:=hid hN
  clear hN hj
  go_enter Tryz.func33,Tryz.ntmps33
  go_wp2_with (first
   | (go_at_call 52;(refine (r19Sound_any t _ (fun b=>b≠c) ⟨ma,mb,mc,md,me,mf,mg,mh,mi,mj,mk,ml⟩ OX.out hs (by exact RT.ext (Agree.below Below.r) _ _ HR.out) HE.out).mono ?_);rintro e w1 ⟨rfl,hb1⟩;obtain ⟨hc1,hf1⟩:=bcells hb1;have hz1:=hb1.size;(try simp at hz1);have y0:w.heap.size < w1.heap.size:=(by omega);have y1:w.heap.size+1 < w1.heap.size:=(by omega);have hcs1:c < w1.heap.size:=(by omega);have HC1:=hid (show Cur w1 c s 0 false from Cur.below (B:=w.heap.size) Below.r hcs HC.out);have e1:w1.cell? ⟨c,1,none⟩=some (.int .i64 0):=(by simpa using HC1.out.1.2.1))
   | (go_at_call 53;(refine (HX.out _ ⟨ma,mb,mc,md,me,mf,mg,mh,mi,mj,mk,ml⟩ (by exact HC1.out) (by exact RT.ext (Agree.below Below.r) _ _ HR.out)).mono ?_);rw [HN.out];rintro e2 w2 ⟨hb2,rfl,hk8,hk9⟩;have hz2:=hb2.size;obtain ⟨hc2,hf2⟩:=ccells hb2;have y2:w.heap.size+1 < w2.heap.size:=(by omega);have y3:¬w.heap.size+1=c:=(by omega);have hkb:(((k:Int)) != 1)=true:=(by simp;omega)))
  refine bodyPost_ret (v:=.tuple #[OV k zeroV ⟨none,0⟩ 0,.int .i64 0]) (by first|(simp [results,Tryz.f33,go_sem,OV,zeroV];done)|(simp [results,Tryz.f33,go_sem,OV,zeroV, *];done)) rfl ?_
  exact ⟨But.r,rfl⟩
set_option maxRecDepth 100000 in
set_option maxHeartbeats 4000000 in
theorem r22Run_any (t:GT) (s:ByteArray) (w:World) (A:Nat→Prop) (m:TA) (ox:okT t) (hs:sizeT t≤1048576) (hl:RT w A t m) (hss:s.size≤9223372036854775807):
  Calls Tryz.prog 20 #[TV t m,.string s] w (RunR t s w):=by
 obtain ⟨ma,mb,mc,md,me,mf,mg,mh,mi,mj,mk,ml⟩:=m
 have HL:=hid hl
 have OX:=hid ox
 by_cases hE:(checkTE t).2=0
 case neg=>
  have hr:runE t s=(checkTE t).2:=by unfold runE;rw [if_pos hE]
  have HRE:=hid hr
  have hE':((checkTE t).2 != 0)=true:=by simp [hE]
  have HNE:=hid hE
  clear hl ox hr hE
  go_enter Tryz.func20,Tryz.ntmps20
  go_wp2_with (go_at_call 31;refine (r19CheckE_any t _ A ⟨ma,mb,mc,md,me,mf,mg,mh,mi,mj,mk,ml⟩ OX.out hs (by exact RT.ext (Agree.below Below.r) _ _ HL.out)).mono ?_;rintro e w1 ⟨rfl,hb1⟩;obtain ⟨hc1,hf1⟩:=bcells hb1;have hz1:=hb1.size;(try simp at hz1);have y1:w.heap.size+1 < w1.heap.size:=(by omega))
  refine bodyPost_ret (v:=.tuple #[OV 0 zeroV ⟨none,0⟩ 0,.int .i64 (checkTE t).2]) (by first|(simp [results,Tryz.f20,go_sem,OV,zeroV];done)|(simp [results,Tryz.f20,go_sem,OV,zeroV, *];done)) rfl ?_
  exact RunR.err HRE.out HNE.out Below.r
 have hE':((checkTE t).2 != 0)=false:=by simp [hE]
 cases hB:isBits s
 ·have hr:runE t s=3:=by unfold runE;rw [if_neg (by simp [hE]),hB];rfl
  have HRE:=hid hr
  have HB:=hid hB
  clear hl ox hr hE hB
  go_enter Tryz.func20,Tryz.ntmps20
  go_wp2_with (first
   | (go_at_call 31;refine (r19CheckE_any t _ A ⟨ma,mb,mc,md,me,mf,mg,mh,mi,mj,mk,ml⟩ OX.out hs (by exact RT.ext (Agree.below Below.r) _ _ HL.out)).mono ?_;rintro e w1 ⟨rfl,hb1⟩;obtain ⟨hc1,hf1⟩:=bcells hb1;have hz1:=hb1.size;(try simp at hz1);have y1:w.heap.size+1 < w1.heap.size:=(by omega))
   | (go_at_call 32;refine (r08New_any s _ hss).mono ?_;rintro e w2 ⟨hb2,⟨h1,_⟩|⟨_,rfl⟩⟩;exact absurd (HB.out.symm.trans h1) (by decide);obtain ⟨hc2,hf2⟩:=bcells hb2;have hz2:=hb2.size;have y2:w.heap.size+1 < w2.heap.size:=(by omega)))
  refine bodyPost_ret (v:=.tuple #[OV 0 zeroV ⟨none,0⟩ 0,.int .i64 3]) (by first|(simp [results,Tryz.f20,go_sem,OV,zeroV];done)|(simp [results,Tryz.f20,go_sem,OV,zeroV, *];done)) rfl ?_
  exact RunR.err HRE.out (by decide) Below.r
 ·have hr:runE t s=0:=by unfold runE;rw [if_neg (by simp [hE]),if_pos hB]
  have h1024:s.size≤1048576:=by
   have h2:=hB
   unfold isBits at h2
   rw [Bool.and_eq_true] at h2
   have:=of_decide_eq_true h2.1
   omega
  have hin:=runT_in (t:=t) (s:=s) hr ox
  have HIN:=hid (show (sampT s 4098 t [] 0).In okV 0 s.size from hin)
  have HB:=hid hB
  have HRE:=hid hr
  have HE:=hid hE
  clear hl ox hr hE hB hin
  rcases hN:sampT s 4098 t [] 0 with ⟨v,j⟩|⟨k⟩
  all_goals have HN:=hid hN
  all_goals clear hN
  ·go_enter Tryz.func20,Tryz.ntmps20
   go_wp2_with (first
    | (go_at_call 31;refine (r19CheckE_any t _ A ⟨ma,mb,mc,md,me,mf,mg,mh,mi,mj,mk,ml⟩ OX.out hs (by exact RT.ext (Agree.below Below.r) _ _ HL.out)).mono ?_;rintro e w1 ⟨rfl,hb1⟩;obtain ⟨hc1,hf1⟩:=bcells hb1;have hz1:=hb1.size;(try simp at hz1);have y0:w.heap.size < w1.heap.size:=(by omega);have y1:w.heap.size+1 < w1.heap.size:=(by omega))
    | (go_at_call 32;refine (r08New_any s _ hss).mono ?_;rintro e w2 ⟨hb2,⟨_,c,hcl,hcs,rfl,hcu⟩|⟨h1,_⟩⟩;rotate_left;exact absurd (HB.out.symm.trans h1) (by decide);obtain ⟨hc2,hf2⟩:=bcells hb2;have HCU:=hid hcu;clear hcu;have hz2:=hb2.size;have y2:w.heap.size+1 < w2.heap.size:=(by omega);have y3:¬w.heap.size+1=c:=(by omega);have hbw2:Below w.heap.size w w2:=Below.r;have HRT:=hid (RT.mono (A':=fun b=>b≠c) (fun b hb _=>(by omega)) _ _ (RT.ext (Agree.below hbw2) _ _ (RT.mono (A':=fun b=>b < w.heap.size) (fun b _ h=>h) _ _ HL.out))))
    | (go_at_call 33;refine (r22From_any c s t _ ⟨ma,mb,mc,md,me,mf,mg,mh,mi,mj,mk,ml⟩ HB.out h1024 HE.out OX.out hs HIN.out (by exact HCU.out) (by exact HRT.out)).mono ?_;rw [HN.out];rintro e w3 ⟨hb3,m,he,hrv⟩;have he2:e=.returned (.tuple #[.agg #[.int .u8 1,.int .u8 v.k,.int .i64 v.n,.slice m.a v.l.length m.c,.int .i64 j],.int .i64 0]):=he;subst he2;clear he;have HRV:=hid hrv;clear hrv;have hz3:=hb3.size;obtain ⟨hc3,hf3⟩:=ccells hb3;have y4:w.heap.size+1 < w3.heap.size:=(by omega);have hbw3:Below w.heap.size w w3:=hbw2.trans ((hb3.mono (B':=w.heap.size) (by omega)).below (by omega))))
   refine bodyPost_ret (v:=.tuple #[OV 1 v m j,.int .i64 0]) (by first|(simp [results,Tryz.f20,go_sem,OV];done)|(simp [results,Tryz.f20,go_sem,OV, *];done)) rfl ?_
   exact RunR.ok (m:=m) HRE.out HN.out Below.r (RV.mono (fun b hb _=>by omega) _ _ (RV.ext (A:=fun b=>w2.heap.size≤b) (fun p v hA hc=>Agree.but (c:=w.heap.size+1) But.r p v (by omega) hc) _ _ HRV.out))
  ·go_enter Tryz.func20,Tryz.ntmps20
   go_wp2_with (first
    | (go_at_call 31;refine (r19CheckE_any t _ A ⟨ma,mb,mc,md,me,mf,mg,mh,mi,mj,mk,ml⟩ OX.out hs (by exact RT.ext (Agree.below Below.r) _ _ HL.out)).mono ?_;rintro e w1 ⟨rfl,hb1⟩;obtain ⟨hc1,hf1⟩:=bcells hb1;have hz1:=hb1.size;(try simp at hz1);have y0:w.heap.size < w1.heap.size:=(by omega);have y1:w.heap.size+1 < w1.heap.size:=(by omega))
    | (go_at_call 32;refine (r08New_any s _ hss).mono ?_;rintro e w2 ⟨hb2,⟨_,c,hcl,hcs,rfl,hcu⟩|⟨h1,_⟩⟩;rotate_left;exact absurd (HB.out.symm.trans h1) (by decide);obtain ⟨hc2,hf2⟩:=bcells hb2;have HCU:=hid hcu;clear hcu;have hz2:=hb2.size;have y2:w.heap.size+1 < w2.heap.size:=(by omega);have y3:¬w.heap.size+1=c:=(by omega);have hbw2:Below w.heap.size w w2:=Below.r;have HRT:=hid (RT.mono (A':=fun b=>b≠c) (fun b hb _=>(by omega)) _ _ (RT.ext (Agree.below hbw2) _ _ (RT.mono (A':=fun b=>b < w.heap.size) (fun b _ h=>h) _ _ HL.out))))
    | (go_at_call 33;refine (r22From_any c s t _ ⟨ma,mb,mc,md,me,mf,mg,mh,mi,mj,mk,ml⟩ HB.out h1024 HE.out OX.out hs HIN.out (by exact HCU.out) (by exact HRT.out)).mono ?_;rw [HN.out];rintro e w3 ⟨hb3,he⟩;have he2:e=.returned (.tuple #[.agg #[.int .u8 k,.int .u8 0,.int .i64 0,.slice none 0 0,.int .i64 0],.int .i64 0]):=he;subst he2;clear he;have hz3:=hb3.size;obtain ⟨hc3,hf3⟩:=ccells hb3;have y4:w.heap.size+1 < w3.heap.size:=(by omega);have hbw3:Below w.heap.size w w3:=hbw2.trans ((hb3.mono (B':=w.heap.size) (by omega)).below (by omega))))
   refine bodyPost_ret (v:=.tuple #[OV k zeroV ⟨none,0⟩ 0,.int .i64 0]) (by first|(simp [results,Tryz.f20,go_sem,OV,zeroV];done)|(simp [results,Tryz.f20,go_sem,OV,zeroV, *];done)) rfl ?_
   exact RunR.no HRE.out HN.out Below.r
theorem r22run_ok (t:GT) (s:ByteArray) (w:World) (A:Nat→Prop) (m:TA) (ox:okT t) (hs:sizeT t≤1048576) (hl:RT w A t m) (hss:s.size≤9223372036854775807) (hE:runE t s=0) (v:GV) (j:Nat) (hr:runT s t=.ok v j):
  Calls Tryz.prog 20 #[TV t m,.string s] w fun e w'=>Below w.heap.size w w'∧∃m:VA,e=.returned (.tuple #[.agg #[.int .u8 1,.int .u8 v.k,.int .i64 v.n,.slice m.a v.l.length m.c,.int .i64 j],.int .i64 0])∧RV w' (fun b=>w.heap.size≤b) v m.a:=
 (r22Run_any t s w A m ox hs hl hss).mono fun e w' h=>by
  obtain ⟨hb,h⟩:=h
  rw [hE,hr] at h
  unfold RunV at h
  rw [if_neg (by simp)] at h
  exact ⟨hb,h⟩
theorem r22run_no (t:GT) (s:ByteArray) (w:World) (A:Nat→Prop) (m:TA) (ox:okT t) (hs:sizeT t≤1048576) (hl:RT w A t m) (hss:s.size≤9223372036854775807) (hE:runE t s=0) (k:Nat) (hr:runT s t=.no k):
  Calls Tryz.prog 20 #[TV t m,.string s] w fun e w'=>Below w.heap.size w w'∧e=.returned (.tuple #[.agg #[.int .u8 k,.int .u8 0,.int .i64 0,.slice none 0 0,.int .i64 0],.int .i64 0]):=
 (r22Run_any t s w A m ox hs hl hss).mono fun e w' h=>by
  obtain ⟨hb,h⟩:=h
  rw [hE,hr] at h
  unfold RunV at h
  rw [if_neg (by simp)] at h
  exact ⟨hb,h⟩
theorem r22run_err (t:GT) (s:ByteArray) (w:World) (A:Nat→Prop) (m:TA) (ox:okT t) (hs:sizeT t≤1048576) (hl:RT w A t m) (hss:s.size≤9223372036854775807):
  Calls Tryz.prog 20 #[TV t m,.string s] w fun e w'=>Below w.heap.size w w'∧∃(k:Int) (v:GV) (m:VA) (n:Int),e=.returned (.tuple #[.agg #[.int .u8 k,.int .u8 v.k,.int .i64 v.n,.slice m.a v.l.length m.c,.int .i64 n],.int .i64 (runE t s)]):=
 (r22Run_any t s w A m ox hs hl hss).mono fun e w' h=>by
  obtain ⟨hb,h⟩:=h
  refine ⟨hb,?_⟩
  unfold RunV at h
  split at h
  ·exact ⟨0,zeroV,⟨none,0⟩,0,h⟩
  ·rename_i h0
   have h0:runE t s=0:=by simpa using h0
   rw [h0]
   split at h
   ·obtain ⟨m,h,_⟩:=h
    exact ⟨1,_,m,_,h⟩
   ·exact ⟨_,zeroV,⟨none,0⟩,0,h⟩
set_option maxRecDepth 100000 in
set_option maxHeartbeats 2000000 in
theorem r29Wrong_any (t:GT) (p:GP) (s:ByteArray) (n:Int) (w:World) (A A2:Nat→Prop) (m:TA) (mp:PA) (ox:okT t) (hs:sizeT t≤1048576) (hl:RT w A t m) (op:okP p) (hp:sizeP p≤1099511627776) (hr:RP w A2 p mp) (hss:s.size≤9223372036854775807):
  Calls Tryz.prog 19 #[TV t m,PV p mp,.string s,.int .i64 n] w fun e w'=>e=.returned (.int .i64 (cutE t p s n))∧Below w.heap.size w w':=by
 obtain ⟨ma,mb,mc,md,me,mf,mg,mh,mi,mj,mk,ml⟩:=m
 obtain ⟨na,nb,nc,nd⟩:=mp
 have HL:=hid hl
 have HR:=hid hr
 have OX:=hid ox
 have OP:=hid op
 clear hl hr ox op
 have hF:cutE t p s n=if runE t s≠0 then runE t s else if (checkPE p).2≠0 then (checkPE p).2 else if n < 0∨1000 < n then 1 else 0:=rfl
 rw [hF]
 clear hF
 by_cases h1:runE t s=0
 case neg=>
  rw [if_pos h1]
  have h1':(runE t s != 0)=true:=by simp [h1]
  clear h1
  go_enter Tryz.func19,Tryz.ntmps19
  go_wp2_with (go_at_call 20;refine (r22run_err t s _ A ⟨ma,mb,mc,md,me,mf,mg,mh,mi,mj,mk,ml⟩ OX.out hs (by exact RT.ext (Agree.below Below.r) _ _ HL.out) hss).mono ?_;rintro e w1 ⟨hb1,k,v,m,n1,rfl⟩;have hz1:=hb1.size;(try simp at hz1))
  go_ret
  exact ⟨rfl,Below.r⟩
 have h1':(runE t s != 0)=false:=by simp [h1]
 rw [if_neg (by simp [h1])]
 clear h1
 by_cases h2:(checkPE p).2=0
 case neg=>
  rw [if_pos h2]
  have h2':((checkPE p).2 != 0)=true:=by simp [h2]
  clear h2
  go_enter Tryz.func19,Tryz.ntmps19
  go_wp2_with (first
   | (go_at_call 20;refine (r22run_err t s _ A ⟨ma,mb,mc,md,me,mf,mg,mh,mi,mj,mk,ml⟩ OX.out hs (by exact RT.ext (Agree.below Below.r) _ _ HL.out) hss).mono ?_;rintro e w1 ⟨hb1,k,v,m,n1,rfl⟩;have hz1:=hb1.size;(try simp at hz1);obtain ⟨hc1,hf1⟩:=bcells hb1;have y0:w.heap.size+1 < w1.heap.size:=(by omega))
   | (go_at_call 30;refine (r17checkE_any p _ A2 ⟨na,nb,nc,nd⟩ OP.out hp (by exact RP.ext (Agree.below Below.r) _ _ HR.out)).mono ?_;rintro e w2 ⟨rfl,hb2⟩))
  go_ret
  exact ⟨rfl,Below.r⟩
 have h2':((checkPE p).2 != 0)=false:=by simp [h2]
 rw [if_neg (by simp [h2])]
 clear h2
 generalize hF:(if n < 0∨1000 < n then (1:Int) else 0)=F
 have HF:=hid hF
 clear hF
 go_enter Tryz.func19,Tryz.ntmps19
 go_wp2_with (first
  | (go_at_call 20;refine (r22run_err t s _ A ⟨ma,mb,mc,md,me,mf,mg,mh,mi,mj,mk,ml⟩ OX.out hs (by exact RT.ext (Agree.below Below.r) _ _ HL.out) hss).mono ?_;rintro e w1 ⟨hb1,k,v,m,n1,rfl⟩;have hz1:=hb1.size;(try simp at hz1);obtain ⟨hc1,hf1⟩:=bcells hb1;have y0:w.heap.size+1 < w1.heap.size:=(by omega))
  | (go_at_call 30;refine (r17checkE_any p _ A2 ⟨na,nb,nc,nd⟩ OP.out hp (by exact RP.ext (Agree.below Below.r) _ _ HR.out)).mono ?_;rintro e w2 ⟨rfl,hb2⟩))
 all_goals go_ret
 all_goals refine ⟨ret_int ?_,Below.r⟩
 all_goals rw [←HF.out]
 all_goals (first|rfl|omega|((try simp only [beq_iff_eq,beq_eq_false_iff_ne,bne_iff_ne,bne_eq_false_iff_eq,decide_eq_true_eq,decide_eq_false_iff_not,ne_eq,Bool.and_eq_true,Bool.or_eq_true,Bool.and_eq_false_iff,Bool.or_eq_false_iff,Bool.not_eq_true',Bool.not_eq_false'] at *);(repeat' split)<;>first|rfl|omega|contradiction|(simp_all;done)|(simp_all;omega)))
theorem owns_form {w:World} {base e size n:Nat} {v:Value} {xs:List Value} (h:w.ownsRow base e size v n xs):∃a c,v=.slice a n c:=by
 rcases h.2 with ⟨h1,h2⟩|⟨g,cap,cur,h1,_⟩
 ·exact ⟨none,0,by rw [h1,h2]⟩
 ·exact ⟨_,cap,h1⟩
set_option maxRecDepth 100000 in
set_option maxHeartbeats 2000000 in
theorem r29cut_err (t:GT) (p:GP) (s:ByteArray) (n:Int) (w:World) (A A2:Nat→Prop) (m:TA) (mp:PA) (ox:okT t) (hs:sizeT t≤1048576) (hl:RT w A t m) (op:okP p) (hp:sizeP p≤1099511627776) (hr:RP w A2 p mp) (hss:s.size≤9223372036854775807) (hE:cutE t p s n≠0):
  Calls Tryz.prog 6 #[TV t m,PV p mp,.string s,.int .i64 n] w fun e w'=>e=.returned (.tuple #[.slice none 0 0,.int .u8 0,.int .i64 (cutE t p s n)])∧Below w.heap.size w w':=by
 obtain ⟨ma,mb,mc,md,me,mf,mg,mh,mi,mj,mk,ml⟩:=m
 obtain ⟨na,nb,nc,nd⟩:=mp
 have HL:=hid hl
 have HR:=hid hr
 have OX:=hid ox
 have OP:=hid op
 have h1:(cutE t p s n != 0)=true:=by simp [hE]
 clear hl hr ox op hE
 go_enter Tryz.func6,Tryz.ntmps6
 go_wp2_with (go_at_call 19;refine (r29Wrong_any t p s n _ A A2 ⟨ma,mb,mc,md,me,mf,mg,mh,mi,mj,mk,ml⟩ ⟨na,nb,nc,nd⟩ OX.out hs (by exact RT.ext (Agree.below Below.r) _ _ HL.out) OP.out hp (by exact RP.ext (Agree.below Below.r) _ _ HR.out) hss).mono ?_;rintro e w1 ⟨rfl,hb1⟩)
 refine bodyPost_ret (v:=.tuple #[.slice none 0 0,.int .u8 0,.int .i64 (cutE t p s n)]) (by simp [results,Tryz.f6,go_sem]) rfl ?_
 exact ⟨rfl,Below.r⟩
theorem r29wrong_zero (t:GT) (p:GP) (s:ByteArray) (n:Int) (w:World) (A A2:Nat→Prop) (m:TA) (mp:PA) (ox:okT t) (hs:sizeT t≤1048576) (hl:RT w A t m) (op:okP p) (hp:sizeP p≤1099511627776) (hr:RP w A2 p mp) (hss:s.size≤9223372036854775807) (hE:cutE t p s n=0):
  Calls Tryz.prog 19 #[TV t m,PV p mp,.string s,.int .i64 n] w fun e w'=>e=.returned (.int .i64 0)∧Below w.heap.size w w':=by
 rw [←hE]
 exact r29Wrong_any t p s n w A A2 m mp ox hs hl op hp hr hss
set_option maxRecDepth 100000 in
set_option maxHeartbeats 16000000 in
theorem r29cut_okx (t:GT) (p:GP) (s:ByteArray) (N:Nat) (w:World) (A A2:Nat→Prop) (m:TA) (mp:PA) (ox:okT t) (hs:sizeT t≤1048576) (hl:RT w A t m) (op:okP p) (hp:sizeP p≤1099511627776) (hr:RP w A2 p mp) (hE:cutE t p s N=0):
  Calls Tryz.prog 6 #[TV t m,PV p mp,.string s,.int .i64 N] w fun e w'=>Below w.heap.size w w'∧CutX (cutT s t p N 0) w e w':=by
 obtain ⟨ma,mb,mc,md,me,mf,mg,mh,mi,mj,mk,ml⟩:=m
 obtain ⟨na,nb,nc,nd⟩:=mp
 have HL:=hid hl
 have HR:=hid hr
 have OX:=hid ox
 have OP:=hid op
 have HCE:=hid hE
 obtain ⟨hRE,hPE,hN⟩:runE t s=0∧(checkPE p).2=0∧N≤1000:=by
  unfold cutE at hE
  split at hE
  ·omega
  ·split at hE
   ·omega
   ·split at hE
    ·omega
    ·refine ⟨by omega,by omega,by omega⟩
 have hmay:mayP p=true:=by unfold mayP;simp [hPE]
 have hbits:isBits s=true:=by
  unfold runE at hRE
  split at hRE
  ·omega
  ·split at hRE
   ·assumption
   ·omega
 have h1024:s.size≤1024:=by
  unfold isBits at hbits
  rw [Bool.and_eq_true] at hbits
  exact of_decide_eq_true hbits.1
 have HMAY:=hid hmay
 have HRE:=hid hRE
 have hss:s.size≤9223372036854775807:=by omega
 obtain ⟨i0,hi0,y0,y1,y2⟩:=info_parts infoRefTr
 generalize hR0:cutT s t p N 0=R
 have HR0:=hid hR0
 clear hl hr ox op hE hRE hPE hmay hbits hR0
 go_enter Tryz.func6,Tryz.ntmps6
 go_wp2_with (go_at_call 19;refine (r29wrong_zero t p s N _ A A2 ⟨ma,mb,mc,md,me,mf,mg,mh,mi,mj,mk,ml⟩ ⟨na,nb,nc,nd⟩ OX.out hs (by exact RT.ext (Agree.below Below.r) _ _ HL.out) OP.out hp (by exact RP.ext (Agree.below Below.r) _ _ HR.out) hss HCE.out).mono ?_;rintro e w1 ⟨rfl,hb1⟩)
 have hz1:=hb1.size
 simp at hz1
 have hbw1:Below w.heap.size w w1:=Below.r
 have HBT:Hid (At w1 w.heap.size 0 [.int .u8 t.k,.int .u8 t.v.k,.int .i64 t.v.n,.slice ma t.v.l.length mb,.slice mc t.vs.length md,.int .i64 t.lo,.int .i64 t.hi,.slice me t.w.length mf,.int .u8 t.p.k,.int .u8 t.p.v.k,.int .i64 t.p.v.n,.slice mg t.p.v.l.length mh,.int .i64 t.p.n,.slice mi t.p.a.length mj,.slice mk t.a.length ml]):=hid (At15z.2 ⟨(hb1.cell so).trans (by go_simp),(hb1.cell so).trans (by go_simp),(hb1.cell so).trans (by go_simp),(hb1.cell so).trans (by go_simp),(hb1.cell so).trans (by go_simp),(hb1.cell so).trans (by go_simp),(hb1.cell so).trans (by go_simp),(hb1.cell so).trans (by go_simp),(hb1.cell so).trans (by go_simp),(hb1.cell so).trans (by go_simp),(hb1.cell so).trans (by go_simp),(hb1.cell so).trans (by go_simp),(hb1.cell so).trans (by go_simp),(hb1.cell so).trans (by go_simp),(hb1.cell so).trans (by go_simp)⟩)
 have HBP:Hid (At w1 (w.heap.size+1) 0 [.int .u8 p.k,.int .u8 p.v.k,.int .i64 p.v.n,.slice na p.v.l.length nb,.int .i64 p.n,.slice nc p.a.length nd]):=hid (At6z.2 ⟨(hb1.cell so).trans (by go_simp),(hb1.cell so).trans (by go_simp),(hb1.cell so).trans (by go_simp),(hb1.cell so).trans (by go_simp),(hb1.cell so).trans (by go_simp),(hb1.cell so).trans (by go_simp)⟩)
 go_loopg [12,13] N (fun gk t8 t12 wr=>∃(j i:Nat) (ps:List (GR×VA)) (v:Value),v=t8∧gk+j=N∧t12=.int .i64 i∧i≤s.size∧Below w1.heap.size w1 wr∧Hid (ps.length=j)∧Hid ((ps.map Prod.fst++(cutT s t p (N - j) i).1,(cutT s t p (N - j) i).2)=R) ∧
  Hid (wr.ownsRow w1.heap.size 51 5 v j (flatR ps))∧Hid (∀q∈ps,RV wr (Own w1.heap.size (fun _=>False) v) q.1.v q.2.a))
 case atStart=>exact ⟨0,0,[],_,rfl,by omega,rfl,by omega,Below.refl _ _,hid rfl,hid (by simpa using HR0.out),hid (World.ownsRow_nil _ _ _ _),hid (fun q hq=>by simp at hq)⟩
 case round=>
  obtain ⟨j,i,ps,v,rfl,hj,rfl,hi,hbr,HPL,HP,HO,HQ⟩:=hrel
  obtain ⟨va,vcp,hvf⟩:=owns_form HO.out
  subst hvf
  have hzr:=hbr.size
  have hbw:Below w.heap.size w wr:=hbw1.trans (hbr.mono (by omega))
  by_cases hlt:j < N
  ·have hjN:((j:Int)==(N:Int))=false:=beq_eq_false_iff_ne.2 (by omega)
   have hst:=HP.out
   rw [show N - j=(N - (j+1))+1 by omega,cutT_step] at hst
   have hre:=runE_sub HRE.out i hi
   have hin:=runT_in (s:=subS s i) hre OX.out
   have hsz:=subS_size s i hi
   have HRS:=hid hre
   have hs9:(subS s i).size≤9223372036854775807:=by omega
   have hiI:(i:Int)≤(s.size:Int):=by omega
   have QT:=hid (RT.ext (Agree.below hbw) _ _ HL.out)
   have HOK:=hid (show ∀k,(Value.slice va j vcp).ownBlock=some k→k < wr.heap.size from fun k hk=>(HO.out.lt _ hk).2)
   have hownk:∀k,(Value.slice va j vcp).ownBlock=some k→w1.heap.size≤k:=fun k hk=>(HO.out.lt _ hk).1
   have HOWN:=hid hownk
   obtain ⟨c0,c1,c2,c3,c4,c5,c6,c7,c8,c9,ca,cb,cc,cd,ce⟩:=At15z.1 (At.ext (Agree.below hbr) (A:=fun _=>True) trivial _ _ HBT.out)
   have u0:w.heap.size < wr.heap.size:=by omega
   have u1:w.heap.size+1 < wr.heap.size:=by omega
   clear hre hownk
   rcases hW:runT (subS s i) t with ⟨x,u⟩|⟨k⟩
   ·rw [hW] at hst hin
    obtain ⟨_,hu,hokx⟩:=hin
    have hu2:i+u≤s.size:=by omega
    have OKX:=hid hokx
    have HW:=hid hW
    have wiu:IntKind.i64.wrap ((i:Int)+(u:Int))=(i:Int)+(u:Int):=IntWalk.i64_in _ (by omega)
    clear hW hokx hsz hu
    dsimp only at hst
    cases hHv:holdsP p x
    ·have HH:=hid hHv
     rw [hHv,if_neg (by simp)] at hst
     have HST:=hid hst
     clear hst hHv
     go_wp2_with fail
     go_region_held3 (fun W=>∀k,W.cell? ⟨w.heap.size,k,none⟩=wr.cell? ⟨w.heap.size,k,none⟩) ((intro k;refine Below.cell (B:=wr.heap.size) (w:=wr) (p:=⟨w.heap.size,k,none⟩) ?_ u0;((repeat (first|with_reducible exact Below.refl _ _|with_reducible assumption|with_reducible refine Below.trans ?_ (Below.mono (by with_reducible assumption) (by first|omega|(simp;done)|(simp;omega)))|with_reducible refine Below.drew ?_|with_reducible refine Below.alloc ?_ (by first|omega|(simp;done)|(simp;omega)) _|with_reducible refine Below.setCell ?_ (by first|omega|(simp;done)|(simp;omega)) _));done))) ((go_at_call 20;refine (r22run_ok t (subS s i) _ A ⟨ma,mb,mc,md,me,mf,mg,mh,mi,mj,mk,ml⟩ OX.out hs (by exact RT.ext (A:=A) (Agree.below Below.r) _ _ QT.out) hs9 HRS.out x u HW.out).mono ?_;rintro e w2 ⟨hb2,mv,rfl,hrv⟩;have HRV:=hid hrv;clear hrv;have hz2:=hb2.size;(try simp at hz2);have hbr2:Below wr.heap.size wr w2:=Below.r;have v0:w.heap.size < w2.heap.size:=(by omega);have v1:w.heap.size+1 < w2.heap.size:=(by omega);have v2:wr.heap.size≤w2.heap.size:=(by omega);(try (have y5':wr.heap.size < w2.heap.size:=(by omega);have q0:w2.cell? ⟨wr.heap.size,0,none⟩=some (.int .u8 0):=(hb2.cell (by simp)).trans (by go_simp);have q1:w2.cell? ⟨wr.heap.size,1,none⟩=some (.int .u8 0):=(hb2.cell (by simp)).trans (by go_simp);have q2:w2.cell? ⟨wr.heap.size,2,none⟩=some (.int .i64 0):=(hb2.cell (by simp)).trans (by go_simp);have q3:w2.cell? ⟨wr.heap.size,3,none⟩=some (.slice none 0 0):=(hb2.cell (by simp)).trans (by go_simp);have q4:w2.cell? ⟨wr.heap.size,4,none⟩=some (.int .i64 0):=(hb2.cell (by simp)).trans (by go_simp);have qf:∀k,w2.frozen? ⟨wr.heap.size,k,none⟩=false:=fun k=>(hb2.frozen (by simp)).trans (by go_simp)))))
     ·go_wp2_with (first|(at_builtin;refine wpList_append_lies _ rfl _ _ 34 rfl w1.heap.size 51 i0 _ 5 56 Tryz.underlying34 hi0 y0 y1 y2 rfl (by decide) _ j _ (by rfl) ((owns_below HO.out (B:=wr.heap.size) (by exact Below.r) HOK.out).alloc _) ⟨w2.heap.size+1,0,none⟩ 1 1 [.int .i64 i,.int .i64 (i+u),.int .u8 x.k,.int .i64 x.n,.slice mv.a x.l.length mv.c] (by rfl) rfl (cells_at5 (by simp) _ _ _ _ _ _) (by simp [Value.oneCell']) (by decide) (by unfold maxLen;omega) (by omega) (by simp;omega) (w2.heap.size+1+1) (by simp) ?_;intro g cap w4 hown hgrow hat hlt1;have hbg:Below w1.heap.size w1 w4:=Below.grown (by exact Below.r) hgrow (by simp;omega) HOWN.out;have hag:Agree (fun b=>b=w2.heap.size) _ w4:=Agree.grown hgrow (fun b hb e=>(by have h8:b=w2.heap.size:=hb;have h9:=HOK.out _ e.symm;omega));have x0:w4.cell? ⟨w2.heap.size,0,none⟩=some (.int .u8 1):=(hag ⟨w2.heap.size,0,none⟩ _ rfl (by go_simp)).1;have x1:w4.cell? ⟨w2.heap.size,1,none⟩=some (.int .u8 x.k):=(hag ⟨w2.heap.size,1,none⟩ _ rfl (by go_simp)).1;have x2:w4.cell? ⟨w2.heap.size,2,none⟩=some (.int .i64 x.n):=(hag ⟨w2.heap.size,2,none⟩ _ rfl (by go_simp)).1;have x3:w4.cell? ⟨w2.heap.size,3,none⟩=some (.slice mv.a x.l.length mv.c):=(hag ⟨w2.heap.size,3,none⟩ _ rfl (by go_simp)).1;have x4:w4.cell? ⟨w2.heap.size,4,none⟩=some (.int .i64 u):=(hag ⟨w2.heap.size,4,none⟩ _ rfl (by go_simp)).1;obtain ⟨g0,g1,g2,g3,g4,g5⟩:=At6z.1 (At.ext (Agree.below hbg) (A:=fun _=>True) trivial _ _ HBP.out);have hz4:=hbg.size;have hbw4:Below w.heap.size w w4:=hbw1.trans (hbg.mono (by omega));have hrx:RV w4 (Own w1.heap.size (fun _=>False) (.slice (some ⟨g,0,none⟩) (j+1) cap)) x mv.a:=RV.own hgrow HOWN.out hat (by simp) (RV.mono (fun b hb _=>(Or.inr ⟨(by omega),fun e=>(by have h9:=HOK.out _ e;omega)⟩)) _ _ (RV.ext (A:=fun b=>wr.heap.size≤b) (Agree.below Below.r) _ _ (RV.mono (fun b hb _=>(by simpa using hb)) _ _ HRV.out)));have hqx:∀q∈ps,RV w4 (Own w1.heap.size (fun _=>False) (.slice (some ⟨g,0,none⟩) (j+1) cap)) q.1.v q.2.a:=fun q hq=>RV.own hgrow HOWN.out hat (by simp) (RV.ext (Agree.below (Below.mono (B:=wr.heap.size) Below.r (Nat.le_refl _))) _ _ (HQ.out q hq));have HRX:=hid hrx;have HQX:=hid hqx;have HOX:=hid hown;clear hrx hqx hown)|(go_at_call 21;refine (r17Holds_at p x false HH.out A2 (Own w1.heap.size (fun _=>False) (.slice (some ⟨g,0,none⟩) (j+1) cap)) ⟨na,nb,nc,nd⟩ mv _ OP.out hp (by exact RP.ext (Agree.below hbw4) _ _ HR.out) OKX.out (by exact HRX.out) HMAY.out).mono ?_;rintro e6 w6 ⟨rfl,hb6⟩))
      have hz6:=hb6.size
      have hown6:w6.ownsRow w1.heap.size 51 5 (.slice (some ⟨g,0,none⟩) (j+1) cap) (j+1) (flatR (ps++[(⟨(i:Int),((i+u:Nat):Int),x⟩,mv)])):=by
       rw [flatR_append,show ((i+u:Nat):Int)=(i:Int)+(u:Int) from Int.natCast_add i u]
       exact owns_below HOX.out hb6 (fun k hk=>by cases hk;exact hlt1)
      have hq6:∀q∈ps++[((⟨(i:Int),((i+u:Nat):Int),x⟩:GR),mv)],RV w6 (Own w1.heap.size (fun _=>False) (.slice (some ⟨g,0,none⟩) (j+1) cap)) q.1.v q.2.a:=by
       intro q hq
       rcases List.mem_append.1 hq with hq|hq
       ·exact RV.ext (Agree.below hb6) _ _ (HQX.out q hq)
       ·simp at hq
        subst hq
        exact RV.ext (Agree.below hb6) _ _ HRX.out
      have hE2:=RRx_of_row (A:=fun b=>w1.heap.size≤b) hown6 (fun b h=>h) (fun q hq=>RV.mono (fun b hb _=>by rcases hb with ⟨h,_⟩|⟨h,h2⟩;exact absurd h id;exact ⟨h,h2⟩) _ _ (hq6 q hq))
      obtain ⟨av,cv,hav,hrd⟩:=hE2
      refine bodyPost_ret (v:=.tuple #[.slice (some ⟨g,0,none⟩) (j+1) cap,.int .u8 1,.int .i64 0]) (by simp [results,Tryz.f6,go_sem]) rfl ?_
      have hst2:((ps++[((⟨(i:Int),((i+u:Nat):Int),x⟩:GR),mv)]).map Prod.fst,(1:Int))=R:=by rw [←HST.out];simp
      rw [←hst2]
      exact ⟨hbw4.trans (hb6.mono (by omega)),av,cv,by rw [hav],RRx.mono (fun b hb _=>by omega) _ _ hrd⟩
     ·go_wp2_with (first|(at_builtin;refine wpList_append_lies _ rfl _ _ 34 rfl w1.heap.size 51 i0 _ 5 56 Tryz.underlying34 hi0 y0 y1 y2 rfl (by decide) _ j _ (by rfl) ((owns_below HO.out (B:=wr.heap.size) (by exact Below.r) HOK.out).alloc _) ⟨w2.heap.size,0,none⟩ 1 1 [.int .i64 i,.int .i64 (i+u),.int .u8 x.k,.int .i64 x.n,.slice mv.a x.l.length mv.c] (by rfl) rfl (cells_at5 (by simp) _ _ _ _ _ _) (by simp [Value.oneCell']) (by decide) (by unfold maxLen;omega) (by omega) (by simp;omega) (w2.heap.size+1) (by simp) ?_;intro g cap w4 hown hgrow hat hlt1;have hbg:Below w1.heap.size w1 w4:=Below.grown (by exact Below.r) hgrow (by simp;omega) HOWN.out;have hag:Agree (fun b=>b=wr.heap.size) _ w4:=Agree.grown hgrow (fun b hb e=>(by have h8:b=wr.heap.size:=hb;have h9:=HOK.out _ e.symm;omega));have x0:w4.cell? ⟨wr.heap.size,0,none⟩=some (.int .u8 1):=(hag ⟨wr.heap.size,0,none⟩ _ rfl (by go_simp)).1;have x1:w4.cell? ⟨wr.heap.size,1,none⟩=some (.int .u8 x.k):=(hag ⟨wr.heap.size,1,none⟩ _ rfl (by go_simp)).1;have x2:w4.cell? ⟨wr.heap.size,2,none⟩=some (.int .i64 x.n):=(hag ⟨wr.heap.size,2,none⟩ _ rfl (by go_simp)).1;have x3:w4.cell? ⟨wr.heap.size,3,none⟩=some (.slice mv.a x.l.length mv.c):=(hag ⟨wr.heap.size,3,none⟩ _ rfl (by go_simp)).1;have x4:w4.cell? ⟨wr.heap.size,4,none⟩=some (.int .i64 u):=(hag ⟨wr.heap.size,4,none⟩ _ rfl (by go_simp)).1;obtain ⟨g0,g1,g2,g3,g4,g5⟩:=At6z.1 (At.ext (Agree.below hbg) (A:=fun _=>True) trivial _ _ HBP.out);have hz4:=hbg.size;have hbw4:Below w.heap.size w w4:=hbw1.trans (hbg.mono (by omega));have hrx:RV w4 (Own w1.heap.size (fun _=>False) (.slice (some ⟨g,0,none⟩) (j+1) cap)) x mv.a:=RV.own hgrow HOWN.out hat (by simp) (RV.mono (fun b hb _=>(Or.inr ⟨(by omega),fun e=>(by have h9:=HOK.out _ e;omega)⟩)) _ _ (RV.ext (A:=fun b=>wr.heap.size+1≤b) (agree_set5 _ _ _ _ _ _) _ _ (RV.mono (fun b hb _=>(by simpa using hb)) _ _ HRV.out)));have hqx:∀q∈ps,RV w4 (Own w1.heap.size (fun _=>False) (.slice (some ⟨g,0,none⟩) (j+1) cap)) q.1.v q.2.a:=fun q hq=>RV.own hgrow HOWN.out hat (by simp) (RV.ext (Agree.below (Below.mono (B:=wr.heap.size) Below.r (Nat.le_refl _))) _ _ (HQ.out q hq));have HRX:=hid hrx;have HQX:=hid hqx;have HOX:=hid hown;clear hrx hqx hown)|(go_at_call 21;refine (r17Holds_at p x false HH.out A2 (Own w1.heap.size (fun _=>False) (.slice (some ⟨g,0,none⟩) (j+1) cap)) ⟨na,nb,nc,nd⟩ mv _ OP.out hp (by exact RP.ext (Agree.below hbw4) _ _ HR.out) OKX.out (by exact HRX.out) HMAY.out).mono ?_;rintro e6 w6 ⟨rfl,hb6⟩))
      have hz6:=hb6.size
      have hown6:w6.ownsRow w1.heap.size 51 5 (.slice (some ⟨g,0,none⟩) (j+1) cap) (j+1) (flatR (ps++[(⟨(i:Int),((i+u:Nat):Int),x⟩,mv)])):=by
       rw [flatR_append,show ((i+u:Nat):Int)=(i:Int)+(u:Int) from Int.natCast_add i u]
       exact owns_below HOX.out hb6 (fun k hk=>by cases hk;exact hlt1)
      have hq6:∀q∈ps++[((⟨(i:Int),((i+u:Nat):Int),x⟩:GR),mv)],RV w6 (Own w1.heap.size (fun _=>False) (.slice (some ⟨g,0,none⟩) (j+1) cap)) q.1.v q.2.a:=by
       intro q hq
       rcases List.mem_append.1 hq with hq|hq
       ·exact RV.ext (Agree.below hb6) _ _ (HQX.out q hq)
       ·simp at hq
        subst hq
        exact RV.ext (Agree.below hb6) _ _ HRX.out
      have hE2:=RRx_of_row (A:=fun b=>w1.heap.size≤b) hown6 (fun b h=>h) (fun q hq=>RV.mono (fun b hb _=>by rcases hb with ⟨h,_⟩|⟨h,h2⟩;exact absurd h id;exact ⟨h,h2⟩) _ _ (hq6 q hq))
      obtain ⟨av,cv,hav,hrd⟩:=hE2
      refine bodyPost_ret (v:=.tuple #[.slice (some ⟨g,0,none⟩) (j+1) cap,.int .u8 1,.int .i64 0]) (by simp [results,Tryz.f6,go_sem]) rfl ?_
      have hst2:((ps++[((⟨(i:Int),((i+u:Nat):Int),x⟩:GR),mv)]).map Prod.fst,(1:Int))=R:=by rw [←HST.out];simp
      rw [←hst2]
      exact ⟨hbw4.trans (hb6.mono (by omega)),av,cv,by rw [hav],RRx.mono (fun b hb _=>by omega) _ _ hrd⟩
    ·have HH:=hid hHv
     rw [hHv,if_pos rfl] at hst
     have HST:=hid hst
     clear hst hHv
     go_wp2_with fail
     go_region_held3 (fun W=>∀k,W.cell? ⟨w.heap.size,k,none⟩=wr.cell? ⟨w.heap.size,k,none⟩) ((intro k;refine Below.cell (B:=wr.heap.size) (w:=wr) (p:=⟨w.heap.size,k,none⟩) ?_ u0;((repeat (first|with_reducible exact Below.refl _ _|with_reducible assumption|with_reducible refine Below.trans ?_ (Below.mono (by with_reducible assumption) (by first|omega|(simp;done)|(simp;omega)))|with_reducible refine Below.drew ?_|with_reducible refine Below.alloc ?_ (by first|omega|(simp;done)|(simp;omega)) _|with_reducible refine Below.setCell ?_ (by first|omega|(simp;done)|(simp;omega)) _));done))) ((go_at_call 20;refine (r22run_ok t (subS s i) _ A ⟨ma,mb,mc,md,me,mf,mg,mh,mi,mj,mk,ml⟩ OX.out hs (by exact RT.ext (A:=A) (Agree.below Below.r) _ _ QT.out) hs9 HRS.out x u HW.out).mono ?_;rintro e w2 ⟨hb2,mv,rfl,hrv⟩;have HRV:=hid hrv;clear hrv;have hz2:=hb2.size;(try simp at hz2);have hbr2:Below wr.heap.size wr w2:=Below.r;have v0:w.heap.size < w2.heap.size:=(by omega);have v1:w.heap.size+1 < w2.heap.size:=(by omega);have v2:wr.heap.size≤w2.heap.size:=(by omega);(try (have y5':wr.heap.size < w2.heap.size:=(by omega);have q0:w2.cell? ⟨wr.heap.size,0,none⟩=some (.int .u8 0):=(hb2.cell (by simp)).trans (by go_simp);have q1:w2.cell? ⟨wr.heap.size,1,none⟩=some (.int .u8 0):=(hb2.cell (by simp)).trans (by go_simp);have q2:w2.cell? ⟨wr.heap.size,2,none⟩=some (.int .i64 0):=(hb2.cell (by simp)).trans (by go_simp);have q3:w2.cell? ⟨wr.heap.size,3,none⟩=some (.slice none 0 0):=(hb2.cell (by simp)).trans (by go_simp);have q4:w2.cell? ⟨wr.heap.size,4,none⟩=some (.int .i64 0):=(hb2.cell (by simp)).trans (by go_simp);have qf:∀k,w2.frozen? ⟨wr.heap.size,k,none⟩=false:=fun k=>(hb2.frozen (by simp)).trans (by go_simp)))))
     ·go_wp2_with (first|(at_builtin;refine wpList_append_lies _ rfl _ _ 34 rfl w1.heap.size 51 i0 _ 5 56 Tryz.underlying34 hi0 y0 y1 y2 rfl (by decide) _ j _ (by rfl) ((owns_below HO.out (B:=wr.heap.size) (by exact Below.r) HOK.out).alloc _) ⟨w2.heap.size+1,0,none⟩ 1 1 [.int .i64 i,.int .i64 (i+u),.int .u8 x.k,.int .i64 x.n,.slice mv.a x.l.length mv.c] (by rfl) rfl (cells_at5 (by simp) _ _ _ _ _ _) (by simp [Value.oneCell']) (by decide) (by unfold maxLen;omega) (by omega) (by simp;omega) (w2.heap.size+1+1) (by simp) ?_;intro g cap w4 hown hgrow hat hlt1;have hbg:Below w1.heap.size w1 w4:=Below.grown (by exact Below.r) hgrow (by simp;omega) HOWN.out;have hag:Agree (fun b=>b=w2.heap.size) _ w4:=Agree.grown hgrow (fun b hb e=>(by have h8:b=w2.heap.size:=hb;have h9:=HOK.out _ e.symm;omega));have x0:w4.cell? ⟨w2.heap.size,0,none⟩=some (.int .u8 1):=(hag ⟨w2.heap.size,0,none⟩ _ rfl (by go_simp)).1;have x1:w4.cell? ⟨w2.heap.size,1,none⟩=some (.int .u8 x.k):=(hag ⟨w2.heap.size,1,none⟩ _ rfl (by go_simp)).1;have x2:w4.cell? ⟨w2.heap.size,2,none⟩=some (.int .i64 x.n):=(hag ⟨w2.heap.size,2,none⟩ _ rfl (by go_simp)).1;have x3:w4.cell? ⟨w2.heap.size,3,none⟩=some (.slice mv.a x.l.length mv.c):=(hag ⟨w2.heap.size,3,none⟩ _ rfl (by go_simp)).1;have x4:w4.cell? ⟨w2.heap.size,4,none⟩=some (.int .i64 u):=(hag ⟨w2.heap.size,4,none⟩ _ rfl (by go_simp)).1;obtain ⟨g0,g1,g2,g3,g4,g5⟩:=At6z.1 (At.ext (Agree.below hbg) (A:=fun _=>True) trivial _ _ HBP.out);have hz4:=hbg.size;have hbw4:Below w.heap.size w w4:=hbw1.trans (hbg.mono (by omega));have hrx:RV w4 (Own w1.heap.size (fun _=>False) (.slice (some ⟨g,0,none⟩) (j+1) cap)) x mv.a:=RV.own hgrow HOWN.out hat (by simp) (RV.mono (fun b hb _=>(Or.inr ⟨(by omega),fun e=>(by have h9:=HOK.out _ e;omega)⟩)) _ _ (RV.ext (A:=fun b=>wr.heap.size≤b) (Agree.below Below.r) _ _ (RV.mono (fun b hb _=>(by simpa using hb)) _ _ HRV.out)));have hqx:∀q∈ps,RV w4 (Own w1.heap.size (fun _=>False) (.slice (some ⟨g,0,none⟩) (j+1) cap)) q.1.v q.2.a:=fun q hq=>RV.own hgrow HOWN.out hat (by simp) (RV.ext (Agree.below (Below.mono (B:=wr.heap.size) Below.r (Nat.le_refl _))) _ _ (HQ.out q hq));have HRX:=hid hrx;have HQX:=hid hqx;have HOX:=hid hown;clear hrx hqx hown)|(go_at_call 21;refine (r17Holds_at p x true HH.out A2 (Own w1.heap.size (fun _=>False) (.slice (some ⟨g,0,none⟩) (j+1) cap)) ⟨na,nb,nc,nd⟩ mv _ OP.out hp (by exact RP.ext (Agree.below hbw4) _ _ HR.out) OKX.out (by exact HRX.out) HMAY.out).mono ?_;rintro e6 w6 ⟨rfl,hb6⟩))
      have hz6:=hb6.size
      have hown6:w6.ownsRow w1.heap.size 51 5 (.slice (some ⟨g,0,none⟩) (j+1) cap) (j+1) (flatR (ps++[(⟨(i:Int),((i+u:Nat):Int),x⟩,mv)])):=by
       rw [flatR_append,show ((i+u:Nat):Int)=(i:Int)+(u:Int) from Int.natCast_add i u]
       exact owns_below HOX.out hb6 (fun k hk=>by cases hk;exact hlt1)
      have hq6:∀q∈ps++[((⟨(i:Int),((i+u:Nat):Int),x⟩:GR),mv)],RV w6 (Own w1.heap.size (fun _=>False) (.slice (some ⟨g,0,none⟩) (j+1) cap)) q.1.v q.2.a:=by
       intro q hq
       rcases List.mem_append.1 hq with hq|hq
       ·exact RV.ext (Agree.below hb6) _ _ (HQX.out q hq)
       ·simp at hq
        subst hq
        exact RV.ext (Agree.below hb6) _ _ HRX.out
      go_roundg (gk - 1)
      case measure=>omega
      case rel=>exact ⟨j+1,i+u,ps++[(⟨(i:Int),((i+u:Nat):Int),x⟩,mv)],_,rfl,by omega,by go_num,hu2,hbg.trans (hb6.mono (by omega)),hid (by have:=HPL.out;simp;omega),hid (by rw [←HST.out];simp),hid hown6,hid hq6⟩
     ·go_wp2_with (first|(at_builtin;refine wpList_append_lies _ rfl _ _ 34 rfl w1.heap.size 51 i0 _ 5 56 Tryz.underlying34 hi0 y0 y1 y2 rfl (by decide) _ j _ (by rfl) ((owns_below HO.out (B:=wr.heap.size) (by exact Below.r) HOK.out).alloc _) ⟨w2.heap.size,0,none⟩ 1 1 [.int .i64 i,.int .i64 (i+u),.int .u8 x.k,.int .i64 x.n,.slice mv.a x.l.length mv.c] (by rfl) rfl (cells_at5 (by simp) _ _ _ _ _ _) (by simp [Value.oneCell']) (by decide) (by unfold maxLen;omega) (by omega) (by simp;omega) (w2.heap.size+1) (by simp) ?_;intro g cap w4 hown hgrow hat hlt1;have hbg:Below w1.heap.size w1 w4:=Below.grown (by exact Below.r) hgrow (by simp;omega) HOWN.out;have hag:Agree (fun b=>b=wr.heap.size) _ w4:=Agree.grown hgrow (fun b hb e=>(by have h8:b=wr.heap.size:=hb;have h9:=HOK.out _ e.symm;omega));have x0:w4.cell? ⟨wr.heap.size,0,none⟩=some (.int .u8 1):=(hag ⟨wr.heap.size,0,none⟩ _ rfl (by go_simp)).1;have x1:w4.cell? ⟨wr.heap.size,1,none⟩=some (.int .u8 x.k):=(hag ⟨wr.heap.size,1,none⟩ _ rfl (by go_simp)).1;have x2:w4.cell? ⟨wr.heap.size,2,none⟩=some (.int .i64 x.n):=(hag ⟨wr.heap.size,2,none⟩ _ rfl (by go_simp)).1;have x3:w4.cell? ⟨wr.heap.size,3,none⟩=some (.slice mv.a x.l.length mv.c):=(hag ⟨wr.heap.size,3,none⟩ _ rfl (by go_simp)).1;have x4:w4.cell? ⟨wr.heap.size,4,none⟩=some (.int .i64 u):=(hag ⟨wr.heap.size,4,none⟩ _ rfl (by go_simp)).1;obtain ⟨g0,g1,g2,g3,g4,g5⟩:=At6z.1 (At.ext (Agree.below hbg) (A:=fun _=>True) trivial _ _ HBP.out);have hz4:=hbg.size;have hbw4:Below w.heap.size w w4:=hbw1.trans (hbg.mono (by omega));have hrx:RV w4 (Own w1.heap.size (fun _=>False) (.slice (some ⟨g,0,none⟩) (j+1) cap)) x mv.a:=RV.own hgrow HOWN.out hat (by simp) (RV.mono (fun b hb _=>(Or.inr ⟨(by omega),fun e=>(by have h9:=HOK.out _ e;omega)⟩)) _ _ (RV.ext (A:=fun b=>wr.heap.size+1≤b) (agree_set5 _ _ _ _ _ _) _ _ (RV.mono (fun b hb _=>(by simpa using hb)) _ _ HRV.out)));have hqx:∀q∈ps,RV w4 (Own w1.heap.size (fun _=>False) (.slice (some ⟨g,0,none⟩) (j+1) cap)) q.1.v q.2.a:=fun q hq=>RV.own hgrow HOWN.out hat (by simp) (RV.ext (Agree.below (Below.mono (B:=wr.heap.size) Below.r (Nat.le_refl _))) _ _ (HQ.out q hq));have HRX:=hid hrx;have HQX:=hid hqx;have HOX:=hid hown;clear hrx hqx hown)|(go_at_call 21;refine (r17Holds_at p x true HH.out A2 (Own w1.heap.size (fun _=>False) (.slice (some ⟨g,0,none⟩) (j+1) cap)) ⟨na,nb,nc,nd⟩ mv _ OP.out hp (by exact RP.ext (Agree.below hbw4) _ _ HR.out) OKX.out (by exact HRX.out) HMAY.out).mono ?_;rintro e6 w6 ⟨rfl,hb6⟩))
      have hz6:=hb6.size
      have hown6:w6.ownsRow w1.heap.size 51 5 (.slice (some ⟨g,0,none⟩) (j+1) cap) (j+1) (flatR (ps++[(⟨(i:Int),((i+u:Nat):Int),x⟩,mv)])):=by
       rw [flatR_append,show ((i+u:Nat):Int)=(i:Int)+(u:Int) from Int.natCast_add i u]
       exact owns_below HOX.out hb6 (fun k hk=>by cases hk;exact hlt1)
      have hq6:∀q∈ps++[((⟨(i:Int),((i+u:Nat):Int),x⟩:GR),mv)],RV w6 (Own w1.heap.size (fun _=>False) (.slice (some ⟨g,0,none⟩) (j+1) cap)) q.1.v q.2.a:=by
       intro q hq
       rcases List.mem_append.1 hq with hq|hq
       ·exact RV.ext (Agree.below hb6) _ _ (HQX.out q hq)
       ·simp at hq
        subst hq
        exact RV.ext (Agree.below hb6) _ _ HRX.out
      go_roundg (gk - 1)
      case measure=>omega
      case rel=>exact ⟨j+1,i+u,ps++[(⟨(i:Int),((i+u:Nat):Int),x⟩,mv)],_,rfl,by omega,by go_num,hu2,hbg.trans (hb6.mono (by omega)),hid (by have:=HPL.out;simp;omega),hid (by rw [←HST.out];simp),hid hown6,hid hq6⟩
   ·rw [hW] at hst hin
    have hk:k=2∨k=3:=hin
    have HW:=hid hW
    clear hW hsz
    dsimp only at hst
    have HST:=hid hst
    clear HOK HOWN
    have hE2:=RRx_of_row (A:=fun b=>w1.heap.size≤b) HO.out (fun b h=>h) (fun q hq=>RV.mono (fun b hb _=>by rcases hb with ⟨h,_⟩|⟨h,h2⟩;exact absurd h id;exact ⟨h,h2⟩) _ _ (HQ.out q hq))
    obtain ⟨av,cv,hav,hrd⟩:=hE2
    have HRD:=hid hrd
    have HAV:=hid hav
    clear hrd hav hst
    have hle:w.heap.size≤wr.heap.size:=by omega
    have hle1:w1.heap.size≤wr.heap.size:=by omega
    rcases hk with rfl|rfl
    ·have hst2:(ps.map Prod.fst,(3:Int))=R:=by rw [←HST.out];simp
     clear HST
     subst hst2
     go_wp2_with fail
     go_region_held3 (fun W=>∀k,W.cell? ⟨w.heap.size,k,none⟩=wr.cell? ⟨w.heap.size,k,none⟩) ((intro k;refine Below.cell (B:=wr.heap.size) (w:=wr) (p:=⟨w.heap.size,k,none⟩) ?_ u0;((repeat (first|with_reducible exact Below.refl _ _|with_reducible assumption|with_reducible refine Below.trans ?_ (Below.mono (by with_reducible assumption) (by first|omega|(simp;done)|(simp;omega)))|with_reducible refine Below.drew ?_|with_reducible refine Below.alloc ?_ (by first|omega|(simp;done)|(simp;omega)) _|with_reducible refine Below.setCell ?_ (by first|omega|(simp;done)|(simp;omega)) _));done))) ((go_at_call 20;refine (r22run_no t (subS s i) _ A ⟨ma,mb,mc,md,me,mf,mg,mh,mi,mj,mk,ml⟩ OX.out hs (by exact RT.ext (A:=A) (Agree.below Below.r) _ _ QT.out) hs9 HRS.out _ HW.out).mono ?_;rintro e w2 ⟨hb2,rfl⟩;have hz2:=hb2.size;(try simp at hz2);have hbr2:Below wr.heap.size wr w2:=Below.r;have v0:w.heap.size < w2.heap.size:=(by omega);have v1:w.heap.size+1 < w2.heap.size:=(by omega);have v2:wr.heap.size≤w2.heap.size:=(by omega);(try (have y5':wr.heap.size < w2.heap.size:=(by omega);have q0:w2.cell? ⟨wr.heap.size,0,none⟩=some (.int .u8 0):=(hb2.cell (by simp)).trans (by go_simp);have q1:w2.cell? ⟨wr.heap.size,1,none⟩=some (.int .u8 0):=(hb2.cell (by simp)).trans (by go_simp);have q2:w2.cell? ⟨wr.heap.size,2,none⟩=some (.int .i64 0):=(hb2.cell (by simp)).trans (by go_simp);have q3:w2.cell? ⟨wr.heap.size,3,none⟩=some (.slice none 0 0):=(hb2.cell (by simp)).trans (by go_simp);have q4:w2.cell? ⟨wr.heap.size,4,none⟩=some (.int .i64 0):=(hb2.cell (by simp)).trans (by go_simp);have qf:∀k,w2.frozen? ⟨wr.heap.size,k,none⟩=false:=fun k=>(hb2.frozen (by simp)).trans (by go_simp)))))
     all_goals go_wp2_with fail
     all_goals refine bodyPost_ret (v:=.tuple #[.slice va j vcp,.int .u8 3,.int .i64 0]) (by simp [results,Tryz.f6,go_sem]) rfl ?_
     all_goals exact ⟨hbw.trans (Below.mono (B:=wr.heap.size) Below.r hle),av,cv,by rw [HAV.out],RRx.mono (fun b hb _=>by omega) _ _ (RRx.ext (Agree.below (Below.mono (B:=wr.heap.size) Below.r (Nat.le_refl _))) _ _ HRD.out)⟩
    ·have hst2:(ps.map Prod.fst,(4:Int))=R:=by rw [←HST.out];simp
     clear HST
     subst hst2
     go_wp2_with fail
     go_region_held3 (fun W=>∀k,W.cell? ⟨w.heap.size,k,none⟩=wr.cell? ⟨w.heap.size,k,none⟩) ((intro k;refine Below.cell (B:=wr.heap.size) (w:=wr) (p:=⟨w.heap.size,k,none⟩) ?_ u0;((repeat (first|with_reducible exact Below.refl _ _|with_reducible assumption|with_reducible refine Below.trans ?_ (Below.mono (by with_reducible assumption) (by first|omega|(simp;done)|(simp;omega)))|with_reducible refine Below.drew ?_|with_reducible refine Below.alloc ?_ (by first|omega|(simp;done)|(simp;omega)) _|with_reducible refine Below.setCell ?_ (by first|omega|(simp;done)|(simp;omega)) _));done))) ((go_at_call 20;refine (r22run_no t (subS s i) _ A ⟨ma,mb,mc,md,me,mf,mg,mh,mi,mj,mk,ml⟩ OX.out hs (by exact RT.ext (A:=A) (Agree.below Below.r) _ _ QT.out) hs9 HRS.out _ HW.out).mono ?_;rintro e w2 ⟨hb2,rfl⟩;have hz2:=hb2.size;(try simp at hz2);have hbr2:Below wr.heap.size wr w2:=Below.r;have v0:w.heap.size < w2.heap.size:=(by omega);have v1:w.heap.size+1 < w2.heap.size:=(by omega);have v2:wr.heap.size≤w2.heap.size:=(by omega);(try (have y5':wr.heap.size < w2.heap.size:=(by omega);have q0:w2.cell? ⟨wr.heap.size,0,none⟩=some (.int .u8 0):=(hb2.cell (by simp)).trans (by go_simp);have q1:w2.cell? ⟨wr.heap.size,1,none⟩=some (.int .u8 0):=(hb2.cell (by simp)).trans (by go_simp);have q2:w2.cell? ⟨wr.heap.size,2,none⟩=some (.int .i64 0):=(hb2.cell (by simp)).trans (by go_simp);have q3:w2.cell? ⟨wr.heap.size,3,none⟩=some (.slice none 0 0):=(hb2.cell (by simp)).trans (by go_simp);have q4:w2.cell? ⟨wr.heap.size,4,none⟩=some (.int .i64 0):=(hb2.cell (by simp)).trans (by go_simp);have qf:∀k,w2.frozen? ⟨wr.heap.size,k,none⟩=false:=fun k=>(hb2.frozen (by simp)).trans (by go_simp)))))
     all_goals go_wp2_with fail
     all_goals refine bodyPost_ret (v:=.tuple #[.slice va j vcp,.int .u8 4,.int .i64 0]) (by simp [results,Tryz.f6,go_sem]) rfl ?_
     all_goals exact ⟨hbw.trans (Below.mono (B:=wr.heap.size) Below.r hle),av,cv,by rw [HAV.out],RRx.mono (fun b hb _=>by omega) _ _ (RRx.ext (Agree.below (Below.mono (B:=wr.heap.size) Below.r (Nat.le_refl _))) _ _ HRD.out)⟩
  ·have hjN:((j:Int)==(N:Int))=true:=beq_iff_eq.2 (by omega)
   have hjl:j=N:=by omega
   have hst:=HP.out
   rw [hjl,Nat.sub_self] at hst
   have hst2:(ps.map Prod.fst,2)=R:=by rw [←hst];simp [cutT]
   have hE2:=RRx_of_row (A:=fun b=>w1.heap.size≤b) HO.out (fun b h=>h) (fun q hq=>RV.mono (fun b hb _=>by rcases hb with ⟨h,_⟩|⟨h,h2⟩;exact absurd h id;exact ⟨h,h2⟩) _ _ (HQ.out q hq))
   obtain ⟨av,cv,hav,hrd⟩:=hE2
   have HRD:=hid hrd
   have HAV:=hid hav
   clear hst hrd hav hjl
   subst hst2
   go_wp2_with fail
   refine bodyPost_ret (v:=.tuple #[.slice va j vcp,.int .u8 2,.int .i64 0]) (by simp [results,Tryz.f6,go_sem]) rfl ?_
   exact ⟨hbw,av,cv,by rw [HAV.out],RRx.mono (fun b hb _=>by omega) _ _ HRD.out⟩
theorem r29cut_ok (t:GT) (p:GP) (s:ByteArray) (N:Nat) (w:World) (A A2:Nat→Prop) (m:TA) (mp:PA) (ox:okT t) (hs:sizeT t≤1048576) (hl:RT w A t m) (op:okP p) (hp:sizeP p≤1099511627776) (hr:RP w A2 p mp) (hE:cutE t p s N=0):
  Calls Tryz.prog 6 #[TV t m,PV p mp,.string s,.int .i64 N] w fun e w'=>Below w.heap.size w w'∧CutV (cutT s t p N 0) w e w':=
 (r29cut_okx t p s N w A A2 m mp ox hs hl op hp hr hE).mono fun e w' h=>by
  obtain ⟨hb,a,c,h,hr⟩:=h
  exact ⟨hb,a,_,h,hr.1⟩
end Go.Proofs.YtclphfojkggcpaaGreat
