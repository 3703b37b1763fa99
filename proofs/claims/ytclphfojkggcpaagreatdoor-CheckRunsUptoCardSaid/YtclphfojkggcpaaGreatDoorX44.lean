/- Part 45. -/
import Derived.Test.YtclphfojkggcpaaGreatDoorX14
import Derived.Test.YtclphfojkggcpaaGreatDoorX42
import Derived.Test.YtclphfojkggcpaaGreatDoorX43
import Derived.Test.YtclphfojkggcpaaGreatDoorX52
set_option linter.all false
namespace Go.Proofs.YtclphfojkggcpaaGreatDoor
open Go.Lib (hid)
open Go Go.RowKit Go.Proofs.Tryz
set_option maxRecDepth 100000
set_option maxHeartbeats 4000000
theorem ZkZ (c:Nat) (s:ByteArray) (f:Nat) (t:GT) (i:Nat) (w:World) (m:TA) (hb:Zc s=true) (hk:t.k=4) (hn:ZG t=0) (ox:okT t) (hi:i≤s.size) (hc:Cur w c s i false) (hl:RT w (fun b=>b≠c) t m):
  Calls prog 63 #[.pointer (some ⟨c,0,none⟩),TV t m] w (WL c s (Zd s (f+1) t [] i) w):=by
 rw [ZaQ s f t [] i hk]
 obtain ⟨ma,mb,mc,md,me,mf,mg,mh,mi,mj,mk,ml⟩:=m
 obtain ⟨hlen,hfe, -⟩:=Kv hn hk
 obtain ⟨-, -,⟨-,ovs⟩, -, -,⟨-,ow⟩, -, -, -⟩:=Ze.1 ox
 have HVS:=hid (Zo.1 hl).2.1
 have HW:=hid (Zo.1 hl).2.2.1
 have HC:=hid hc
 have HB:=hid hb
 have HFE:=hid hfe
 have OW:=hid ow
 have OVS:=hid ovs
 have hcs:c < w.heap.size:=World.block_lt_of_cell? _ _ hc.1.1
 have hal:=JJ s t.w i hi
 have hk1:(t.k==1)=false:=by simp [hk]
 have hk2:(t.k==2)=false:=by simp [hk]
 have hk3:(t.k==3)=false:=by simp [hk]
 have hk4:(t.k==4)=true:=by simp [hk]
 clear hc hk hl hn hb hfe ox ow ovs
 rcases hN:Ys s t.w i with ⟨_|k,j⟩
 ·have HN:=hid hN
  clear hN hal
  show Calls _ _ _ _ (WL c s (.no 2) w)
  go_enter func63,ntmps63
  go_wp2_with (first
   | (go_at_call 97;(with_reducible refine (ZbK t.w _ (fun b=>b≠c) me mf HFE.out OW.out (by exact ZmU ar _ _ HW.out)).mono ?_);rintro e w1 ⟨hb1,tb,gc,go,cc,co,htb,rfl,h11,hrc,hro⟩;have H11:=hid h11;have HRC:=hid (Znr (A':=fun b=>b≠c) (fun b hb _=>(by (try simp at hb);omega)) _ _ hrc);have HRO:=hid (Znr (A':=fun b=>b≠c) (fun b hb _=>(by (try simp at hb);omega)) _ _ hro);clear h11 hrc hro;(try simp at htb);have hz1:=hb1.size;(try simp at hz1);obtain ⟨hc1,hf1⟩:=Za hb1;have y0:w.heap.size < w1.heap.size:=om;have y1:w.heap.size+1 < w1.heap.size:=om;have htc:tb≠c:=om)
   | (go_at_call 98;(with_reducible refine (Zau t.w s i tb c gc go cc co _ HB.out hi HFE.out htc H11.out HRC.out HRO.out (by exact ZlW (B:=w.heap.size) ZlD hcs HC.out)).mono ?_);rw [HN.out];rintro e w2 ⟨hb2,rfl,hc2⟩;clear hc2;have hz2:=hb2.size;(try simp at hz2);obtain ⟨hc2,hf2⟩:=ZE hb2;have y4:w.heap.size+1 < w2.heap.size:=om;have y2:¬w.heap.size+1=c:=om;have y3:¬w.heap.size=c:=om))
  refine bodyPost_ret (v:=(.tuple #[VV ⟨0,0,[]⟩ ⟨none,0⟩,.int .u8 2])) (by first|(simp [results,Tryz.f63,go_sem];done)|(simp [results,Tryz.f63,go_sem, *];done)) rfl ?_
  exact ⟨ZmR,rfl,om,om⟩
 have HN:=hid hN
 rw [hN] at hal
 have hkl:k < t.vs.length:=by have:=hal.2.2 k rfl;omega
 obtain ⟨b,o,mq,rfl,hA,hbs,g0,gx⟩:=HVS.out.get k hkl
 obtain ⟨z0,z1,z2⟩:=At3.1 g0
 have hkI:(k:Int) < (t.vs.length:Int):=om
 have hbc:¬b=c:=hA
 have e0:((Y2 (some k,j)).bind fun k j=>atD (fun v j=>Res.ok v j) t.vs k j)=.ok t.vs[k] j:=by
  simp only [Y2,Res.bind,atD,List.getElem?_eq_getElem hkl]
 rw [e0]
 clear hN hal e0 g0 hA
 go_enter func63,ntmps63
 go_wp2_with (first
  | (go_at_call 97;(with_reducible refine (ZbK t.w _ (fun b=>b≠c) me mf HFE.out OW.out (by exact ZmU ar _ _ HW.out)).mono ?_);rintro e w1 ⟨hb1,tb,gc,go,cc,co,htb,rfl,h11,hrc,hro⟩;have H11:=hid h11;have HRC:=hid (Znr (A':=fun b=>b≠c) (fun b hb _=>(by (try simp at hb);omega)) _ _ hrc);have HRO:=hid (Znr (A':=fun b=>b≠c) (fun b hb _=>(by (try simp at hb);omega)) _ _ hro);clear h11 hrc hro;(try simp at htb);have hz1:=hb1.size;(try simp at hz1);obtain ⟨hc1,hf1⟩:=Za hb1;have y0:w.heap.size < w1.heap.size:=om;have y1:w.heap.size+1 < w1.heap.size:=om;have htc:tb≠c:=om;have y8:b < w.heap.size+1+1:=om)
  | (go_at_call 98;(with_reducible refine (Zau t.w s i tb c gc go cc co _ HB.out hi HFE.out htc H11.out HRC.out HRO.out (by exact ZlW (B:=w.heap.size) ZlD hcs HC.out)).mono ?_);rw [HN.out];rintro e w2 ⟨hb2,rfl,hc2⟩;have HC2:=hid hc2;clear hc2;have hz2:=hb2.size;(try simp at hz2);obtain ⟨hc2,hf2⟩:=ZE hb2;have y4:w.heap.size+1 < w2.heap.size:=om;have y2:¬w.heap.size+1=c:=om;have y3:¬w.heap.size=c:=om;have y9:b < w1.heap.size:=om)
  | (go_at_call 94;refine (Kj _ t.vs[k] _ (fun b=>b≠c) mq (Nat.le_refl _) (OVS.out.get k hkl) (by exact ZmG (ZlX ZmR) _ _ gx)).mono ?_;rintro e w3 ⟨hb3,m3,rfl,hrv⟩;have HRV:=hid hrv;clear hrv;obtain ⟨hc3,hf3⟩:=Za hb3;have hz3:=hb3.size;(try simp at hz3);have y5:w.heap.size+1 < w3.heap.size:=om))
 refine bodyPost_ret (v:=(.tuple #[VV t.vs[k] m3,.int .u8 1])) (by first|(simp [results,Tryz.f63,go_sem];done)|(simp [results,Tryz.f63,go_sem, *];done)) rfl ?_
 exact ⟨ZmR,⟨m3,rfl,ZmO (fun b hb _=>by (try simp at hb);omega) _ _ (ZmG (((ZmA so).trans (ZmA so)).trans (ZmA so)) _ _ HRV.out)⟩,ZlW (B:=w.heap.size+1) ZlD om HC2.out⟩
set_option maxRecDepth 512
theorem ZdD (c:Nat) (s:ByteArray) (hb:Zc s=true):∀f,WT c s f:=by
 intro f
 induction f with
 | zero=>
  intro t i w m hg ox hi hwk
  obtain ⟨k,n,hw⟩:=hwk
  exact absurd rfl hw
 | succ f ih=>
  intro t i w m hg ox hi hwk hc hl
  have hn:=(Zk.1 hg).1
  have hk:=(Y9 hn).1
  have hx:(¬t.k=1∧¬t.k=11∧¬t.k=10∧¬t.k=2∧¬t.k=4)→∀x∈t.a,Zp false x∧okT x∧∃k n,wkT f x [] k n≠none:=fun h x hx=>⟨YG hg h.2.2.1 hx,Jl ox hx,ZaX h hwk x hx⟩
  rcases (by omega:t.k=1∨t.k=2∨t.k=3∨t.k=4∨t.k=5∨t.k=6∨t.k=7∨t.k=8∨t.k=9∨t.k=10∨t.k=11) with h|h|h|h|h|h|h|h|h|h|h
  ·exact ZkW c s f t i w m h ox hc hl
  ·exact ZkX c s f t i w m hb h hn hi hc
  ·exact ZkY c s f ih t i w m hb h hn (hx om) hi hc hl
  ·exact ZkZ c s f t i w m hb h hn ox hi hc hl
  ·exact Zk0 c s f ih t i w m h hn (hx om) hi hc hl
  ·exact Zk1 c s f ih t i w m hb h hn (hx om) hi hc hl
  ·exact Zk2 c s f ih t i w m hb h hn (hx om) hi hc hl
  ·exact Zk3 c s f ih t i w m hb h hn (hx om) hi hc hl
  ·exact Zk4 c s f ih t i w m h hn (hx om) ox hi hc hl
  ·exact Zkw c s f ih t i w m h hg ox hwk hi hc hl
  obtain ⟨k,n,hw⟩:=hwk
  exact absurd (by simp [wkT,h]) hw
def Zj0 (c:Nat) (r:Res GV) (w:World):Ending→World→Prop:=fun e w'=>But c w.heap.size w w' ∧
 match r with
 | .ok v j=>∃m,e=.returned (.tuple #[OV 1 v m j,.int .i64 0])∧RV w' (fun b=>w.heap.size≤b) v m.a
 | .no k=>e=.returned (.tuple #[OV k Y8 ⟨none,0⟩ 0,.int .i64 0])
set_option maxRecDepth 100000
theorem Zaz (c:Nat) (s:ByteArray) (t:GT) (w:World) (x:TA) (hb:Zc s=true) (h0:s.size≤1048576) (hE:(Z3 t).2=0) (ox:okT t) (hs:Zb t≤1048576) (hj:(Zd s 4098 t [] 0).In okV 0 s.size)
  (hc:Cur w c s 0 false) (hr:RT w (fun b=>b≠c) t x):
  Calls prog 39 #[TV t x,.pointer (some ⟨c,0,none⟩)] w (Zj0 c (Zd s 4098 t [] 0) w):=by
 obtain ⟨ma,mb,mc,md,me,mf,mg,mh,mi,mj,mk,ml⟩:=x
 obtain ⟨hg,hwk⟩:=J9 hE
 have hcs:c < w.heap.size:=World.block_lt_of_cell? _ _ hc.1.1
 have HR:=hid hr
 have HC:=hid hc
 have HE:=hid hE
 have OX:=hid ox
 have HX:=hid (fun (W:World) (m:TA) (h1:Cur W c s 0 false) (h2:RT W (fun b=>b≠c) t m)=>ZdD c s hb 4098 t 0 W m hg ox (Nat.zero_le _) hwk h1 h2)
 clear hc hr hb hE ox hg hwk
 rcases hN:Zd s 4098 t [] 0 with ⟨v,j⟩|⟨k⟩
 ·rw [hN] at hj
  obtain ⟨_,hjs,_⟩:=hj
  have hjw:IntKind.i64.wrap (j:Int)=(j:Int):=IntWalk.i64_in _ om
  have hjv:IntKind.i64.wrap ((j:Int) - 0)=(j:Int):=by rw [Int.sub_zero];exact hjw
  have HN:=hid hN
  clear hN
  go_enter func39,ntmps39
  go_wp2_with (first
   | (go_at_call 62;(refine (Jt t _ (fun b=>b≠c) ⟨ma,mb,mc,md,me,mf,mg,mh,mi,mj,mk,ml⟩ OX.out hs (by exact ZlV ar _ _ HR.out) HE.out).mono ?_;rintro e w1 ⟨rfl,hb1⟩);(obtain ⟨hc1,hf1⟩:=Za hb1);(have hz1:=hb1.size;(try simp at hz1);have y0:w.heap.size < w1.heap.size:=om;have y1:w.heap.size+1 < w1.heap.size:=om;have hcs1:c < w1.heap.size:=om);(have HC1:=hid (show Cur w1 c s 0 false from ZlW (B:=w.heap.size) ZlD hcs HC.out));(have e1:w1.cell? ⟨c,1,none⟩=some (.int .i64 0):=(by simpa using HC1.out.1.2.1)))
   | (go_at_call 63;(refine (HX.out _ ⟨ma,mb,mc,md,me,mf,mg,mh,mi,mj,mk,ml⟩ (by exact HC1.out) (by exact ZlV ar _ _ HR.out)).mono ?_);rw [HN.out];rintro e2 w2 ⟨hb2,⟨m2,rfl,hrv⟩,hc2⟩;have HRV:=hid hrv;have HC2:=hid hc2;clear hrv hc2;have hz2:=hb2.size;have d1:w2.cell? ⟨c,1,none⟩=some (.int .i64 j):=HC2.out.1.2.1;obtain ⟨hc2,hf2⟩:=ZE hb2;have y2:w.heap.size+1 < w2.heap.size:=om;have y3:¬w.heap.size+1=c:=om;have y4:c < w2.heap.size:=om))
  refine Z0 8 kr kr ?_
  simp only [List.take_succ_cons,List.take_zero,List.drop_succ_cons,List.drop_zero]
  repeat still_step
  refine wpStill_nil ?_
  go_wp2_with fail
  refine bodyPost_ret (v:=.tuple #[OV 1 v m2 j,.int .i64 0]) (by first|(simp [results,Tryz.f39,go_sem,OV];done)|(simp [results,Tryz.f39,go_sem,OV, *];done)) rfl ?_
  refine ⟨ZmR,m2,rfl,?_⟩
  exact ZmO (fun b hb _=>om) _ _ (ZmG (A:=fun b=>w1.heap.size≤b) (fun p v hA hc=>ZlX (c:=w.heap.size+1) ZmR p v om hc) _ _ HRV.out)
 have HN:=hid hN
 clear hN hj
 go_enter func39,ntmps39
 go_wp2_with (first
  | (go_at_call 62;(refine (Jt t _ (fun b=>b≠c) ⟨ma,mb,mc,md,me,mf,mg,mh,mi,mj,mk,ml⟩ OX.out hs (by exact ZlV ar _ _ HR.out) HE.out).mono ?_);rintro e w1 ⟨rfl,hb1⟩;obtain ⟨hc1,hf1⟩:=Za hb1;have hz1:=hb1.size;(try simp at hz1);have y0:w.heap.size < w1.heap.size:=om;have y1:w.heap.size+1 < w1.heap.size:=om;have hcs1:c < w1.heap.size:=om;have HC1:=hid (show Cur w1 c s 0 false from ZlW (B:=w.heap.size) ZlD hcs HC.out);have e1:w1.cell? ⟨c,1,none⟩=some (.int .i64 0):=(by simpa using HC1.out.1.2.1))
  | (go_at_call 63;(refine (HX.out _ ⟨ma,mb,mc,md,me,mf,mg,mh,mi,mj,mk,ml⟩ (by exact HC1.out) (by exact ZlV ar _ _ HR.out)).mono ?_);rw [HN.out];rintro e2 w2 ⟨hb2,rfl,hk8,hk9⟩;have hz2:=hb2.size;obtain ⟨hc2,hf2⟩:=ZE hb2;have y2:w.heap.size+1 < w2.heap.size:=om;have y3:¬w.heap.size+1=c:=om;have hkb:(((k:Int)) != 1)=true:=(by simp;omega)))
 refine bodyPost_ret (v:=.tuple #[OV k Y8 ⟨none,0⟩ 0,.int .i64 0]) (by first|(simp [results,Tryz.f39,go_sem,OV,Y8];done)|(simp [results,Tryz.f39,go_sem,OV,Y8, *];done)) rfl ?_
 exact ⟨ZmR,rfl⟩
theorem KD (t:GT) (s:ByteArray) (w:World) (A:Nat→Prop) (m:TA) (ox:okT t) (hs:Zb t≤1048576) (hl:RT w A t m) (hss:s.size≤9223372036854775807):
  Calls prog 22 #[TV t m,.string s] w (RunR t s w):=by
 obtain ⟨ma,mb,mc,md,me,mf,mg,mh,mi,mj,mk,ml⟩:=m
 have HL:=hid hl
 have OX:=hid ox
 by_cases hE:(Z3 t).2=0
 case neg=>
  have hr:ZP t s=(Z3 t).2:=by unfold ZP;rw [if_pos hE]
  have HRE:=hid hr
  have hE':((Z3 t).2 != 0)=true:=by simp [hE]
  have HNE:=hid hE
  clear hl ox hr hE
  go_enter func22,ntmps22
  go_wp2_with (go_at_call 37;refine (WV t _ A ⟨ma,mb,mc,md,me,mf,mg,mh,mi,mj,mk,ml⟩ OX.out hs (by exact ZlV ar _ _ HL.out)).mono ?_;rintro e w1 ⟨rfl,hb1⟩;obtain ⟨hc1,hf1⟩:=Za hb1;have hz1:=hb1.size;(try simp at hz1);have y1:w.heap.size+1 < w1.heap.size:=om)
  refine bodyPost_ret (v:=.tuple #[OV 0 Y8 ⟨none,0⟩ 0,.int .i64 (Z3 t).2]) (by first|(simp [results,Tryz.f22,go_sem,OV,Y8];done)|(simp [results,Tryz.f22,go_sem,OV,Y8, *];done)) rfl ?_
  exact RunR.err HRE.out HNE.out ZlD
 have hE':((Z3 t).2 != 0)=false:=by simp [hE]
 cases hB:Zc s
 ·have hr:ZP t s=3:=by unfold ZP;rw [if_neg (by simp [hE]),hB];rfl
  have HRE:=hid hr
  have HB:=hid hB
  clear hl ox hr hE hB
  go_enter func22,ntmps22
  go_wp2_with (first
   | (go_at_call 37;refine (WV t _ A ⟨ma,mb,mc,md,me,mf,mg,mh,mi,mj,mk,ml⟩ OX.out hs (by exact ZlV ar _ _ HL.out)).mono ?_;rintro e w1 ⟨rfl,hb1⟩;obtain ⟨hc1,hf1⟩:=Za hb1;have hz1:=hb1.size;(try simp at hz1);have y1:w.heap.size+1 < w1.heap.size:=om)
   | (go_at_call 38;refine (KB s _ hss).mono ?_;rintro e w2 ⟨hb2,⟨h1,_⟩|⟨_,rfl⟩⟩;exact absurd (HB.out.symm.trans h1) (by decide);obtain ⟨hc2,hf2⟩:=Za hb2;have hz2:=hb2.size;have y2:w.heap.size+1 < w2.heap.size:=om))
  refine bodyPost_ret (v:=.tuple #[OV 0 Y8 ⟨none,0⟩ 0,.int .i64 3]) (by first|(simp [results,Tryz.f22,go_sem,OV,Y8];done)|(simp [results,Tryz.f22,go_sem,OV,Y8, *];done)) rfl ?_
  exact RunR.err HRE.out (by decide) ZlD
 have hr:ZP t s=0:=by unfold ZP;rw [if_neg (by simp [hE]),if_pos hB]
 have h1024:s.size≤1048576:=by
  have h2:=hB
  unfold Zc at h2
  rw [Bool.and_eq_true] at h2
  have:=of_decide_eq_true h2.1
  omega
 have hin:=Vy (t:=t) (s:=s) hr ox
 have HIN:=hid (show (Zd s 4098 t [] 0).In okV 0 s.size from hin)
 have HB:=hid hB
 have HRE:=hid hr
 have HE:=hid hE
 clear hl ox hr hE hB hin
 rcases hN:Zd s 4098 t [] 0 with ⟨v,j⟩|⟨k⟩
 all_goals have HN:=hid hN
 all_goals clear hN
 ·go_enter func22,ntmps22
  go_wp2_with (first
   | (go_at_call 37;refine (WV t _ A ⟨ma,mb,mc,md,me,mf,mg,mh,mi,mj,mk,ml⟩ OX.out hs (by exact ZlV ar _ _ HL.out)).mono ?_;rintro e w1 ⟨rfl,hb1⟩;obtain ⟨hc1,hf1⟩:=Za hb1;have hz1:=hb1.size;(try simp at hz1);have y0:w.heap.size < w1.heap.size:=om;have y1:w.heap.size+1 < w1.heap.size:=om)
   | (go_at_call 38;refine (KB s _ hss).mono ?_;rintro e w2 ⟨hb2,⟨_,c,hcl,hcs,rfl,hcu⟩|⟨h1,_⟩⟩;rotate_left;exact absurd (HB.out.symm.trans h1) (by decide);obtain ⟨hc2,hf2⟩:=Za hb2;have HCU:=hid hcu;clear hcu;have hz2:=hb2.size;have y2:w.heap.size+1 < w2.heap.size:=om;have y3:¬w.heap.size+1=c:=om;have hbw2:Below w.heap.size w w2:=ZlD;have HRT:=hid (ZmV (A':=fun b=>b≠c) (fun b hb _=>om) _ _ (ZlV (ZlH hbw2) _ _ (ZmV (A':=fun b=>b < w.heap.size) (fun b _ h=>h) _ _ HL.out))))
   | (go_at_call 39;refine (Zaz c s t _ ⟨ma,mb,mc,md,me,mf,mg,mh,mi,mj,mk,ml⟩ HB.out h1024 HE.out OX.out hs HIN.out (by exact HCU.out) (by exact HRT.out)).mono ?_;rw [HN.out];rintro e w3 ⟨hb3,m,he,hrv⟩;have he2:e=.returned (.tuple #[.agg #[.int .u8 1,.int .u8 v.k,.int .i64 v.n,.slice m.a v.l.length m.c,.int .i64 j],.int .i64 0]):=he;subst he2;clear he;have HRV:=hid hrv;clear hrv;have hz3:=hb3.size;obtain ⟨hc3,hf3⟩:=ZE hb3;have y4:w.heap.size+1 < w3.heap.size:=om;have hbw3:Below w.heap.size w w3:=hbw2.trans ((hb3.mono (B':=w.heap.size) om).below om)))
  refine bodyPost_ret (v:=.tuple #[OV 1 v m j,.int .i64 0]) (by first|(simp [results,Tryz.f22,go_sem,OV];done)|(simp [results,Tryz.f22,go_sem,OV, *];done)) rfl ?_
  exact RunR.ok (m:=m) HRE.out HN.out ZlD (ZmO (fun b hb _=>om) _ _ (ZmG (A:=fun b=>w2.heap.size≤b) (fun p v hA hc=>ZlX (c:=w.heap.size+1) ZmR p v om hc) _ _ HRV.out))
 go_enter func22,ntmps22
 go_wp2_with (first
  | (go_at_call 37;refine (WV t _ A ⟨ma,mb,mc,md,me,mf,mg,mh,mi,mj,mk,ml⟩ OX.out hs (by exact ZlV ar _ _ HL.out)).mono ?_;rintro e w1 ⟨rfl,hb1⟩;obtain ⟨hc1,hf1⟩:=Za hb1;have hz1:=hb1.size;(try simp at hz1);have y0:w.heap.size < w1.heap.size:=om;have y1:w.heap.size+1 < w1.heap.size:=om)
  | (go_at_call 38;refine (KB s _ hss).mono ?_;rintro e w2 ⟨hb2,⟨_,c,hcl,hcs,rfl,hcu⟩|⟨h1,_⟩⟩;rotate_left;exact absurd (HB.out.symm.trans h1) (by decide);obtain ⟨hc2,hf2⟩:=Za hb2;have HCU:=hid hcu;clear hcu;have hz2:=hb2.size;have y2:w.heap.size+1 < w2.heap.size:=om;have y3:¬w.heap.size+1=c:=om;have hbw2:Below w.heap.size w w2:=ZlD;have HRT:=hid (ZmV (A':=fun b=>b≠c) (fun b hb _=>om) _ _ (ZlV (ZlH hbw2) _ _ (ZmV (A':=fun b=>b < w.heap.size) (fun b _ h=>h) _ _ HL.out))))
  | (go_at_call 39;refine (Zaz c s t _ ⟨ma,mb,mc,md,me,mf,mg,mh,mi,mj,mk,ml⟩ HB.out h1024 HE.out OX.out hs HIN.out (by exact HCU.out) (by exact HRT.out)).mono ?_;rw [HN.out];rintro e w3 ⟨hb3,he⟩;have he2:e=.returned (.tuple #[.agg #[.int .u8 k,.int .u8 0,.int .i64 0,.slice none 0 0,.int .i64 0],.int .i64 0]):=he;subst he2;clear he;have hz3:=hb3.size;obtain ⟨hc3,hf3⟩:=ZE hb3;have y4:w.heap.size+1 < w3.heap.size:=om;have hbw3:Below w.heap.size w w3:=hbw2.trans ((hb3.mono (B':=w.heap.size) om).below om)))
 refine bodyPost_ret (v:=.tuple #[OV k Y8 ⟨none,0⟩ 0,.int .i64 0]) (by first|(simp [results,Tryz.f22,go_sem,OV,Y8];done)|(simp [results,Tryz.f22,go_sem,OV,Y8, *];done)) rfl ?_
 exact RunR.no HRE.out HN.out ZlD
set_option maxRecDepth 512
theorem ZcJ (t:GT) (s:ByteArray) (w:World) (A:Nat→Prop) (m:TA) (ox:okT t) (hs:Zb t≤1048576) (hl:RT w A t m) (hss:s.size≤9223372036854775807) (hE:ZP t s=0) (v:GV) (j:Nat) (hr:Vm s t=.ok v j):
  Calls prog 22 #[TV t m,.string s] w fun e w'=>Below w.heap.size w w'∧∃m:VA,e=.returned (.tuple #[.agg #[.int .u8 1,.int .u8 v.k,.int .i64 v.n,.slice m.a v.l.length m.c,.int .i64 j],.int .i64 0])∧RV w' (fun b=>w.heap.size≤b) v m.a:=
 (KD t s w A m ox hs hl hss).mono fun e w' h=>by
  obtain ⟨hb,h⟩:=h
  rw [hE,hr] at h
  unfold ZbZ at h
  rw [if_neg sm] at h
  exact ⟨hb,h⟩
theorem Zhe (t:GT) (s:ByteArray) (w:World) (A:Nat→Prop) (m:TA) (ox:okT t) (hs:Zb t≤1048576) (hl:RT w A t m) (hss:s.size≤9223372036854775807) (hE:ZP t s=0) (k:Nat) (hr:Vm s t=.no k):
  Calls prog 22 #[TV t m,.string s] w fun e w'=>Below w.heap.size w w'∧e=.returned (.tuple #[.agg #[.int .u8 k,.int .u8 0,.int .i64 0,.slice none 0 0,.int .i64 0],.int .i64 0]):=
 (KD t s w A m ox hs hl hss).mono fun e w' h=>by
  obtain ⟨hb,h⟩:=h
  rw [hE,hr] at h
  unfold ZbZ at h
  rw [if_neg sm] at h
  exact ⟨hb,h⟩
theorem XV (t:GT) (s:ByteArray) (w:World) (A:Nat→Prop) (m:TA) (ox:okT t) (hs:Zb t≤1048576) (hl:RT w A t m) (hss:s.size≤9223372036854775807):
  Calls prog 22 #[TV t m,.string s] w fun e w'=>Below w.heap.size w w'∧∃(k:Int) (v:GV) (m:VA) (n:Int),e=.returned (.tuple #[.agg #[.int .u8 k,.int .u8 v.k,.int .i64 v.n,.slice m.a v.l.length m.c,.int .i64 n],.int .i64 (ZP t s)]):=
 (KD t s w A m ox hs hl hss).mono fun e w' h=>by
  obtain ⟨hb,h⟩:=h
  refine ⟨hb,?_⟩
  unfold ZbZ at h
  split at h
  ·exact ⟨0,Y8,⟨none,0⟩,0,h⟩
  rename_i h0
  have h0:ZP t s=0:=by simpa using h0
  rw [h0]
  split at h
  ·obtain ⟨m,h,_⟩:=h
   exact ⟨1,_,m,_,h⟩
  exact ⟨_,Y8,⟨none,0⟩,0,h⟩
set_option maxRecDepth 100000
theorem Zjv (t:GT) (p:GP) (s:ByteArray) (n:Int) (w:World) (A A2:Nat→Prop) (m:TA) (mp:PA) (ox:okT t) (hs:Zb t≤1048576) (hl:RT w A t m) (op:okP p) (hp:Zm p≤1099511627776) (hr:RP w A2 p mp) (hss:s.size≤9223372036854775807):
  Calls prog 51 #[TV t m,PV p mp,.string s,.int .i64 n] w fun e w'=>e=.returned (.int .i64 (VQ t p s n))∧Below w.heap.size w w':=by
 obtain ⟨ma,mb,mc,md,me,mf,mg,mh,mi,mj,mk,ml⟩:=m
 obtain ⟨na,nb,nc,nd⟩:=mp
 have HL:=hid hl
 have HR:=hid hr
 have OX:=hid ox
 have OP:=hid op
 clear hl hr ox op
 have hF:VQ t p s n=if ZP t s≠0 then ZP t s else if (Zw p).2≠0 then (Zw p).2 else if n < 0∨1000 < n then 1 else 0:=rfl
 rw [hF]
 clear hF
 by_cases h1:ZP t s=0
 case neg=>
  rw [if_pos h1]
  have h1':(ZP t s != 0)=true:=by simp [h1]
  clear h1
  go_enter func51,ntmps51
  go_wp2_with (go_at_call 22;refine (XV t s _ A ⟨ma,mb,mc,md,me,mf,mg,mh,mi,mj,mk,ml⟩ OX.out hs (by exact ZlV ar _ _ HL.out) hss).mono ?_;rintro e w1 ⟨hb1,k,v,m,n1,rfl⟩;have hz1:=hb1.size;(try simp at hz1))
  go_ret
  exact ⟨rfl,ZlD⟩
 have h1':(ZP t s != 0)=false:=by simp [h1]
 rw [if_neg (by simp [h1])]
 clear h1
 by_cases h2:(Zw p).2=0
 case neg=>
  rw [if_pos h2]
  have h2':((Zw p).2 != 0)=true:=by simp [h2]
  clear h2
  go_enter func51,ntmps51
  go_wp2_with (first
   | (go_at_call 22;refine (XV t s _ A ⟨ma,mb,mc,md,me,mf,mg,mh,mi,mj,mk,ml⟩ OX.out hs (by exact ZlV ar _ _ HL.out) hss).mono ?_;rintro e w1 ⟨hb1,k,v,m,n1,rfl⟩;have hz1:=hb1.size;(try simp at hz1);obtain ⟨hc1,hf1⟩:=Za hb1;have y0:w.heap.size+1 < w1.heap.size:=om)
   | (go_at_call 23;refine (Z2 p _ A2 ⟨na,nb,nc,nd⟩ OP.out hp (by exact ZmP ar _ _ HR.out)).mono ?_;rintro e w2 ⟨rfl,hb2⟩))
  go_ret
  exact ⟨rfl,ZlD⟩
 have h2':((Zw p).2 != 0)=false:=by simp [h2]
 rw [if_neg (by simp [h2])]
 clear h2
 generalize hF:(if n < 0∨1000 < n then (1:Int) else 0)=F
 have HF:=hid hF
 clear hF
 go_enter func51,ntmps51
 go_wp2_with (first
  | (go_at_call 22;refine (XV t s _ A ⟨ma,mb,mc,md,me,mf,mg,mh,mi,mj,mk,ml⟩ OX.out hs (by exact ZlV ar _ _ HL.out) hss).mono ?_;rintro e w1 ⟨hb1,k,v,m,n1,rfl⟩;have hz1:=hb1.size;(try simp at hz1);obtain ⟨hc1,hf1⟩:=Za hb1;have y0:w.heap.size+1 < w1.heap.size:=om)
  | (go_at_call 23;refine (Z2 p _ A2 ⟨na,nb,nc,nd⟩ OP.out hp (by exact ZmP ar _ _ HR.out)).mono ?_;rintro e w2 ⟨rfl,hb2⟩))
 all_goals go_ret
 all_goals refine ⟨Zf ?_,ZlD⟩
 all_goals rw [←HF.out]
 all_goals (first|rfl|omega|((try simp only [beq_iff_eq,beq_eq_false_iff_ne,bne_iff_ne,bne_eq_false_iff_eq,decide_eq_true_eq,decide_eq_false_iff_not,ne_eq,Bool.and_eq_true,Bool.or_eq_true,Bool.and_eq_false_iff,Bool.or_eq_false_iff,Bool.not_eq_true',Bool.not_eq_false'] at *);(repeat' split)<;>first|rfl|omega|contradiction|(simp_all;done)|(simp_all;omega)))
set_option maxRecDepth 512
def ZkH (r:Option (ByteArray×GV)) (w:World) (e:Ending) (w':World):Prop:=match r with
 | none=>e=.returned (.tuple #[.int .i64 0,.agg #[.int .u8 0,.int .i64 0,.slice none 0 0],.bool false])
 | some r=>∃m:VA,e=.returned (.tuple #[.int .i64 r.1.size,VV r.2 m,.bool true])∧RV w' (fun b=>w.heap.size≤b) r.2 m.a
theorem WZ {W:World} {n:Nat} (v0 v1 v2:Value):Agree (fun b=>n+1≤b) W (((W.setCell ⟨n,0,none⟩ v0).setCell ⟨n,1,none⟩ v1).setCell ⟨n,2,none⟩ v2):=
 ((ZmA (p:=⟨n,0,none⟩) (fun h=>absurd h (Nat.not_succ_le_self n))).trans (ZmA (p:=⟨n,1,none⟩) (fun h=>absurd h (Nat.not_succ_le_self n)))).trans (ZmA (p:=⟨n,2,none⟩) (fun h=>absurd h (Nat.not_succ_le_self n)))
theorem Zni {p:Prop} (h:p:=by
 refine bodyPost_ret (v:=(.tuple #[.int .i64 0,.agg #[.int .u8 0,.int .i64 0,.slice none 0 0],.bool false])) (by first|(simp [results,Tryz.f24,go_sem];done)|(simp [results,Tryz.f24,go_sem, *];done)) rfl ?_
 exact ⟨ZlD,rfl⟩):p:=h
set_option maxRecDepth 100000
theorem Ju (t:GT) (p:GP) (u:ByteArray) (w:World) (A A2:Nat→Prop) (m:TA) (mp:PA) (ox:okT t) (hs:Zb t≤1048576) (hl:RT w A t m) (op:okP p) (hp:Zm p≤1099511627776) (hr:RP w A2 p mp) (hus:u.size≤9223372036854775807) (hmay:Xo p=true) (hE:ZP t u=0):
  Calls prog 24 #[TV t m,PV p mp,.string u] w fun e w'=>Below w.heap.size w w'∧ZkH (Yf t p u) w e w':=by
 obtain ⟨ma,mb,mc,md,me,mf,mg,mh,mi,mj,mk,ml⟩:=m
 obtain ⟨na,nb,nc,nd⟩:=mp
 have HL:=hid hl
 have HR:=hid hr
 have OX:=hid ox
 have OP:=hid op
 have HM:=hid hmay
 clear hl hr ox op hmay
 unfold Yf
 rw [if_neg (by simp [hE])]
 have HE:=hid hE
 have hin:=Vy hE OX.out
 clear hE
 rcases hR:Vm u t with ⟨v,k⟩|⟨k⟩
 case no=>
  rw [hR] at hin
  have HRR:=hid hR
  have hk:((k:Int) != 1)=true:=by rcases hin with rfl|rfl<;>rfl
  have hk1:Yg k:=by rcases hin with rfl|rfl<;>(unfold Yg;omega)
  clear hR hin
  go_enter func24,ntmps24
  go_wp2_with (go_at_call 22;refine (Zhe t u _ A ⟨ma,mb,mc,md,me,mf,mg,mh,mi,mj,mk,ml⟩ OX.out hs (by exact ZlV az _ _ HL.out) hus HE.out k HRR.out).mono ?_;rintro e w1 ⟨hb1,rfl⟩;have hz1:=hb1.size;(try simp at hz1);obtain ⟨hc1,hf1⟩:=Za hb1;have y0:w.heap.size < w1.heap.size:=om;have y1:w.heap.size+1 < w1.heap.size:=om;have y2:w.heap.size+2 < w1.heap.size:=om)
  exact Zni
 rw [hR] at hin
 obtain ⟨i1,i2,i3⟩:=hin
 have HRR:=hid hR
 have OV3:=hid i3
 clear hR i3
 dsimp only
 by_cases hh:Zh p v=true
 ·rw [if_pos hh]
  have HH:=hid hh
  clear hh
  go_enter func24,ntmps24
  go_wp2_with (first
   | (go_at_call 22;refine (ZcJ t u _ A ⟨ma,mb,mc,md,me,mf,mg,mh,mi,mj,mk,ml⟩ OX.out hs (by exact ZlV az _ _ HL.out) hus HE.out v k HRR.out).mono ?_;rintro e w1 ⟨hb1,mv,rfl,hrv⟩;have HRV:=hid hrv;clear hrv;have hz1:=hb1.size;(try simp at hz1);obtain ⟨hc1,hf1⟩:=Za hb1;have y0:w.heap.size < w1.heap.size:=om;have y1:w.heap.size+1 < w1.heap.size:=om;have y2:w.heap.size+2 < w1.heap.size:=om)
   | (go_at_call 42;refine (Vg p v true HH.out A2 (fun _=>True) ⟨na,nb,nc,nd⟩ mv _ OP.out hp (by exact ZmP az _ _ HR.out) OV3.out (by exact ZmO (fun _ _ _=>trivial) _ _ (ZmG (ZlH (Below.mono (B:=w1.heap.size) ZlD (Nat.le_refl _))) _ _ HRV.out)) HM.out).mono ?_;rintro e w2 ⟨rfl,hb2⟩;have hz2:=hb2.size;(try simp at hz2);obtain ⟨hc2,hf2⟩:=Za hb2;have y3:w.heap.size < w2.heap.size:=om;have y4:w.heap.size+1 < w2.heap.size:=om;have y5:w.heap.size+2 < w2.heap.size:=om))
  have r0:w2.cell? ⟨w.heap.size+2,0,none⟩=some (.int .u8 0):=gs
  have q0:w2.frozen? ⟨w.heap.size+2,0,none⟩=false:=gs
  have r1:w2.cell? ⟨w.heap.size+2,1,none⟩=some (.int .i64 0):=gs
  have q1:w2.frozen? ⟨w.heap.size+2,1,none⟩=false:=gs
  have r2:w2.cell? ⟨w.heap.size+2,2,none⟩=some (.slice none 0 0):=gs
  have q2:w2.frozen? ⟨w.heap.size+2,2,none⟩=false:=gs
  exact Zni
 rw [if_neg hh]
 have HH:=hid (show Zh p v=false by simpa using hh)
 have x1:(k:Int)≤(u.size:Int):=om
 have hpz:(Qv u k).size=k:=Q0 u k om
 have HPZ:=hid hpz
 clear hh hpz
 go_enter func24,ntmps24
 go_wp2_with (first
  | (go_at_call 22;refine (ZcJ t u _ A ⟨ma,mb,mc,md,me,mf,mg,mh,mi,mj,mk,ml⟩ OX.out hs (by exact ZlV az _ _ HL.out) hus HE.out v k HRR.out).mono ?_;rintro e w1 ⟨hb1,mv,rfl,hrv⟩;have HRV:=hid hrv;clear hrv;have hz1:=hb1.size;(try simp at hz1);obtain ⟨hc1,hf1⟩:=Za hb1;have y0:w.heap.size < w1.heap.size:=om;have y1:w.heap.size+1 < w1.heap.size:=om;have y2:w.heap.size+2 < w1.heap.size:=om)
  | (go_at_call 42;refine (Vg p v false HH.out A2 (fun _=>True) ⟨na,nb,nc,nd⟩ mv _ OP.out hp (by exact ZmP az _ _ HR.out) OV3.out (by exact ZmO (fun _ _ _=>trivial) _ _ (ZmG (ZlH (Below.mono (B:=w1.heap.size) ZlD (Nat.le_refl _))) _ _ HRV.out)) HM.out).mono ?_;rintro e w2 ⟨rfl,hb2⟩;have hz2:=hb2.size;(try simp at hz2);obtain ⟨hc2,hf2⟩:=Za hb2;have y3:w.heap.size < w2.heap.size:=om;have y4:w.heap.size+1 < w2.heap.size:=om;have y5:w.heap.size+2 < w2.heap.size:=om;have y6:w1.heap.size < w2.heap.size:=om))
 obtain ⟨vk,vn,vl⟩:=v
 obtain ⟨va,vc⟩:=mv
 have hbw:Below w1.heap.size w1 w2:=ZlD
 have HW2:=hid (ZmG (ZlH hbw) _ _ HRV.out)
 have k0:w2.cell? ⟨w1.heap.size,0,none⟩=some (.int .u8 1):=gs
 have k1:w2.cell? ⟨w1.heap.size,1,none⟩=some (.int .u8 vk):=gs
 have k2:w2.cell? ⟨w1.heap.size,2,none⟩=some (.int .i64 vn):=gs
 have k3:w2.cell? ⟨w1.heap.size,3,none⟩=some (.slice va vl.length vc):=gs
 have k4:w2.cell? ⟨w1.heap.size,4,none⟩=some (.int .i64 k):=gs
 have hB:Below w.heap.size w w2:=ZlD
 have r0:w2.cell? ⟨w.heap.size+2,0,none⟩=some (.int .u8 0):=gs
 have q0:w2.frozen? ⟨w.heap.size+2,0,none⟩=false:=gs
 have r1:w2.cell? ⟨w.heap.size+2,1,none⟩=some (.int .i64 0):=gs
 have q1:w2.frozen? ⟨w.heap.size+2,1,none⟩=false:=gs
 have r2:w2.cell? ⟨w.heap.size+2,2,none⟩=some (.slice none 0 0):=gs
 have q2:w2.frozen? ⟨w.heap.size+2,2,none⟩=false:=gs
 clear hc1 hc2 hf1 hf2
 go_region_held3 (fun W=>∀j,W.cell? ⟨w1.heap.size,j,none⟩=w2.cell? ⟨w1.heap.size,j,none⟩) ((intro j;first|(refine Below.cell (B:=w2.heap.size) (w:=w2) (p:=⟨w1.heap.size,j,none⟩) ?_ y6;((repeat (first|with_reducible exact Below.refl _ _|with_reducible assumption|with_reducible refine Below.trans ?_ (Below.mono (by with_reducible assumption) (by first|omega|(simp;done)|(simp;omega)))|with_reducible refine Below.drew ?_|with_reducible refine Below.alloc ?_ (by first|omega|(simp;done)|(simp;omega)) _|with_reducible refine Below.setCell ?_ (by first|omega|(simp;done)|(simp;omega)) _));done);done)|go_simp)) ((fail))
 all_goals go_wp2_with fail
 all_goals refine bodyPost_ret (v:=(.tuple #[.int .i64 k,VV ⟨vk,vn,vl⟩ ⟨va,vc⟩,.bool true])) (by first|(simp [results,Tryz.f24,go_sem];done)|(simp [results,Tryz.f24,go_sem, *];done)) rfl ?_
 all_goals exact ⟨ZlD,⟨va,vc⟩,by show Ending.returned (.tuple #[.int .i64 k,VV ⟨vk,vn,vl⟩ ⟨va,vc⟩,.bool true])=Ending.returned (.tuple #[.int .i64 ((Qv u k).size:Int),VV ⟨vk,vn,vl⟩ ⟨va,vc⟩,.bool true]);rw [HPZ.out],ZmO (A:=fun b=>w.heap.size+2+1≤b) (fun b h _=>om) _ _ (ZmG ((WZ _ _ _).trans (ZlH (Below.drew (Below.refl _ _)))) _ _ (ZmO (fun b h _=>by simpa using h) _ _ HW2.out))⟩
end Go.Proofs.YtclphfojkggcpaaGreatDoor
