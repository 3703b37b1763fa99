/- Part 25. -/
import Derived.Test.YtkdffbdnjfgpeaaGreatY23
import Derived.Test.YtkdffbdnjfgpeaaGreatY26
import Derived.Test.YtkdffbdnjfgpeaaGreatYTk
set_option linter.all false
namespace Go.Proofs.YtkdffbdnjfgpeaaGreat
open Go.Lib (hid)
open Go Go.RowKit Go.Proofs.Tryz
theorem Zl9 {p:Prop} (h:p:=by
 go_simp
 go_wp2_with (go_at_call 145;refine (UX _ _).mono ?_;rintro e1 w4 ⟨rfl,hb4⟩)
 exact ⟨rfl,Zt1,rfl⟩):p:=h
set_option maxRecDepth 100000
set_option maxHeartbeats 32000000
theorem Zk7 (c:Nat) (s:ByteArray) (S f:Nat) (hS:S≤1099511627776) (ih:Vn c s S f) (t:GT) (e:Env) (i:Nat) (w:World) (x:TA) (a:Option Addr) (hb:Zc s=true) (hg:Zp (!e.isEmpty) t) (ox:okT t) (hs:Zb t≤S) (he:Ye S e) (hi:i≤s.size) (hwk:∃k n,wkT (f+1) t e k n≠none) (hk:t.k=3) (hc:Cur w c s i false) (hr:RT w (fun b=>b≠c) t x) (hv:REnv w (fun b=>b≠c) e a):
  Calls prog 94 #[.agg #[.pointer (some ⟨c,0,none⟩)],TV t x,.pointer a] w (UH c s (Zd s (f+1) t e i) w):=by
 rw [ZaP _ _ _ _ _ hk]
 have hargs:=U7 hg ox hs om hwk
 obtain ⟨ma,mb,mc,md,me,mf,mg,mh,mi,mj,mk,ml⟩:=x
 have hcs:c < w.heap.size:=World.block_lt_of_cell? _ _ hc.1.1
 have HC:=hid hc
 have HB:=hid hb
 obtain ⟨hrv1,hrv2,hrv3,hrv4,hrv5⟩:=Zo.1 hr
 have HR:=hid hr
 have H1:=hid hrv1
 have H2:=hid hrv2
 have H3:=hid hrv3
 have H4:=hid hrv4
 have HL:=hid hrv5
 obtain ⟨⟨x1,x2⟩,ov,⟨ovl,ovs⟩,⟨l1,l2⟩,⟨l3,l4⟩,⟨owl,ow⟩,op,oal,oa⟩:=Ze.1 ox
 have OX:=hid ox
 have OV:=hid ov
 have OVS:=hid ovs
 have OW:=hid ow
 have OP:=hid op
 have O:=hid oa
 have HND:=hid (Zk.1 hg).1
 have hse:=Zq t
 dsimp only at H1 H2 H3 H4 HL
 obtain ⟨hal,hfe⟩:=JU HND.out hk
 obtain ⟨f1,f64,_,_,_⟩:=Y0 hfe
 have HFE:=hid hfe
 have IH:=hid ih
 have HV:=hid hv
 have HE:=hid he
 have HA:=hid hargs
 have hHL:=HL.out
 have hfin:=Zbi s t.w i hi hfe
 have hk1:(t.k==1)=false:=by simp [hk]
 have hk2:(t.k==2)=false:=by simp [hk]
 have hk3:(t.k==3)=true:=by simp [hk]
 have HAL:=hid hal
 clear hg ox hr hc hb hrv1 hrv2 hrv3 hrv4 hrv5 ov ovs ow op oa hk hargs hv he ih hwk hfe hHL
 rcases hP:VS s t.w i with ⟨_|v,j⟩
 ·have HP:=hid hP
  clear hP hfin hal
  simp only [Y2,Res.bind]
  go_enter func94,ntmps94
  go_wp2_with (go_at_call 144;refine (Uf t.w _ (fun b=>b≠c) me mf OW.out om (by exact Zuc (Zt0 Zt1) _ _ H3.out)).mono ?_;rintro e1 w1 ⟨hb1,h1⟩;rcases h1 with ⟨h1,_⟩|⟨_,b2,a2,c2,rfl,hbz,hbz2,hcl,hps⟩;exact absurd HFE.out h1;have HPS:=hid hps;clear hps;have hz1:=hb1.size;simp at hz1 hbz;have p0:w1.cell? ⟨w.heap.size,0,none⟩=some (.pointer (some ⟨c,0,none⟩)):=(hb1.cell so).trans gs;have p14:w1.cell? ⟨w.heap.size+1,14,none⟩=some (.slice mk t.a.length ml):=(hb1.cell so).trans gs;have hB1:Below w.heap.size w w1:=ZtX)
  refine wp_region_held_drew (S:=(fun W=>W.cell? ⟨w.heap.size,0,none⟩=some (.pointer (some ⟨c,0,none⟩))∧W.cell? ⟨w.heap.size+1,14,none⟩=some (.slice mk t.a.length ml))) kr ?_ (fun hHeld=>?_)
  ·((try dsimp only);(refine ⟨?_,?_⟩<;>go_simp))
  refine tzh 0 ?_
  try simp only [Act.put,sl,s0,ss]
  refine tzh 1 ?_
  try simp only [Act.put,sl,s0,ss]
  refine tzh 2 ?_
  try simp only [Act.put,sl,s0,ss]
  refine tzh 3 ?_
  try simp only [Act.put,sl,s0,ss]
  refine tzh 4 ?_
  try simp only [Act.put,sl,s0,ss]
  refine tzh 5 ?_
  try simp only [Act.put,sl,s0,ss]
  refine tzh 12 ?_
  try simp only [Act.put,sl,s0,ss]
  refine wrh1 6 fun K hK=>?_
  go_simp
  go_wp2_with (go_at_call 146;(refine (YZ t.w s i b2 c c2 a2 _ HB.out hi HFE.out om gs (by exact Zuc az _ _ (ZxH (fun k hk _=>(by simp at hk;omega)) _ _ HPS.out)) (by exact Zt3 (B:=w.heap.size) ZtX hcs HC.out)).mono ?_);rw [HP.out];(rintro e1 w3 ⟨hb3,rfl,hc3⟩;have hz3':=hb3.size;(try simp at hz3');have p30:w3.cell? ⟨w.heap.size,0,none⟩=some (.pointer (some ⟨c,0,none⟩)):=(hb3.cell so so).trans gs;have p314:w3.cell? ⟨w.heap.size+1,14,none⟩=some (.slice mk t.a.length ml):=(hb3.cell so so).trans gs))
  refine hK.out _ _ ?_ (fun hHeld=>?_)
  ·((try dsimp only);(refine ⟨?_,?_⟩<;>go_simp))
  clear hK K
  refine tzh 7 ?_
  try simp only [Act.put,sl,s0,ss]
  refine tzh 8 ?_
  try simp only [Act.put,sl,s0,ss]
  refine wrh1 9 fun K hK=>?_
  exact Zl9
 have HP:=hid hP
 rw [hP] at hfin
 have hvw:=hfin.2.2 v rfl
 have hj:=hfin.2.1
 simp only [] at hj
 have hva:v < t.a.length:=om
 have hvI:(v:Int) < (t.a.length:Int):=om
 have hat:atD (fun x=>Zd s f x e) t.a v j=Zd s f t.a[v] e j:=by unfold atD;rw [List.getElem?_eq_getElem hva]
 have HX:=hid (HA.out t.a[v] (List.getElem_mem hva))
 obtain ⟨b,o,mj',hja,hA,hbs,g0,gx⟩:=HL.out.get v hva
 subst hja
 have G0:=hid g0
 have hbc:¬b=c:=hA
 clear hP hfin hal g0
 simp only [Y2,Res.bind]
 rw [hat]
 clear hat
 rcases hW:Zd s f t.a[v] e j with ⟨v',q⟩|⟨k⟩
 ·have HW:=hid hW
  clear hW
  go_enter func94,ntmps94
  go_wp2_with (go_at_call 144;refine (Uf t.w _ (fun b=>b≠c) me mf OW.out om (by exact Zuc (Zt0 Zt1) _ _ H3.out)).mono ?_;rintro e1 w1 ⟨hb1,h1⟩;rcases h1 with ⟨h1,_⟩|⟨_,b2,a2,c2,rfl,hbz,hbz2,hcl,hps⟩;exact absurd HFE.out h1;have HPS:=hid hps;clear hps;have hz1:=hb1.size;simp at hz1 hbz;have p0:w1.cell? ⟨w.heap.size,0,none⟩=some (.pointer (some ⟨c,0,none⟩)):=(hb1.cell so).trans gs;have p14:w1.cell? ⟨w.heap.size+1,14,none⟩=some (.slice (some ⟨b,o,none⟩) t.a.length ml):=(hb1.cell so).trans gs;have hB1:Below w.heap.size w w1:=ZtX)
  refine wp_region_held_drew (S:=(fun W=>W.cell? ⟨w.heap.size,0,none⟩=some (.pointer (some ⟨c,0,none⟩))∧W.cell? ⟨w.heap.size+1,14,none⟩=some (.slice (some ⟨b,o,none⟩) t.a.length ml))) kr ?_ (fun hHeld=>?_)
  ·((try dsimp only);(refine ⟨?_,?_⟩<;>go_simp))
  refine tzh 0 ?_
  try simp only [Act.put,sl,s0,ss]
  refine tzh 1 ?_
  try simp only [Act.put,sl,s0,ss]
  refine tzh 2 ?_
  try simp only [Act.put,sl,s0,ss]
  refine tzh 3 ?_
  try simp only [Act.put,sl,s0,ss]
  refine tzh 4 ?_
  try simp only [Act.put,sl,s0,ss]
  refine tzh 5 ?_
  try simp only [Act.put,sl,s0,ss]
  refine tzh 12 ?_
  try simp only [Act.put,sl,s0,ss]
  refine wrh1 6 fun K hK=>?_
  go_simp
  go_wp2_with (go_at_call 146;refine (YZ t.w s i b2 c c2 a2 _ HB.out hi HFE.out om gs (by exact Zuc az _ _ (ZxH (fun k hk _=>(by simp at hk;omega)) _ _ HPS.out)) (by exact Zt3 (B:=w.heap.size) ZtX hcs HC.out)).mono ?_;rw [HP.out];rintro e1 w3 ⟨hb3,rfl,hc3⟩;have HC3:=hid hc3;clear hc3;have hz3':=hb3.size;(try simp at hz3');have p30:w3.cell? ⟨w.heap.size,0,none⟩=some (.pointer (some ⟨c,0,none⟩)):=(hb3.cell so so).trans gs;have p314:w3.cell? ⟨w.heap.size+1,14,none⟩=some (.slice (some ⟨b,o,none⟩) t.a.length ml):=(hb3.cell so so).trans gs;have hbb3:But c w.heap.size w w3:=Zt1;obtain ⟨z0,z1,z2,z3,z4,z5,z6,z7,z8,z9,za,zb,zc,zd,ze⟩:=Yp.1 (Zuf (Zt0 hbb3) hA _ _ G0.out))
  refine hK.out _ _ ?_ (fun hHeld=>?_)
  ·((try dsimp only);(refine ⟨?_,?_⟩<;>go_simp))
  clear hK K
  refine tzh 7 ?_
  try simp only [Act.put,sl,s0,ss]
  refine tzh 8 ?_
  try simp only [Act.put,sl,s0,ss]
  refine wrh1 9 fun K hK=>?_
  go_simp
  go_wp2_with (go_at_call 145;refine (Y1 _ _).mono ?_;rintro e1 w5 ⟨rfl,rfl⟩)
  refine hK.out _ _ ?_ (fun hHeld=>?_)
  ·((try dsimp only);(refine ⟨?_,?_⟩<;>go_simp))
  clear hK K
  refine tzh 10 ?_
  try simp only [Act.put,sl,s0,ss]
  refine wrh1 11 fun K hK=>?_
  go_simp
  refine hK.out _ _ ?_ (fun hHeld=>?_)
  ·((try dsimp only);(refine ⟨?_,?_⟩<;>go_simp))
  clear hK K
  refine wrh1 13 fun K hK=>?_
  go_simp
  go_wp2_with (go_at_call 94;refine (IH.out t.a[v] e j _ mj' a HX.out.1 HX.out.2.1 HX.out.2.2.1 HE.out hj HX.out.2.2.2 (by exact HC3.out) (by exact Zt2 (Zt0 hbb3) _ _ gx) (by exact Zua (Zt0 hbb3) _ _ HV.out)).mono ?_;rw [HW.out];(rintro e1 w2 ⟨hb2,⟨m2,rfl,hrv⟩,hc2⟩;have HRV:=hid hrv;have HC2:=hid hc2;clear hrv hc2;have hbb2:=(Zue (c:=c) hb1.drew).trans ((hb3.mono hb1.size).trans (hb2.mono (Nat.le_trans hb1.size hb3.size)));have hz2:=hb2.size;(try simp at hz2);have hbb:But c w.heap.size w w2:=Zt1;have rq0:w2.cell? ⟨w.heap.size+1+1,0,none⟩=some (.int .u8 0):=(hbb2.cell so so).trans gs;have rq1:w2.cell? ⟨w.heap.size+1+1,1,none⟩=some (.int .i64 0):=(hbb2.cell so so).trans gs;have rq2:w2.cell? ⟨w.heap.size+1+1,2,none⟩=some (.slice none 0 0):=(hbb2.cell so so).trans gs;have rf0:w2.frozen? ⟨w.heap.size+1+1,0,none⟩=false:=(hbb2.frozen so so).trans gs;have rf1:w2.frozen? ⟨w.heap.size+1+1,1,none⟩=false:=(hbb2.frozen so so).trans gs;have rf2:w2.frozen? ⟨w.heap.size+1+1,2,none⟩=false:=(hbb2.frozen so so).trans gs;have hz3:w.heap.size+1+1 < w2.heap.size:=om;have s20:w2.cell? ⟨w.heap.size,0,none⟩=some (.pointer (some ⟨c,0,none⟩)):=(hb2.cell so so).trans gs;have s214:w2.cell? ⟨w.heap.size+1,14,none⟩=some (.slice (some ⟨b,o,none⟩) t.a.length ml):=(hb2.cell so so).trans gs))
  refine hK.out _ _ ?_ (fun hHeld=>?_)
  ·((try dsimp only);(refine ⟨?_,?_⟩<;>go_simp))
  clear hK K
  refine wrh1 14 fun K hK=>?_
  go_simp
  refine hK.out _ _ ?_ (fun hHeld=>?_)
  ·((try dsimp only);(refine ⟨?_,?_⟩<;>go_simp))
  clear hK K
  refine wpAnyH_done kr ?_ _
  (go_wp2_with fail;refine bodyPost_ret (v:=VV v' m2) (by first|(simp [results,Tryz.f94,go_sem];done)|(simp [results,Tryz.f94,go_sem,rq0,rq1,rq2,rf0,rf1,rf2,hz3];done)) rfl ?_;exact ⟨Zt1,⟨m2,rfl,Zt9 (fun b hb _=>by (try simp at hb);omega) _ _ (Zt5 (((Zt4 so).trans (Zt4 so)).trans (Zt4 so)) _ _ HRV.out)⟩,Zt3 (B:=w.heap.size) ZtX hcs HC2.out⟩)
 have HW:=hid hW
 clear hW
 go_enter func94,ntmps94
 go_wp2_with (go_at_call 144;refine (Uf t.w _ (fun b=>b≠c) me mf OW.out om (by exact Zuc (Zt0 Zt1) _ _ H3.out)).mono ?_;rintro e1 w1 ⟨hb1,h1⟩;rcases h1 with ⟨h1,_⟩|⟨_,b2,a2,c2,rfl,hbz,hbz2,hcl,hps⟩;exact absurd HFE.out h1;have HPS:=hid hps;clear hps;have hz1:=hb1.size;simp at hz1 hbz;have p0:w1.cell? ⟨w.heap.size,0,none⟩=some (.pointer (some ⟨c,0,none⟩)):=(hb1.cell so).trans gs;have p14:w1.cell? ⟨w.heap.size+1,14,none⟩=some (.slice (some ⟨b,o,none⟩) t.a.length ml):=(hb1.cell so).trans gs;have hB1:Below w.heap.size w w1:=ZtX)
 refine wp_region_held_drew (S:=(fun W=>W.cell? ⟨w.heap.size,0,none⟩=some (.pointer (some ⟨c,0,none⟩))∧W.cell? ⟨w.heap.size+1,14,none⟩=some (.slice (some ⟨b,o,none⟩) t.a.length ml))) kr ?_ (fun hHeld=>?_)
 ·((try dsimp only);(refine ⟨?_,?_⟩<;>go_simp))
 refine tzh 0 ?_
 try simp only [Act.put,sl,s0,ss]
 refine tzh 1 ?_
 try simp only [Act.put,sl,s0,ss]
 refine tzh 2 ?_
 try simp only [Act.put,sl,s0,ss]
 refine tzh 3 ?_
 try simp only [Act.put,sl,s0,ss]
 refine tzh 4 ?_
 try simp only [Act.put,sl,s0,ss]
 refine tzh 5 ?_
 try simp only [Act.put,sl,s0,ss]
 refine tzh 12 ?_
 try simp only [Act.put,sl,s0,ss]
 refine wrh1 6 fun K hK=>?_
 go_simp
 go_wp2_with (go_at_call 146;refine (YZ t.w s i b2 c c2 a2 _ HB.out hi HFE.out om gs (by exact Zuc az _ _ (ZxH (fun k hk _=>(by simp at hk;omega)) _ _ HPS.out)) (by exact Zt3 (B:=w.heap.size) ZtX hcs HC.out)).mono ?_;rw [HP.out];rintro e1 w3 ⟨hb3,rfl,hc3⟩;have HC3:=hid hc3;clear hc3;have hz3':=hb3.size;(try simp at hz3');have p30:w3.cell? ⟨w.heap.size,0,none⟩=some (.pointer (some ⟨c,0,none⟩)):=(hb3.cell so so).trans gs;have p314:w3.cell? ⟨w.heap.size+1,14,none⟩=some (.slice (some ⟨b,o,none⟩) t.a.length ml):=(hb3.cell so so).trans gs;have hbb3:But c w.heap.size w w3:=Zt1;obtain ⟨z0,z1,z2,z3,z4,z5,z6,z7,z8,z9,za,zb,zc,zd,ze⟩:=Yp.1 (Zuf (Zt0 hbb3) hA _ _ G0.out))
 refine hK.out _ _ ?_ (fun hHeld=>?_)
 ·((try dsimp only);(refine ⟨?_,?_⟩<;>go_simp))
 clear hK K
 refine tzh 7 ?_
 try simp only [Act.put,sl,s0,ss]
 refine tzh 8 ?_
 try simp only [Act.put,sl,s0,ss]
 refine wrh1 9 fun K hK=>?_
 go_simp
 go_wp2_with (go_at_call 145;refine (Y1 _ _).mono ?_;rintro e1 w5 ⟨rfl,rfl⟩)
 refine hK.out _ _ ?_ (fun hHeld=>?_)
 ·((try dsimp only);(refine ⟨?_,?_⟩<;>go_simp))
 clear hK K
 refine tzh 10 ?_
 try simp only [Act.put,sl,s0,ss]
 refine wrh1 11 fun K hK=>?_
 go_simp
 refine hK.out _ _ ?_ (fun hHeld=>?_)
 ·((try dsimp only);(refine ⟨?_,?_⟩<;>go_simp))
 clear hK K
 refine wrh1 13 fun K hK=>?_
 go_simp
 go_wp2_with (go_at_call 94;refine (IH.out t.a[v] e j _ mj' a HX.out.1 HX.out.2.1 HX.out.2.2.1 HE.out hj HX.out.2.2.2 (by exact HC3.out) (by exact Zt2 (Zt0 hbb3) _ _ gx) (by exact Zua (Zt0 hbb3) _ _ HV.out)).mono ?_;rw [HW.out];rintro e1 w2 ⟨hb2,rfl⟩)
 exact ⟨rfl,Zt1,rfl⟩
theorem Zk8 (c:Nat) (s:ByteArray) (S f:Nat) (hS:S≤1099511627776) (t:GT) (e:Env) (i:Nat) (w:World) (x:TA) (a:Option Addr) (hb:Zc s=true) (hg:Zp (!e.isEmpty) t) (ox:okT t) (hi:i≤s.size) (hk:t.k=4) (hc:Cur w c s i false) (hr:RT w (fun b=>b≠c) t x):
  Calls prog 94 #[.agg #[.pointer (some ⟨c,0,none⟩)],TV t x,.pointer a] w (UH c s (Zd s (f+1) t e i) w):=by
 rw [ZaQ _ _ _ _ _ hk]
 obtain ⟨ma,mb,mc,md,me,mf,mg,mh,mi,mj,mk,ml⟩:=x
 have hcs:c < w.heap.size:=World.block_lt_of_cell? _ _ hc.1.1
 have HC:=hid hc
 have HB:=hid hb
 obtain ⟨hrv1,hrv2,hrv3,hrv4,hrv5⟩:=Zo.1 hr
 have HR:=hid hr
 have H1:=hid hrv1
 have H2:=hid hrv2
 have H3:=hid hrv3
 have H4:=hid hrv4
 have HL:=hid hrv5
 obtain ⟨⟨x1,x2⟩,ov,⟨ovl,ovs⟩,⟨l1,l2⟩,⟨l3,l4⟩,⟨owl,ow⟩,op,oal,oa⟩:=Ze.1 ox
 have OX:=hid ox
 have OV:=hid ov
 have OVS:=hid ovs
 have OW:=hid ow
 have OP:=hid op
 have O:=hid oa
 have HND:=hid (Zk.1 hg).1
 have hse:=Zq t
 dsimp only at H1 H2 H3 H4 HL
 obtain ⟨hal,hfe,hal0⟩:=Kv HND.out hk
 obtain ⟨f1,f64,_,_,_⟩:=Y0 hfe
 have HFE:=hid hfe
 have hfin:=JJ s t.w i hi
 have hk1:(t.k==1)=false:=by simp [hk]
 have hk2:(t.k==2)=false:=by simp [hk]
 have hk3:(t.k==3)=false:=by simp [hk]
 have hk4:(t.k==4)=true:=by simp [hk]
 clear hg ox hr hc hb hrv1 hrv2 hrv3 hrv4 hrv5 ov ovs ow op oa hk hfe hal0
 rcases hP:Ys s t.w i with ⟨_|v,j⟩
 ·have HP:=hid hP
  clear hP hfin hal
  simp only [Y2,Res.bind]
  go_enter func94,ntmps94
  go_wp2_with (go_at_call 147;refine (K1 t.w _ (fun b=>b≠c) me mf HFE.out (by exact Zuc (Zt0 Zt1) _ _ H3.out)).mono ?_;rintro e1 w1 ⟨hb1,b2,gc,go,rfl,hbz,hd1,hd2,htab,hrc,hro⟩;have HTAB:=hid htab;have HRC:=hid hrc;have HRO:=hid hro;clear htab hrc hro;have hz1:=hb1.size;simp at hz1 hbz;have p0:w1.cell? ⟨w.heap.size,0,none⟩=some (.pointer (some ⟨c,0,none⟩)):=(hb1.cell so).trans gs;have p14:w1.cell? ⟨w.heap.size+1,4,none⟩=some (.slice mc t.vs.length md):=(hb1.cell so).trans gs;have hB1:Below w.heap.size w w1:=ZtX)
  refine wp_region_held_drew (S:=(fun W=>W.cell? ⟨w.heap.size,0,none⟩=some (.pointer (some ⟨c,0,none⟩))∧W.cell? ⟨w.heap.size+1,4,none⟩=some (.slice mc t.vs.length md))) kr ?_ (fun hHeld=>?_)
  ·((try dsimp only);(refine ⟨?_,?_⟩<;>go_simp))
  refine tzh 0 ?_
  try simp only [Act.put,sl,s0,ss]
  refine tzh 1 ?_
  try simp only [Act.put,sl,s0,ss]
  refine tzh 2 ?_
  try simp only [Act.put,sl,s0,ss]
  refine tzh 3 ?_
  try simp only [Act.put,sl,s0,ss]
  refine tzh 4 ?_
  try simp only [Act.put,sl,s0,ss]
  refine wrh1 5 fun K hK=>?_
  go_simp
  go_wp2_with (go_at_call 148;refine (Wf t.w s i b2 c gc go _ HB.out hi HFE.out om (by exact HTAB.out.congr rfl) (by exact Zuc az _ _ (HRC.out.ris (by have:=HRC.out.lt;simp at this;omega))) (by exact Zuc az _ _ (HRO.out.ris (by have:=HRO.out.lt;simp at this;omega))) (by exact Zt3 (B:=w.heap.size) ZtX hcs HC.out)).mono ?_;rw [HP.out];rintro e1 w3 ⟨hb3,rfl,hc3⟩;have hz3':=hb3.size;(try simp at hz3');have p30:w3.cell? ⟨w.heap.size,0,none⟩=some (.pointer (some ⟨c,0,none⟩)):=(hb3.cell so so).trans gs;have p314:w3.cell? ⟨w.heap.size+1,4,none⟩=some (.slice mc t.vs.length md):=(hb3.cell so so).trans gs)
  refine hK.out _ _ ?_ (fun hHeld=>?_)
  ·((try dsimp only);(refine ⟨?_,?_⟩<;>go_simp))
  clear hK K
  refine tzh 6 ?_
  try simp only [Act.put,sl,s0,ss]
  refine tzh 7 ?_
  try simp only [Act.put,sl,s0,ss]
  refine wrh1 8 fun K hK=>?_
  exact Zl9
 have HP:=hid hP
 rw [hP] at hfin
 have hvw:=hfin.2.2 v rfl
 have hva:v < t.vs.length:=om
 have hvI:(v:Int) < (t.vs.length:Int):=om
 have hat:atD (fun v j=>Res.ok v j) t.vs v j=Res.ok t.vs[v] j:=by unfold atD;rw [List.getElem?_eq_getElem hva]
 obtain ⟨b,o,mj',hja,hA,hbs,g0,gx⟩:=H2.out.get v hva
 subst hja
 have G0:=hid g0
 have GX:=hid gx
 have OJ:=hid (OVS.out.get v hva)
 have hbc:¬b=c:=hA
 clear hP hfin hal g0 gx
 simp only [Y2,Res.bind]
 rw [hat]
 clear hat
 go_enter func94,ntmps94
 go_wp2_with (go_at_call 147;refine (K1 t.w _ (fun b=>b≠c) me mf HFE.out (by exact Zuc (Zt0 Zt1) _ _ H3.out)).mono ?_;rintro e1 w1 ⟨hb1,b2,gc,go,rfl,hbz,hd1,hd2,htab,hrc,hro⟩;have HTAB:=hid htab;have HRC:=hid hrc;have HRO:=hid hro;clear htab hrc hro;have hz1:=hb1.size;simp at hz1 hbz;have p0:w1.cell? ⟨w.heap.size,0,none⟩=some (.pointer (some ⟨c,0,none⟩)):=(hb1.cell so).trans gs;have p14:w1.cell? ⟨w.heap.size+1,4,none⟩=some (.slice (some ⟨b,o,none⟩) t.vs.length md):=(hb1.cell so).trans gs;have hB1:Below w.heap.size w w1:=ZtX)
 refine wp_region_held_drew (S:=(fun W=>W.cell? ⟨w.heap.size,0,none⟩=some (.pointer (some ⟨c,0,none⟩))∧W.cell? ⟨w.heap.size+1,4,none⟩=some (.slice (some ⟨b,o,none⟩) t.vs.length md))) kr ?_ (fun hHeld=>?_)
 ·((try dsimp only);(refine ⟨?_,?_⟩<;>go_simp))
 refine tzh 0 ?_
 try simp only [Act.put,sl,s0,ss]
 refine tzh 1 ?_
 try simp only [Act.put,sl,s0,ss]
 refine tzh 2 ?_
 try simp only [Act.put,sl,s0,ss]
 refine tzh 3 ?_
 try simp only [Act.put,sl,s0,ss]
 refine tzh 4 ?_
 try simp only [Act.put,sl,s0,ss]
 refine wrh1 5 fun K hK=>?_
 go_simp
 go_wp2_with (go_at_call 148;refine (Wf t.w s i b2 c gc go _ HB.out hi HFE.out om (by exact HTAB.out.congr rfl) (by exact Zuc az _ _ (HRC.out.ris (by have:=HRC.out.lt;simp at this;omega))) (by exact Zuc az _ _ (HRO.out.ris (by have:=HRO.out.lt;simp at this;omega))) (by exact Zt3 (B:=w.heap.size) ZtX hcs HC.out)).mono ?_;rw [HP.out];rintro e1 w3 ⟨hb3,rfl,hc3⟩;have HC3:=hid hc3;clear hc3;have hz3':=hb3.size;(try simp at hz3');have p30:w3.cell? ⟨w.heap.size,0,none⟩=some (.pointer (some ⟨c,0,none⟩)):=(hb3.cell so so).trans gs;have p314:w3.cell? ⟨w.heap.size+1,4,none⟩=some (.slice (some ⟨b,o,none⟩) t.vs.length md):=(hb3.cell so so).trans gs;have hbb3:But c w.heap.size w w3:=Zt1;obtain ⟨z0,z1,z2⟩:=At3.1 (Zuf (Zt0 hbb3) hA _ _ G0.out))
 refine hK.out _ _ ?_ (fun hHeld=>?_)
 ·((try dsimp only);(refine ⟨?_,?_⟩<;>go_simp))
 clear hK K
 refine tzh 6 ?_
 try simp only [Act.put,sl,s0,ss]
 refine tzh 7 ?_
 try simp only [Act.put,sl,s0,ss]
 refine wrh1 8 fun K hK=>?_
 go_simp
 go_wp2_with (go_at_call 145;refine (Y1 _ _).mono ?_;rintro e1 w5 ⟨rfl,rfl⟩)
 refine hK.out _ _ ?_ (fun hHeld=>?_)
 ·((try dsimp only);(refine ⟨?_,?_⟩<;>go_simp))
 clear hK K
 refine tzh 9 ?_
 try simp only [Act.put,sl,s0,ss]
 refine wrh1 10 fun K hK=>?_
 go_simp
 refine hK.out _ _ ?_ (fun hHeld=>?_)
 ·((try dsimp only);(refine ⟨?_,?_⟩<;>go_simp))
 clear hK K
 refine wrh1 11 fun K hK=>?_
 go_simp
 go_wp2_with (go_at_call 90;refine (QQ t.vs[v] mj' _ (fun b=>b≠c) OJ.out (by exact Zt5 (Zt0 hbb3) _ _ GX.out)).mono ?_;rintro e1 w2 ⟨hb2',m2,rfl,hrv⟩;have HRV:=hid hrv;clear hrv;have hb2:=hb2';have hbb2:=(Zue (c:=c) hb1.drew).trans ((hb3.mono hb1.size).trans ((Zue (c:=c) hb2').mono (Nat.le_trans hb1.size hb3.size)));have hz2:=hb2.size;(try simp at hz2);have hbb:But c w.heap.size w w2:=Zt1;have rq0:w2.cell? ⟨w.heap.size+1+1,0,none⟩=some (.int .u8 0):=(hbb2.cell so so).trans gs;have rq1:w2.cell? ⟨w.heap.size+1+1,1,none⟩=some (.int .i64 0):=(hbb2.cell so so).trans gs;have rq2:w2.cell? ⟨w.heap.size+1+1,2,none⟩=some (.slice none 0 0):=(hbb2.cell so so).trans gs;have rf0:w2.frozen? ⟨w.heap.size+1+1,0,none⟩=false:=(hbb2.frozen so so).trans gs;have rf1:w2.frozen? ⟨w.heap.size+1+1,1,none⟩=false:=(hbb2.frozen so so).trans gs;have rf2:w2.frozen? ⟨w.heap.size+1+1,2,none⟩=false:=(hbb2.frozen so so).trans gs;have hz3:w.heap.size+1+1 < w2.heap.size:=om;have HC2:=hid (Zt3 hb2 om HC3.out);have s20:w2.cell? ⟨w.heap.size,0,none⟩=some (.pointer (some ⟨c,0,none⟩)):=(hb2.cell so).trans gs;have s214:w2.cell? ⟨w.heap.size+1,4,none⟩=some (.slice (some ⟨b,o,none⟩) t.vs.length md):=(hb2.cell so).trans gs)
 refine hK.out _ _ ?_ (fun hHeld=>?_)
 ·((try dsimp only);(refine ⟨?_,?_⟩<;>go_simp))
 clear hK K
 refine wrh1 12 fun K hK=>?_
 go_simp
 refine hK.out _ _ ?_ (fun hHeld=>?_)
 ·((try dsimp only);(refine ⟨?_,?_⟩<;>go_simp))
 clear hK K
 refine wpAnyH_done kr ?_ _
 (go_wp2_with fail;refine bodyPost_ret (v:=VV t.vs[v] m2) (by first|(simp [results,Tryz.f94,go_sem];done)|(simp [results,Tryz.f94,go_sem,rq0,rq1,rq2,rf0,rf1,rf2,hz3];done)) rfl ?_;exact ⟨Zt1,⟨m2,rfl,Zt9 (fun b hb _=>by (try simp at hb);omega) _ _ (Zt5 (((Zt4 so).trans (Zt4 so)).trans (Zt4 so)) _ _ HRV.out)⟩,Zt3 (B:=w.heap.size) ZtX hcs HC2.out⟩)
set_option maxRecDepth 512
theorem JA (c:Nat) (s:ByteArray) (S f:Nat) (ih:Vn c s S f) (t:GT) (m:Int) (e:Env) (i:Nat) (w:World) (x:TA) (a:Option Addr) (hg:Zp (!e.isEmpty) t) (h10:t.k=10) (ox:okT t) (hs:Zb t≤S) (he:Ye S e) (hi:i≤s.size) (hm:0≤m∧m≤8)
  (hwk:∃k n,Xx (wkT f) t m e k n≠none) (hc:Cur w c s i false) (hr:RT w (fun b=>b≠c) t x) (hv:REnv w (fun b=>b≠c) e a):
  Calls prog 157 #[.agg #[.pointer (some ⟨c,0,none⟩)],TV t x,.int .i64 m,.pointer a] w (UH c s (Wd (Zd s f) t m e i) w):=by
 obtain ⟨k,n,hwk⟩:=hwk
 unfold Xx at hwk
 cases hs1:Zu n k with
 | none=>rw [hs1] at hwk;exact absurd rfl hwk
 | some n1=>
  rw [hs1] at hwk
  simp only [] at hwk
  unfold Wd
  by_cases hm0:m=0
  ·subst hm0
   rw [if_pos rfl] at hwk ⊢
   refine ZfY c s S f ih t e i w x a hg h10 ox hs he hi (fun y hy=>⟨k,n1,?_⟩) hc hr hv
   rw [hy] at hwk;exact hwk
  rw [if_neg hm0] at hwk ⊢
  have hw:∀y,t.a[1]? =some y→∃k n,wkT f y ((t,m - 1)::e) k n≠none:=fun y hy=>⟨k,n1,by rw [hy] at hwk;exact hwk⟩
  cases hat:atD (fun y=>Zd s f y ((t,m - 1)::e)) t.a 1 i with
  | ok v q=>exact ZfZ c s S f ih t e i w x a hg h10 ox hs he hi m hm hm0 hw hc hr hv v q hat
  | no j=>exact Zf0 c s S f ih t e i w x a hg h10 ox hs he hi m hm hm0 hw hc hr hv j hat
theorem Zl8 {p:Prop} (h:p:=by
 refine bodyPost_ret (v:=VV v m2) (by first|(simp [results,Tryz.f94,go_sem];done)|(simp [results,Tryz.f94,go_sem,rq0,rq1,rq2,rf0,rf1,rf2,hz3];done)) rfl ?_
 exact ⟨Zt1,⟨m2,rfl,Zt9 (fun b hb _=>by (try simp at hb);omega) _ _ (Zt5 (((Zt4 so).trans (Zt4 so)).trans (Zt4 so)) _ _ HRV.out)⟩,Zt3 (B:=w.heap.size) ZtX hcs HC2.out⟩):p:=h
set_option maxRecDepth 100000
theorem Zkx (c:Nat) (s:ByteArray) (S f:Nat) (hS:S≤1099511627776) (ih:Vn c s S f) (t:GT) (e:Env) (i:Nat) (w:World) (x:TA) (a:Option Addr) (hb:Zc s=true) (hg:Zp (!e.isEmpty) t) (ox:okT t) (hs:Zb t≤S) (he:Ye S e) (hi:i≤s.size) (hwk:∃k n,wkT (f+1) t e k n≠none) (hk:t.k=10) (hc:Cur w c s i false) (hr:RT w (fun b=>b≠c) t x) (hv:REnv w (fun b=>b≠c) e a):
  Calls prog 94 #[.agg #[.pointer (some ⟨c,0,none⟩)],TV t x,.pointer a] w (UH c s (Zd s (f+1) t e i) w):=by
 rw [ZdC _ _ _ _ _ om om om om om om om om om om]
 have hm:=Yl (Zk.1 hg).1 hk
 have hw2:∃k n,Xx (wkT f) t t.lo e k n≠none:=by
  obtain ⟨k,n,h⟩:=hwk
  exact ⟨k,n,by simpa [wkT,hk] using h⟩
 have HX:=hid (fun (W:World) (y:TA) h1 h2 h3=>JA c s S f ih t t.lo e i W y a hg hk ox hs he hi ⟨hm.2.1,hm.2.2⟩ hw2 h1 h2 h3)
 obtain ⟨ma,mb,mc,md,me,mf,mg,mh,mi,mj,mk,ml⟩:=x
 have hcs:c < w.heap.size:=World.block_lt_of_cell? _ _ hc.1.1
 have HC:=hid hc
 have HB:=hid hb
 obtain ⟨hrv1,hrv2,hrv3,hrv4,hrv5⟩:=Zo.1 hr
 have HR:=hid hr
 have H1:=hid hrv1
 have H2:=hid hrv2
 have H3:=hid hrv3
 have H4:=hid hrv4
 have HL:=hid hrv5
 obtain ⟨⟨x1,x2⟩,ov,⟨ovl,ovs⟩,⟨l1,l2⟩,⟨l3,l4⟩,⟨owl,ow⟩,op,oal,oa⟩:=Ze.1 ox
 have OX:=hid ox
 have OV:=hid ov
 have OVS:=hid ovs
 have OW:=hid ow
 have OP:=hid op
 have O:=hid oa
 have HND:=hid (Zk.1 hg).1
 have hse:=Zq t
 dsimp only at H1 H2 H3 H4 HL
 have HV:=hid hv
 have hk1:(t.k==1)=false:=by simp [hk]
 have hk2:(t.k==2)=false:=by simp [hk]
 have hk3:(t.k==3)=false:=by simp [hk]
 have hk4:(t.k==4)=false:=by simp [hk]
 have hk5:(t.k==5)=false:=by simp [hk]
 have hk6:(t.k==6)=false:=by simp [hk]
 have hk7:(t.k==7)=false:=by simp [hk]
 have hk8:(t.k==8)=false:=by simp [hk]
 have hk9:(t.k==9)=false:=by simp [hk]
 have hk11:(t.k==11)=false:=by simp [hk]
 clear hg ox hr hc hb hrv1 hrv2 hrv3 hrv4 hrv5 ov ovs ow op oa hk hv he ih hwk hm hw2
 rcases hN:Wd (Zd s f) t t.lo e i with ⟨v,j⟩|⟨k⟩
 ·have HN:=hid hN
  clear hN
  go_enter func94,ntmps94
  go_wp2_with (go_at_call 157;refine (HX.out _ ⟨ma,mb,mc,md,me,mf,mg,mh,mi,mj,mk,ml⟩ (by exact Zt3 (B:=w.heap.size) ZtX hcs HC.out) (by exact Zt2 (Zt0 Zt1) _ _ HR.out) (by exact Zua (Zt0 Zt1) _ _ HV.out)).mono ?_;rw [HN.out];rintro e1 w2 ⟨hb2,⟨m2,rfl,hrv⟩,hc2⟩;have HRV:=hid hrv;have HC2:=hid hc2;clear hrv hc2;have hbb2:=hb2;have hz2:=hb2.size;(try simp at hz2);have hbb:But c w.heap.size w w2:=Zt1;have rq0:w2.cell? ⟨w.heap.size+1+1,0,none⟩=some (.int .u8 0):=(hbb2.cell so so).trans gs;have rq1:w2.cell? ⟨w.heap.size+1+1,1,none⟩=some (.int .i64 0):=(hbb2.cell so so).trans gs;have rq2:w2.cell? ⟨w.heap.size+1+1,2,none⟩=some (.slice none 0 0):=(hbb2.cell so so).trans gs;have rf0:w2.frozen? ⟨w.heap.size+1+1,0,none⟩=false:=(hbb2.frozen so so).trans gs;have rf1:w2.frozen? ⟨w.heap.size+1+1,1,none⟩=false:=(hbb2.frozen so so).trans gs;have rf2:w2.frozen? ⟨w.heap.size+1+1,2,none⟩=false:=(hbb2.frozen so so).trans gs;have hz3:w.heap.size+1+1 < w2.heap.size:=om)
  exact Zl8
 have HN:=hid hN
 clear hN
 go_enter func94,ntmps94
 go_wp2_with (go_at_call 157;refine (HX.out _ ⟨ma,mb,mc,md,me,mf,mg,mh,mi,mj,mk,ml⟩ (by exact Zt3 (B:=w.heap.size) ZtX hcs HC.out) (by exact Zt2 (Zt0 Zt1) _ _ HR.out) (by exact Zua (Zt0 Zt1) _ _ HV.out)).mono ?_;rw [HN.out];rintro e1 w2 ⟨hb2,rfl⟩)
 exact ⟨rfl,Zt1,rfl⟩
theorem Zky (c:Nat) (s:ByteArray) (S f:Nat) (hS:S≤1099511627776) (ih:Vn c s S f) (t:GT) (e:Env) (i:Nat) (w:World) (x:TA) (a:Option Addr) (hg:Zp (!e.isEmpty) t) (he:Ye S e) (hi:i≤s.size) (hwk:∃k n,wkT (f+1) t e k n≠none) (h11:t.k=11) (hc:Cur w c s i false) (hv:REnv w (fun b=>b≠c) e a):
  Calls prog 94 #[.agg #[.pointer (some ⟨c,0,none⟩)],TV t x,.pointer a] w (UH c s (Zd s (f+1) t e i) w):=by
 rw [ZbR _ _ _ _ _ h11]
 obtain ⟨hnd,hin,_⟩:=Zk.1 hg
 match e,he,hv,hin h11,hwk with
 | (t',m)::up,he,hv,_,hwk=>
 have hw2:∃k n,Xx (wkT f) t' m up k n≠none:=by
  obtain ⟨k,n,h⟩:=hwk
  exact ⟨k,n,by simpa [wkT,h11] using h⟩
 obtain ⟨b,⟨xa,xb,xc,xd,xe,xf,xg,xh,xi,xj,xk,xl⟩,a',rfl,hA,hat,hrs,hup⟩:=hv
 obtain ⟨hgs,hs10,hso,hss,hm0,hm8,hue⟩:=he
 have hcs:c < w.heap.size:=World.block_lt_of_cell? _ _ hc.1.1
 have HC:=hid hc
 have HX:=hid (fun (W:World) (y:TA) h1 h2 h3=>JA c s S f ih t' m up i W y a' hgs hs10 hso hss hue hi ⟨hm0,hm8⟩ hw2 h1 h2 h3)
 obtain ⟨z0,z1,z2,z3,z4,z5,z6,z7,z8,z9,za,zb,zc,zd,ze,zf,zg⟩:=Ko.1 hat
 have HR:=hid hrs
 have HV:=hid hup
 have hbl:b < w.heap.size:=World.block_lt_of_cell? _ _ z0
 have hbs1:b < w.heap.size+1:=om
 have hbs2:b < w.heap.size+1+1:=om
 have hk1:(t.k==1)=false:=by simp [h11]
 have hk2:(t.k==2)=false:=by simp [h11]
 have hk3:(t.k==3)=false:=by simp [h11]
 have hk4:(t.k==4)=false:=by simp [h11]
 have hk5:(t.k==5)=false:=by simp [h11]
 have hk6:(t.k==6)=false:=by simp [h11]
 have hk7:(t.k==7)=false:=by simp [h11]
 have hk8:(t.k==8)=false:=by simp [h11]
 have hk9:(t.k==9)=false:=by simp [h11]
 have hk11:(t.k==11)=true:=by simp [h11]
 obtain ⟨ma,mb,mc,md,me,mf,mg,mh,mi,mj,mk,ml⟩:=x
 change Calls _ _ _ _ (UH c s (Wd (Zd s f) t' m up i) w)
 clear ih hg h11 hnd hgs hs10 hso hue hat hrs hup hin hc hwk hw2
 rcases hN:Wd (Zd s f) t' m up i with ⟨v,j⟩|⟨k⟩
 ·have HN:=hid hN
  clear hN
  go_enter func94,ntmps94
  go_wp2_with fail
  refine Z0 13 kr kr ?_
  simp only [List.take_succ_cons,List.take_zero,List.drop_succ_cons,List.drop_zero]
  repeat still_step
  refine wpStill_nil ?_
  go_wp2_with (go_at_call 157;refine (HX.out _ ⟨xa,xb,xc,xd,xe,xf,xg,xh,xi,xj,xk,xl⟩ (by exact Zt3 (B:=w.heap.size) ZtX hcs HC.out) (by exact Zt2 (Zt0 Zt1) _ _ HR.out) (by exact Zua (Zt0 Zt1) _ _ HV.out)).mono ?_;rw [HN.out];rintro e1 w2 ⟨hb2,⟨m2,rfl,hrv⟩,hc2⟩;have HRV:=hid hrv;have HC2:=hid hc2;clear hrv hc2;have hbb2:=hb2;have hz2:=hb2.size;(try simp at hz2);have hbb:But c w.heap.size w w2:=Zt1;have rq0:w2.cell? ⟨w.heap.size+1+1,0,none⟩=some (.int .u8 0):=(hbb2.cell so so).trans gs;have rq1:w2.cell? ⟨w.heap.size+1+1,1,none⟩=some (.int .i64 0):=(hbb2.cell so so).trans gs;have rq2:w2.cell? ⟨w.heap.size+1+1,2,none⟩=some (.slice none 0 0):=(hbb2.cell so so).trans gs;have rf0:w2.frozen? ⟨w.heap.size+1+1,0,none⟩=false:=(hbb2.frozen so so).trans gs;have rf1:w2.frozen? ⟨w.heap.size+1+1,1,none⟩=false:=(hbb2.frozen so so).trans gs;have rf2:w2.frozen? ⟨w.heap.size+1+1,2,none⟩=false:=(hbb2.frozen so so).trans gs;have hz3:w.heap.size+1+1 < w2.heap.size:=om)
  exact Zl8
 have HN:=hid hN
 clear hN
 go_enter func94,ntmps94
 go_wp2_with fail
 refine Z0 13 kr kr ?_
 simp only [List.take_succ_cons,List.take_zero,List.drop_succ_cons,List.drop_zero]
 repeat still_step
 refine wpStill_nil ?_
 go_wp2_with (go_at_call 157;refine (HX.out _ ⟨xa,xb,xc,xd,xe,xf,xg,xh,xi,xj,xk,xl⟩ (by exact Zt3 (B:=w.heap.size) ZtX hcs HC.out) (by exact Zt2 (Zt0 Zt1) _ _ HR.out) (by exact Zua (Zt0 Zt1) _ _ HV.out)).mono ?_;rw [HN.out];rintro e1 w2 ⟨hb2,rfl⟩)
 exact ⟨rfl,Zt1,rfl⟩
set_option maxRecDepth 512
def U4 (g:Nat→Res GV) (D:List GV) (n i:Nat):Res (List GV):=(QF g n i).map (fun r=>D++r)
theorem Zdv (g:Nat→Res GV) (D:List GV) (n i:Nat):U4 g D (n+1) i=match g i with
  | .no k=>.no k
  | .ok v q=>U4 g (D++[v]) n q:=by
 unfold U4
 rw [QF]
 cases g i with
 | no k=>rfl
 | ok v q=>
  simp only [Res.bind]
  cases QF g n q with
  | no k=>rfl
  | ok r p=>simp [Res.map]
set_option maxRecDepth 100000
theorem Zla (c:Nat) (s:ByteArray) (S f:Nat) (hS:S≤1099511627776) (ih:Vn c s S f) (t:GT) (e:Env) (i:Nat) (w:World) (x:TA) (a:Option Addr) (hb:Zc s=true) (hg:Zp (!e.isEmpty) t) (ox:okT t) (hs:Zb t≤S) (he:Ye S e) (hi:i≤s.size)
  (hwk:∀x∈t.a,∃k n,wkT f x e k n≠none) (hk:t.k=6) (hc:Cur w c s i false) (hr:RT w (fun b=>b≠c) t x) (hv:REnv w (fun b=>b≠c) e a):
  Calls prog 94 #[.agg #[.pointer (some ⟨c,0,none⟩)],TV t x,.pointer a] w (UH c s (Zd s (f+1) t e i) w):=by
 rw [ZaS _ _ _ _ _ hk]
 obtain ⟨ma,mb,mc,md,me,mf,mg,mh,mi,mj,mk,ml⟩:=x
 have hcs:c < w.heap.size:=World.block_lt_of_cell? _ _ hc.1.1
 have HC:=hid hc
 have HB:=hid hb
 obtain ⟨hrv1,hrv2,hrv3,hrv4,hrv5⟩:=Zo.1 hr
 have HR:=hid hr
 have H1:=hid hrv1
 have H2:=hid hrv2
 have H3:=hid hrv3
 have H4:=hid hrv4
 have HL:=hid hrv5
 obtain ⟨⟨x1,x2⟩,ov,⟨ovl,ovs⟩,⟨l1,l2⟩,⟨l3,l4⟩,⟨owl,ow⟩,op,oal,oa⟩:=Ze.1 ox
 have OX:=hid ox
 have OV:=hid ov
 have OVS:=hid ovs
 have OW:=hid ow
 have OP:=hid op
 have O:=hid oa
 have HND:=hid (Zk.1 hg).1
 have hse:=Zq t
 dsimp only at H1 H2 H3 H4 HL
 obtain ⟨hal,hlo,hlh,hhi⟩:=WO HND.out hk
 have h0l:0 < t.a.length:=om
 have n1: -1099511627776≤t.lo:=om
 have n3:t.hi≤1099511627776:=om
 have halI:(0:Int) < (t.a.length:Int):=om
 have hG:(fun j=>atD (fun x=>Zd s f x e) t.a 0 j)=fun j=>Zd s f t.a[0] e j:=by
  funext j;unfold atD;rw [List.getElem?_eq_getElem h0l]
 rw [hG]
 have hm0:=List.getElem_mem h0l
 have hgx:Zp (!e.isEmpty) t.a[0]:=YG hg om hm0
 have hox:okT t.a[0]:=Jl ox hm0
 have hsx:Zb t.a[0]≤S:=by have:=Q6 hm0;omega
 have hwx:=hwk _ hm0
 have IH:=hid ih
 have HV:=hid hv
 have HE:=hid he
 have HX:=hid (And.intro hgx (And.intro hox (And.intro hsx hwx)))
 have hin:=fun q hq=>WJ s S f t.a[0] e q hgx hox hsx he hq
 have HIN:=hid hin
 have hnin:=Zdg s t.lo t.hi i hi hlh
 obtain ⟨b,o,mj',hja,hA,hbs,g0,gx⟩:=HL.out.get 0 h0l
 subst hja
 have G0:=hid (show At w b o _ by simpa using g0)
 have GX:=hid gx
 have hbc:¬b=c:=hA
 obtain ⟨i0,hi0,y0,y1,y2⟩:=info_parts US
 have hk1:(t.k==1)=false:=by simp [hk]
 have hk2:(t.k==2)=false:=by simp [hk]
 have hk3:(t.k==3)=false:=by simp [hk]
 have hk4:(t.k==4)=false:=by simp [hk]
 have hk5:(t.k==5)=false:=by simp [hk]
 have hk6:(t.k==6)=true:=by simp [hk]
 clear hg ox hr hc hb hrv1 hrv2 hrv3 hrv4 hrv5 ov ovs ow op oa hk hv he ih hwk hG hm0 hgx hox hsx hwx hin g0 gx
 rcases hN:WK s t.lo t.hi i with ⟨n,j0⟩|⟨k⟩
 ·rw [hN] at hnin
  obtain ⟨_,hj0,hn0,hn1⟩:=hnin
  obtain ⟨N,rfl⟩:∃N:Nat,n=(N:Int):=⟨n.toNat,om⟩
  have hN16:N≤16:=om
  have HN:=hid hN
  clear hN hn0 hn1
  simp only [Res.bind,Int.toNat_natCast]
  have hR0:U4 (fun j=>Zd s f t.a[0] e j) [] (N - 0) j0=QF (fun j=>Zd s f t.a[0] e j) N j0:=by
   unfold U4
   rw [Nat.sub_zero]
   cases QF (fun j=>Zd s f t.a[0] e j) N j0<;>simp [Res.map]
  generalize QF (fun j=>Zd s f t.a[0] e j) N j0=R at *
  have HR0:=hid hR0
  clear hR0 hlo hhi hal
  go_enter func94,ntmps94
  go_wp2_with (first
   | (go_at_call 143;refine (U6 c s i t.lo t.hi _ HB.out hi n1 hlh n3 (by exact Zt3 (B:=w.heap.size) ZtX hcs HC.out)).mono ?_;rw [HN.out];rintro e1 w3 ⟨hb3,rfl,hc3⟩;have HC3:=hid hc3;clear hc3;have hz3:=hb3.size;(try simp at hz3);have p30:w3.cell? ⟨w.heap.size,0,none⟩=some (.pointer (some ⟨c,0,none⟩)):=(hb3.cell so so).trans gs;have p314:w3.cell? ⟨w.heap.size+1,14,none⟩=some (.slice (some ⟨b,o,none⟩) t.a.length ml):=(hb3.cell so so).trans gs;have zr3:ZRes w3 (w.heap.size+1+1):=⟨⟨(hb3.cell so so).trans gs,(hb3.cell so so).trans gs,(hb3.cell so so).trans gs⟩,(hb3.frozen so so).trans gs,(hb3.frozen so so).trans gs,(hb3.frozen so so).trans gs⟩;have hbb3:But c w.heap.size w w3:=Zt1;have ZR3:=hid zr3;clear zr3)
   | (at_make;refine wpList_make_full _ rfl _ _ 22 rfl w3.heap.size 24 i0 _ 3 rfl hi0 y0 y1 .i64 .i64 _ _ N rfl rfl om om (by rw [y2];omega) (by unfold maxLen;omega) (Nat.le_refl _) ?_;intro w4 hown hgrow))
  have hb4:Below w3.heap.size w3 w4:=Below.grown (Below.refl _ _) hgrow (Nat.le_refl _) (fun k e=>by cases e)
  have hz4:w3.heap.size < w4.heap.size:=(hown.lt _ rfl).2
  have hzc:c < w3.heap.size:=by have:=hbb3.size;omega
  simp only [Value.cells,Zbg] at hown
  have HO:=hid hown
  clear hown hgrow
  have q30:=(hb4.cell (p:=⟨w.heap.size,0,none⟩) (by simp;omega)).trans p30
  have q314:=(hb4.cell (p:=⟨w.heap.size+1,14,none⟩) (by simp;omega)).trans p314
  have ZR4:=hid (ZR3.out.but (Zue (c:=c) hb4) om om)
  have HC4:=hid (Zt3 hb4 om HC3.out)
  have hbb4:But c w.heap.size w w4:=hbb3.trans (Zue (hb4.mono om))
  go_loopg [91] N (fun gk i' wr=>∃(j p:Nat) (D:List GV) (ps:List (GV×VA)),gk+j=N∧i'=.int .i64 j∧p≤s.size∧But c w.heap.size w wr∧w3.heap.size < wr.heap.size∧wr.cell? ⟨w.heap.size,0,none⟩=some (.pointer (some ⟨c,0,none⟩))∧wr.cell? ⟨w.heap.size+1,14,none⟩=some (.slice (some ⟨b,o,none⟩) t.a.length ml)∧Hid (ZRes wr (w.heap.size+1+1))∧D.length=j∧ps.length=N ∧
   Hid (U4 (fun j=>Zd s f t.a[0] e j) D (N - j) p=R)∧Hid (Cur wr c s p false)∧Hid (wr.ownsRow w3.heap.size 24 3 (.slice (some ⟨w3.heap.size,0,none⟩) N N) N (Xd ps)) ∧
   Hid (∀q (h:q < D.length) (h':q < ps.length),ps[q].1=D[q]∧RV wr (fun b=>w3.heap.size < b) ps[q].1 ps[q].2.a))
  case atStart=>exact ⟨0,j0,[],List.replicate N QL,om,rfl,hj0,hbb4,hz4,q30,q314,ZR4,rfl,sm,HR0,HC4,HO,hid fun q h h'=>absurd h sm⟩
  case round=>
   obtain ⟨j,p,D,ps,hj,rfl,hp,hbt,hz,hcell,hcell2,HZ,hdl,hpl,HP,HCU,HO,HQ⟩:=hrel
   by_cases hlt:j < N
   ·have hst:=HP.out
    rw [show N - j=(N - (j+1))+1 by omega,Zdv] at hst
    have hinj:=HIN.out p hp
    have hag:=Zt0 hbt
    obtain ⟨z0,z1,z2,z3,z4,z5,z6,z7,z8,z9,za,zb,zc,zd,ze⟩:=Yp.1 (Zuf hag hA _ _ G0.out)
    have hs1:b < wr.heap.size:=by have:=hbt.size;omega
    have hcr:c < wr.heap.size:=by have:=hbt.size;omega
    have hne0:¬w3.heap.size=w.heap.size:=om
    have hne1:¬w3.heap.size=w.heap.size+1:=om
    have hneb:¬b=w3.heap.size:=om
    have hjI:(j:Int) < (N:Int):=om
    have hjI0:(0:Int)≤(j:Int):=om
    have Q1:Hid (Cur (World.drew wr) c s p false):=hid (Zt3 (B:=wr.heap.size) ZtX hcr HCU.out)
    have Q2:Hid (RT (World.drew wr) (fun b=>b≠c) t.a[0] mj'):=hid (Zt2 (Zt0 Zt1) _ _ GX.out)
    have Q3:Hid (REnv (World.drew wr) (fun b=>b≠c) e a):=hid (Zua (Zt0 Zt1) _ _ HV.out)
    have HOK:=hid (show ∀k,(Value.slice (some ⟨w3.heap.size,0,none⟩) N N).ownBlock=some k→k < wr.heap.size∧k≠c from fun k hk=>by cases hk;exact ⟨hz,(show w3.heap.size≠c by omega)⟩)
    rcases hW:Zd s f t.a[0] e p with ⟨v',q⟩|⟨k⟩
    ·rw [hW] at hst hinj
     have hq:=hinj.2.1
     have HW:=hid hW
     have HST:=hid hst
     clear hW hst hinj
     go_wp2_with fail
     go_region_held3 (fun W=>W.cell? ⟨w.heap.size,0,none⟩=some (.pointer (some ⟨c,0,none⟩))∧W.cell? ⟨w.heap.size+1,14,none⟩=some (.slice (some ⟨b,o,none⟩) t.a.length ml)∧∀k,W.cell? ⟨b,k,none⟩=wr.cell? ⟨b,k,none⟩) ((refine ⟨gs,gs,fun k=>gs⟩)) ((go_at_call 94;refine (IH.out t.a[0] e p _ mj' a HX.out.1 HX.out.2.1 HX.out.2.2.1 HE.out hp HX.out.2.2.2 Q1.out Q2.out Q3.out).mono ?_;rw [HW.out];rintro e1 w2 ⟨hb2,⟨m,rfl,hrv⟩,hc2⟩;have HRV:=hid hrv;have HC2:=hid hc2;clear hrv hc2;have hz2:=hb2.size;(try simp at hz2);have hbb:But c wr.heap.size wr w2:=Zt1;have hkb:∀k,w2.cell? ⟨b,k,none⟩=wr.cell? ⟨b,k,none⟩:=(fun k=>hbb.cell (p:=⟨b,k,none⟩) hs1 hA);have HO2:=hid (Vf HO.out hbb HOK.out);have hjp:j < ps.length:=om;obtain ⟨y0',y1',y2'⟩:=QS ps j hjp;have z0':=(HO2.out.cellAt (j*3) om).trans y0';have z1':=(HO2.out.cellAt (j*3+1) om).trans y1';have z2':=(HO2.out.cellAt (j*3+2) om).trans y2';have hff:∀o,w2.frozen? ⟨w3.heap.size,o,none⟩=false:=HO2.out.frozenAt;clear y0' y1' y2';have u20:w2.cell? ⟨w.heap.size,0,none⟩=some (.pointer (some ⟨c,0,none⟩)):=(hbb.cell (by simp;omega) (by simp;omega)).trans gs;have u214:w2.cell? ⟨w.heap.size+1,14,none⟩=some (.slice (some ⟨b,o,none⟩) t.a.length ml):=(hbb.cell (by simp;omega) (by simp;omega)).trans gs))
     go_wp2_with fail
     obtain ⟨hst2,hsg⟩:=Jn HO2.out j v' m hjp
     have hbs:Below w3.heap.size w2 (((w2.setCell ⟨w3.heap.size,j*3,none⟩ (.int .u8 v'.k)).setCell ⟨w3.heap.size,j*3+1,none⟩ (.int .i64 v'.n)).setCell ⟨w3.heap.size,j*3+2,none⟩ (.slice m.a v'.l.length m.c)):=by exact ZtX
     have hbw:But c w3.heap.size wr _:=(hbb.mono om).trans (Zue hbs)
     have hagq:Agree (fun b=>w3.heap.size < b) wr w2:=fun q u hq hcq=>hbb.ag (World.block_lt_of_cell? _ _ hcq) om hcq
     have hagw:=hagq.trans (Agree.grown hsg fun b hb e=>by cases e;omega)
     go_roundg (gk - 1)
     case measure=>omega
     case rel=>
      refine ⟨j+1,q,D++[v'],ps.set j (v',m),om,by go_num,hq,hbt.trans (hbw.mono om),by have:=hbs.size;omega,(hbw.cell (p:=⟨w.heap.size,0,none⟩) (by simp;omega) (by simp;omega)).trans hcell,(hbw.cell (p:=⟨w.heap.size+1,14,none⟩) (by simp;omega) (by simp;omega)).trans hcell2,hid (HZ.out.but hbw om om),by simp;omega,by simp;omega,hid HST.out,hid (Zt3 hbs om HC2.out),hid hst2,hid fun r h h'=>?_⟩
      by_cases hqj:r=j
      ·subst hqj
       rw [List.getElem_set_self]
       refine ⟨by simp [←hdl],Zt5 (Agree.grown hsg fun b hb e=>by cases e;omega) _ _ (Zt9 (fun b h _=>by simp at h;omega) _ _ HRV.out)⟩
      rw [List.getElem_set_ne (fun e=>hqj e.symm)]
      have hrd:r < D.length:=by simp at h;omega
      have h9:=HQ.out r hrd (by simpa using h')
      exact ⟨by rw [List.getElem_append_left hrd];exact h9.1,Zt5 hagw _ _ h9.2⟩
    rw [hW] at hst
    have HW:=hid hW
    have HST:=hid hst
    clear hW hst hinj
    go_wp2_with fail
    refine wp_region_held_drew (S:=(fun W=>W.cell? ⟨w.heap.size,0,none⟩=some (.pointer (some ⟨c,0,none⟩))∧W.cell? ⟨w.heap.size+1,14,none⟩=some (.slice (some ⟨b,o,none⟩) t.a.length ml))) kr ?_ (fun hHeld=>?_)
    ·((try dsimp only);(refine ⟨?_,?_⟩<;>go_simp))
    refine tzh 0 ?_
    try simp only [Act.put,sl,s0,ss]
    refine tzh 1 ?_
    try simp only [Act.put,sl,s0,ss]
    refine tzh 2 ?_
    try simp only [Act.put,sl,s0,ss]
    refine tzh 3 ?_
    try simp only [Act.put,sl,s0,ss]
    refine tzh 4 ?_
    try simp only [Act.put,sl,s0,ss]
    refine tzh 5 ?_
    try simp only [Act.put,sl,s0,ss]
    refine tzh 7 ?_
    try simp only [Act.put,sl,s0,ss]
    refine wrh1 6 fun K hK=>?_
    go_simp
    refine hK.out _ _ ?_ (fun hHeld=>?_)
    ·((try dsimp only);(refine ⟨?_,?_⟩<;>go_simp))
    clear hK K
    refine wrh1 8 fun K hK=>?_
    go_simp
    go_wp2_with (go_at_call 94;refine (IH.out t.a[0] e p _ mj' a HX.out.1 HX.out.2.1 HX.out.2.2.1 HE.out hp HX.out.2.2.2 Q1.out Q2.out Q3.out).mono ?_;rw [HW.out];rintro e1 w2 ⟨hb2,rfl⟩)
    (rw [←HST.out];exact ⟨rfl,Zt1,rfl⟩)
   have hjl:j=N:=om
   subst hdl
   subst hjl
   have hst:=HP.out
   rw [Nat.sub_self] at hst
   have hst2:R=.ok D p:=by rw [←hst];simp [U4,QF,Res.map]
   have h1:=Qi (A:=fun b=>w3.heap.size≤b) (Nat.le_refl _) HO.out (fun p hp=>by
    obtain ⟨q,hq,rfl⟩:=List.getElem_of_mem hp
    exact Zt9 (fun b h _=>om) _ _ (HQ.out q om hq).2)
   have h2:ps.map Prod.fst=D:=List.ext_getElem (by simp;omega) fun q h h'=>by
    simp only [List.getElem_map]
    exact (HQ.out q h' (by simpa using h)).1
   rw [h2] at h1
   have HRD:=hid h1
   obtain ⟨⟨r0,r1,r2⟩,s0,s1,s2⟩:=HZ.out
   have hwz:w.heap.size+1+1 < wr.heap.size:=om
   clear hst h1 h2 hpl
   subst hst2
   go_wp2_with (go_at_call 150;refine (VX D _ D.length _).mono ?_;rintro e1 w2 ⟨rfl,hb2⟩;have rq0:=(hb2.cell (p:=⟨w.heap.size+1+1,0,none⟩) (by first|(simp;done)|(simp;omega)|(dsimp;omega))).trans r0;have rq1:=(hb2.cell (p:=⟨w.heap.size+1+1,1,none⟩) (by first|(simp;done)|(simp;omega)|(dsimp;omega))).trans r1;have rq2:=(hb2.cell (p:=⟨w.heap.size+1+1,2,none⟩) (by first|(simp;done)|(simp;omega)|(dsimp;omega))).trans r2;have rf0:=(hb2.frozen (p:=⟨w.heap.size+1+1,0,none⟩) (by first|(simp;done)|(simp;omega)|(dsimp;omega))).trans s0;have rf1:=(hb2.frozen (p:=⟨w.heap.size+1+1,1,none⟩) (by first|(simp;done)|(simp;omega)|(dsimp;omega))).trans s1;have rf2:=(hb2.frozen (p:=⟨w.heap.size+1+1,2,none⟩) (by first|(simp;done)|(simp;omega)|(dsimp;omega))).trans s2;have hz2:=hb2.size;have hz3:w.heap.size+1+1 < w2.heap.size:=om;have hbb:But c w.heap.size w w2:=hbt.trans (Zue (hb2.mono om));have HC2:=hid (Zt3 hb2 om HCU.out))
   refine bodyPost_ret (v:=VV ⟨4,0,D⟩ ⟨some ⟨w3.heap.size,0,none⟩,D.length⟩) (by first|(simp [results,Tryz.f94,go_sem];done)|(simp [results,Tryz.f94,go_sem,rq0,rq1,rq2,rf0,rf1,rf2,hz3];done)) rfl ?_
   exact ⟨Zt1,⟨⟨some ⟨w3.heap.size,0,none⟩,D.length⟩,rfl,Zl.2 (Zug (fun b hb _=>om) _ _ (Zt8 (((Zt4 so).trans (Zt4 so)).trans (Zt4 so)) _ _ (Zt8 (ZtY hb2) _ _ HRD.out)))⟩,Zt3 (B:=w.heap.size) ZtX hcs HC2.out⟩
 have HN:=hid hN
 clear hN
 simp only [Res.bind,Res.map]
 go_enter func94,ntmps94
 go_wp2_with (go_at_call 143;refine (U6 c s i t.lo t.hi _ HB.out hi n1 hlh n3 (by exact Zt3 (B:=w.heap.size) ZtX hcs HC.out)).mono ?_;rw [HN.out];rintro e1 w3 ⟨hb3,rfl⟩)
 exact ⟨rfl,Zt1,rfl⟩
end Go.Proofs.YtkdffbdnjfgpeaaGreat
