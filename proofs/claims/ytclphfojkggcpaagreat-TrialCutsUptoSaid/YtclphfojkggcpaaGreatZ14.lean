/- What the proofs of the Trial statements need: part 15. -/
import Derived.WalkSmall
import Derived.Test.YtclphfojkggcpaaGreatZ10
import Derived.Test.YtclphfojkggcpaaGreatZ11
import Derived.Test.YtclphfojkggcpaaGreatZ13
import Derived.Test.YtclphfojkggcpaaGreatZ21
set_option linter.unusedVariables false
set_option linter.unusedSimpArgs false
namespace Go.Proofs.YtclphfojkggcpaaGreat
open Go.Lib (hid)
open Go Go.RowKit
abbrev endP (k:Nat):Ending:=.panicked [{ v:=.iface 100 (.int .u8 k),recovered:=false }]
theorem needInt_any (x:Int) (w:World):Calls Tryz.prog 93 #[.int .i64 x,.bool true] w fun e w'=>e=.returned (.int .i64 x)∧w=w':=by
 go_enter Tryz.func93,Tryz.ntmps93
 go_wp2_with fail
 go_ret
 exact ⟨rfl,rfl⟩
theorem needInt_no (x:Int) (w:World):Calls Tryz.prog 93 #[.int .i64 x,.bool false] w fun e w'=>e=endP 2∧Below w.heap.size w w':=by
 go_enter Tryz.func93,Tryz.ntmps93
 go_wp2_with fail
 exact ⟨rfl,rfl,Below.z⟩
theorem needU_any (x:Int) (w:World):Calls Tryz.prog 133 #[.int .u64 x,.bool true] w fun e w'=>e=.returned (.int .u64 x)∧w=w':=by
 go_enter Tryz.func133,Tryz.ntmps133
 go_wp2_with fail
 go_ret
 exact ⟨rfl,rfl⟩
theorem needU_no (x:Int) (w:World):Calls Tryz.prog 133 #[.int .u64 x,.bool false] w fun e w'=>e=endP 2∧Below w.heap.size w w':=by
 go_enter Tryz.func133,Tryz.ntmps133
 go_wp2_with fail
 exact ⟨rfl,rfl,Below.z⟩
theorem needS_any (a:Option Addr) (n c:Nat) (w:World):Calls Tryz.prog 100 #[.slice a n c,.bool true] w fun e w'=>e=.returned (.slice a n c)∧w=w':=by
 go_enter Tryz.func100,Tryz.ntmps100
 go_wp2_with fail
 go_ret
 exact ⟨rfl,rfl⟩
theorem needS_no (a:Option Addr) (n c:Nat) (w:World):Calls Tryz.prog 100 #[.slice a n c,.bool false] w fun e w'=>e=endP 2∧Below w.heap.size w w':=by
 go_enter Tryz.func100,Tryz.ntmps100
 go_wp2_with fail
 exact ⟨rfl,rfl,Below.z⟩
def NumR (c:Nat) (s:ByteArray) (r:Res Int) (w:World):Ending→World→Prop:=fun e w'=>But c w.heap.size w w' ∧
 match r with
 | .ok n j=>e=.returned (.int .i64 n)∧Cur w' c s j false
 | .no k=>e=endP k
set_option maxRecDepth 100000 in
set_option maxHeartbeats 1000000 in
theorem samNum_any (c:Nat) (s:ByteArray) (i:Nat) (lo hi:Int) (w:World) (hb:isBits s=true) (hi0:i≤s.size) (h1: -1099511627776≤lo) (h2:lo≤hi) (h3:hi≤1099511627776) (hl:Cur w c s i false):
  Calls Tryz.prog 91 #[.agg #[.pointer (some ⟨c,0,none⟩)],.int .i64 lo,.int .i64 hi] w (NumR c s (numD s lo hi i) w):=by
 have HC:=hid hl
 have HB:=hid hb
 have hcs:c < w.heap.size:=World.block_lt_of_cell? _ _ hl.1.1
 obtain ⟨m,hm⟩:∃m:Nat,hi - lo+1=(m:Int):=⟨(hi - lo+1).toNat,by omega⟩
 have hm0:0 < m∧m < 18446744073709551616:=by omega
 have hmt:(hi - lo+1).toNat=m:=by omega
 have hdr:=drawP_in s m i hi0
 have hP1:∀j,drawP s m i=(none,j)→numD s lo hi i=.no 2:=fun j h=>by unfold numD drawD;rw [hmt,h];rfl
 have hP2:∀v j,drawP s m i=(some v,j)→numD s lo hi i=.ok (lo+(v:Int)) j:=fun v j h=>by unfold numD drawD;rw [hmt,h];rfl
 generalize numD s lo hi i=R at *
 have HP1:=hid hP1
 have HP2:=hid hP2
 have HM:=hid hm
 clear hl hb hP1 hP2 hmt hm
 rcases hD:drawP s m i with ⟨_|v,j⟩
 ·have HD:=hid hD
  clear hD hdr
  rw [HP1.out _ HD.out]
  go_enter Tryz.func91,Tryz.ntmps91
  go_wp2_with (first
   | (go_at_call 134;refine (draw_at c s i m _ _ HB.out hi0 hm0 (by have:=HM.out;omega) (by exact Cur.below (B:=w.heap.size) Below.z hcs HC.out)).mono ?_;rw [HD.out];rintro e w3 ⟨hb3,rfl,hc3⟩)
   | (go_at_call 133;refine (needU_no _ _).mono ?_;rintro e w4 ⟨rfl,hb4⟩))
  have hz3:=hb3.size
  simp at hz3
  exact ⟨rfl,But.z,rfl⟩
 ·have HD:=hid hD
  rw [hD] at hdr
  have hv:=hdr.2.2 v rfl
  have hv2:lo+(v:Int)≤hi:=by have:=HM.out;omega
  have hv3:v < 9223372036854775807:=by omega
  clear hD hdr
  rw [HP2.out _ _ HD.out]
  go_enter Tryz.func91,Tryz.ntmps91
  go_wp2_with (first
   | (go_at_call 134;refine (draw_at c s i m _ _ HB.out hi0 hm0 (by have:=HM.out;omega) (by exact Cur.below (B:=w.heap.size) Below.z hcs HC.out)).mono ?_;rw [HD.out];rintro e w3 ⟨hb3,rfl,hc3⟩;have HC3:=hid hc3;clear hc3)
   | (go_at_call 133;refine (needU_any _ _).mono ?_;rintro e w4 ⟨rfl,rfl⟩))
  go_ret
  exact ⟨But.z,rfl,HC3.out⟩
theorem aliasAt_any (b gc go n i:Nat) (S:Int) (w:World) (hl:TabAt w b gc go n S) (hS:1≤S∧S≤67108864) (hi:i < n) (hn:n≤64):
  Calls Tryz.prog 139 #[.pointer (some ⟨b,0,none⟩),.int .i64 i] w fun e w'=>e=.returned (.int .i64 0)∧Below w.heap.size w w':=by
 obtain ⟨t0,t1,t2,t3⟩:=hl
 obtain ⟨s1,s2⟩:=hS
 have hbs:b < w.heap.size:=World.block_lt_of_cell? _ _ t0
 have hS0:(S==0)=false:=beq_eq_false_iff_ne.2 (by omega)
 have hlt:¬(n:Int)≤(i:Int):=by omega
 have hi0:¬(i:Int) < 0:=by omega
 go_enter Tryz.func139,Tryz.ntmps139
 go_wp2_with fail
 go_ret
 exact ⟨rfl,Below.z⟩
theorem aliasPick_any (l:List Int) (b gc go i r cc co:Nat) (A:Nat→Prop) (w:World) (he:freqE l=0) (hl:TabAt w b gc go l.length (sumI l)) (hi:i < l.length) (hr:(r:Int) < sumI l)
  (h1:RIs w A (aliasT l).c (some ⟨gc,0,none⟩)) (h2:RIs w A (aliasT l).o (some ⟨go,0,none⟩)):
  Calls Tryz.prog 140 #[.pointer (some ⟨b,0,none⟩),.int .i64 i,.int .i64 r] w fun e w'=>e=.returned (.tuple #[.int .i64 (aliasPick l i r),.int .i64 0])∧Below w.heap.size w w':=by
 obtain ⟨f1,f64,fw,f2,f3⟩:=freqE_ok he
 have ok:=aliasT_ok l
 have HT:=hid hl
 obtain ⟨t0,t1,t2,t3⟩:=hl
 have hbs:b < w.heap.size:=World.block_lt_of_cell? _ _ t0
 obtain ⟨g,o,e,hA,hgs,g0⟩:=h1.get i (by rw [ok.c];exact hi)
 cases e
 obtain ⟨g',o',e,hA',hgs',g0'⟩:=h2.get i (by rw [ok.o];exact hi)
 cases e
 have hm:=ok.m ((aliasT l).o[i]'(by rw [ok.o];exact hi)) (List.getElem_mem _)
 have hc1:(aliasT l).c.getD i 0=(aliasT l).c[i]'(by rw [ok.c];exact hi):=by simp [List.getD_eq_getElem?_getD,List.getElem?_eq_getElem (show i < (aliasT l).c.length by rw [ok.c];exact hi)]
 have ho1:(aliasT l).o.getD i 0=(aliasT l).o[i]'(by rw [ok.o];exact hi):=by simp [List.getD_eq_getElem?_getD,List.getElem?_eq_getElem (show i < (aliasT l).o.length by rw [ok.o];exact hi)]
 rw [←hc1] at g0
 rw [←ho1] at hm g0'
 have hP:(aliasPick l i r:Int)=if (r:Int) < (aliasT l).c.getD i 0 then (i:Int) else (aliasT l).o.getD i 0:=by
  unfold aliasPick
  split
  ·rfl
  ·omega
 rw [hP]
 rw [Nat.zero_add] at g0 g0'
 generalize (aliasT l).c.getD i 0=cv at *
 generalize (aliasT l).o.getD i 0=ov at *
 clear hc1 ho1 hP h1 h2 ok hm
 have hge:¬sumI l≤(r:Int):=by omega
 by_cases hcv:(r:Int) < cv
 ·rw [if_pos hcv]
  go_enter Tryz.func140,Tryz.ntmps140
  go_wp2_with (go_at_call 139;refine (aliasAt_any b gc go l.length i (sumI l) _ HT.out ⟨f2,f3⟩ hi f64).mono ?_;rintro e w1 ⟨rfl,hb⟩;have hB1:=hb;clear hb;obtain ⟨hc1,hf1⟩:=bcells hB1)
  go_ret2
  exact ⟨rfl,Below.z⟩
 ·rw [if_neg hcv]
  go_enter Tryz.func140,Tryz.ntmps140
  go_wp2_with (go_at_call 139;refine (aliasAt_any b gc go l.length i (sumI l) _ HT.out ⟨f2,f3⟩ hi f64).mono ?_;rintro e w1 ⟨rfl,hb⟩;have hB1:=hb;clear hb;obtain ⟨hc1,hf1⟩:=bcells hB1)
  go_ret2
  exact ⟨rfl,Below.z⟩
theorem TabAt.but {w w':World} {c B b gc go n:Nat} {S:Int} (h:TabAt w b gc go n S) (hb:But c B w w') (hB:b < B) (hc:b≠c):TabAt w' b gc go n S:=
 ⟨(hb.cell (p:=⟨b,0,none⟩) hB hc).trans h.s,(hb.cell (p:=⟨b,1,none⟩) hB hc).trans h.c,(hb.cell (p:=⟨b,2,none⟩) hB hc).trans h.o,fun j=>(hb.frozen (p:=⟨b,j,none⟩) hB hc).trans (h.f j)⟩
theorem TabAt.below {w w':World} {B b gc go n:Nat} {S:Int} (h:TabAt w b gc go n S) (hb:Below B w w') (hB:b < B):TabAt w' b gc go n S:=
 ⟨(hb.cell (p:=⟨b,0,none⟩) hB).trans h.s,(hb.cell (p:=⟨b,1,none⟩) hB).trans h.c,(hb.cell (p:=⟨b,2,none⟩) hB).trans h.o,fun j=>(hb.frozen (p:=⟨b,j,none⟩) hB).trans (h.f j)⟩
set_option maxRecDepth 100000 in
set_option maxHeartbeats 1000000 in
theorem aliasDraw_any (l:List Int) (s:ByteArray) (i b c gc go:Nat) (w:World) (hb:isBits s=true) (hi:i≤s.size) (he:freqE l=0) (hcb:b≠c) (hl:TabAt w b gc go l.length (sumI l))
  (h1:RIs w (fun k=>k≠c) (aliasT l).c (some ⟨gc,0,none⟩)) (h2:RIs w (fun k=>k≠c) (aliasT l).o (some ⟨go,0,none⟩)) (hc:Cur w c s i false):
  Calls Tryz.prog 96 #[.pointer (some ⟨b,0,none⟩),.pointer (some ⟨c,0,none⟩)] w (placeR c s (aliasP s l i) w):=by
 obtain ⟨f1,f64,fw,f2,f3⟩:=freqE_ok he
 have HT:=hid hl
 obtain ⟨t0,t1,t2,t3⟩:=hl
 have hbs:b < w.heap.size:=World.block_lt_of_cell? _ _ t0
 have hcs:c < w.heap.size:=World.block_lt_of_cell? _ _ hc.1.1
 have HC:=hid hc
 have HE:=hid he
 have HB:=hid hb
 have H1:=hid h1
 have H2:=hid h2
 have hd1:=drawP_in s l.length i hi
 have hn0:0 < l.length∧l.length < 18446744073709551616:=by omega
 have hsu:((sumI l).toNat:Int)=sumI l:=by omega
 have hS0:0 < (sumI l).toNat∧(sumI l).toNat < 18446744073709551616:=by omega
 have hP1:∀j,drawP s l.length i=(none,j)→aliasP s l i=(none,j):=fun j h=>by unfold aliasP;rw [h]
 have hP2:∀v j q,drawP s l.length i=(some v,j)→drawP s (sumI l).toNat j=(none,q)→aliasP s l i=(none,q):=fun v j q h h'=>by unfold aliasP;simp only [h,h']
 have hP3:∀v j r q,drawP s l.length i=(some v,j)→drawP s (sumI l).toNat j=(some r,q)→aliasP s l i=(some (aliasPick l v r),q):=fun v j r q h h'=>by unfold aliasP;simp only [h,h']
 generalize hP:aliasP s l i=P at *
 have HP1:=hid hP1
 have HP2:=hid hP2
 have HP3:=hid hP3
 clear hc he hb fw h1 h2 hP hP1 hP2 hP3
 rcases hD:drawP s l.length i with ⟨_|v,j⟩
 ·have HD:=hid hD
  clear hD hd1
  rw [HP1.out _ HD.out]
  go_enter Tryz.func96,Tryz.ntmps96
  go_wp2_with (first
   | (go_at_call 139;refine (aliasAt_any b gc go l.length 0 (sumI l) _ HT.out ⟨f2,f3⟩ (by omega) f64).mono ?_;rintro e w1 ⟨rfl,hb⟩;have hB1:Below w.heap.size w w1:=Below.z;clear hb;obtain ⟨hc1,hf1⟩:=bcells hB1;have hz1:=hB1.size)
   | (go_at_call 134;refine (draw_at c s i l.length _ _ HB.out hi hn0 (by omega) (by exact Cur.below hB1 hcs HC.out)).mono ?_;rw [HD.out];rintro e w3 ⟨hb3,rfl,hc3⟩;have HC3:=hid hc3;clear hc3))
  go_ret2
  exact ⟨But.z,rfl,HC3.out⟩
 ·have HD:=hid hD
  rw [hD] at hd1
  have hv:=hd1.2.2 v rfl
  have hj:=hd1.2.1
  simp only [] at hj hv
  clear hD hd1
  have hd2:=drawP_in s (sumI l).toNat j hj
  rcases hD2:drawP s (sumI l).toNat j with ⟨_|r,q⟩
  ·have HD2:=hid hD2
   clear hD2 hd2
   rw [HP2.out _ _ _ HD.out HD2.out]
   go_enter Tryz.func96,Tryz.ntmps96
   go_wp2_with (first
    | (go_at_call 139;refine (aliasAt_any b gc go l.length 0 (sumI l) _ HT.out ⟨f2,f3⟩ (by omega) f64).mono ?_;rintro e w1 ⟨rfl,hb⟩;have hB1:Below w.heap.size w w1:=Below.z;clear hb;obtain ⟨hc1,hf1⟩:=bcells hB1;have hz1:=hB1.size)
    | (go_at_call 134;refine (draw_at c s i l.length _ _ HB.out hi hn0 (by omega) (by exact Cur.below hB1 hcs HC.out)).mono ?_;rw [HD.out];rintro e w3 ⟨hb3,rfl,hc3⟩;have HC3:=hid hc3;clear hc3;have hbb:But c w.heap.size w w3:=But.z;have t03:=(hbb.cell (p:=⟨b,0,none⟩) hbs hcb).trans t0)
    | (go_at_call 134;refine (draw_at c s j (sumI l).toNat _ _ HB.out hj hS0 (by omega) (by exact HC3.out)).mono ?_;rw [HD2.out];rintro e w4 ⟨hb4,rfl,hc4⟩;have HC4:=hid hc4;clear hc4))
   go_ret2
   have hz3:=hbb.size
   exact ⟨But.z,rfl,HC4.out⟩
  ·have HD2:=hid hD2
   rw [hD2] at hd2
   have hr:=hd2.2.2 r rfl
   clear hD2 hd2
   rw [HP3.out _ _ _ _ HD.out HD2.out]
   have hrI:(r:Int) < sumI l:=by omega
   have hr3:r < 67108865:=by omega
   have hv3:v < 65:=by omega
   go_enter Tryz.func96,Tryz.ntmps96
   go_wp2_with (first
    | (go_at_call 139;refine (aliasAt_any b gc go l.length 0 (sumI l) _ HT.out ⟨f2,f3⟩ (by omega) f64).mono ?_;rintro e w1 ⟨rfl,hb⟩;have hB1:Below w.heap.size w w1:=Below.z;clear hb;obtain ⟨hc1,hf1⟩:=bcells hB1;have hz1:=hB1.size)
    | (go_at_call 134;refine (draw_at c s i l.length _ _ HB.out hi hn0 (by omega) (by exact Cur.below hB1 hcs HC.out)).mono ?_;rw [HD.out];rintro e w3 ⟨hb3,rfl,hc3⟩;have HC3:=hid hc3;clear hc3;have hbb:But c w.heap.size w w3:=But.z;have t03:=(hbb.cell (p:=⟨b,0,none⟩) hbs hcb).trans t0;have hz3:=hbb.size)
    | (go_at_call 134;refine (draw_at c s j (sumI l).toNat _ _ HB.out hj hS0 (by omega) (by exact HC3.out)).mono ?_;rw [HD2.out];rintro e w4 ⟨hb4,rfl,hc4⟩;have HC4:=hid hc4;clear hc4;have hb44:But c w.heap.size w w4:=hbb.trans (hb4.mono hz3);have hz4:=hb4.size)
    | (go_at_call 140;refine (aliasPick_any l b gc go v r 0 0 (fun k=>k≠c) _ HE.out (HT.out.but hb44 hbs hcb) hv hrI (by exact RIs.ext (Agree.but hb44) _ _ H1.out) (by exact RIs.ext (Agree.but hb44) _ _ H2.out)).mono ?_;rintro e w5 ⟨rfl,hb5⟩))
   go_ret2
   exact ⟨But.z,rfl,Cur.below hb5 (by omega) HC4.out⟩
structure T11 (w:World) (b gc go n cc co:Nat) (S:Int):Prop where
 s:w.cell? ⟨b,0,none⟩=some (.int .i64 S)
 c:w.cell? ⟨b,1,none⟩=some (.slice (some ⟨gc,0,none⟩) n cc)
 o:w.cell? ⟨b,2,none⟩=some (.slice (some ⟨go,0,none⟩) n co)
theorem T11.but {w w':World} {c B b gc go n cc co:Nat} {S:Int} (h:T11 w b gc go n cc co S) (hb:But c B w w') (hB:b < B) (hc:b≠c):T11 w' b gc go n cc co S:=
 ⟨(hb.cell (p:=⟨b,0,none⟩) hB hc).trans h.s,(hb.cell (p:=⟨b,1,none⟩) hB hc).trans h.c,(hb.cell (p:=⟨b,2,none⟩) hB hc).trans h.o⟩
set_option maxRecDepth 100000 in
set_option maxHeartbeats 1000000 in
theorem r11Pick_any (l:List Int) (b gc go i r cc co:Nat) (A:Nat→Prop) (w:World) (hl:T11 w b gc go l.length cc co (sumI l)) (hi:i < l.length)
  (h1:RIs w A (aliasT l).c (some ⟨gc,0,none⟩)) (h2:RIs w A (aliasT l).o (some ⟨go,0,none⟩)):
  Calls Tryz.prog 115 #[.pointer (some ⟨b,0,none⟩),.int .i64 i,.int .i64 r] w fun e w'=>e=.returned (.int .i64 (aliasPick l i r))∧Below w.heap.size w w':=by
 have ok:=aliasT_ok l
 obtain ⟨t0,t1,t2⟩:=hl
 have hbs:b < w.heap.size:=World.block_lt_of_cell? _ _ t0
 obtain ⟨g,o,e,hA,hgs,g0⟩:=h1.get i (by rw [ok.c];exact hi)
 cases e
 obtain ⟨g',o',e,hA',hgs',g0'⟩:=h2.get i (by rw [ok.o];exact hi)
 cases e
 have hm:=ok.m ((aliasT l).o[i]'(by rw [ok.o];exact hi)) (List.getElem_mem _)
 have hc1:(aliasT l).c.getD i 0=(aliasT l).c[i]'(by rw [ok.c];exact hi):=by simp [List.getD_eq_getElem?_getD,List.getElem?_eq_getElem (show i < (aliasT l).c.length by rw [ok.c];exact hi)]
 have ho1:(aliasT l).o.getD i 0=(aliasT l).o[i]'(by rw [ok.o];exact hi):=by simp [List.getD_eq_getElem?_getD,List.getElem?_eq_getElem (show i < (aliasT l).o.length by rw [ok.o];exact hi)]
 rw [←hc1] at g0
 rw [←ho1] at hm g0'
 have hP:(aliasPick l i r:Int)=if (r:Int) < (aliasT l).c.getD i 0 then (i:Int) else (aliasT l).o.getD i 0:=by
  unfold aliasPick
  split
  ·rfl
  ·omega
 rw [hP]
 rw [Nat.zero_add] at g0 g0'
 generalize (aliasT l).c.getD i 0=cv at *
 generalize (aliasT l).o.getD i 0=ov at *
 clear hc1 ho1 hP h1 h2 ok hm
 by_cases hcv:(r:Int) < cv
 ·rw [if_pos hcv]
  go_enter Tryz.func115,Tryz.ntmps115
  go_wp2_with fail
  go_ret
  exact ⟨rfl,Below.r⟩
 ·rw [if_neg hcv]
  go_enter Tryz.func115,Tryz.ntmps115
  go_wp2_with fail
  go_ret
  exact ⟨rfl,Below.r⟩
set_option maxRecDepth 100000 in
set_option maxHeartbeats 1000000 in
theorem r11Draw_any (l:List Int) (s:ByteArray) (i b c gc go cc co:Nat) (w:World) (hb:isBits s=true) (hi:i≤s.size) (he:freqE l=0) (hcb:b≠c) (hl:T11 w b gc go l.length cc co (sumI l))
  (h1:RIs w (fun k=>k≠c) (aliasT l).c (some ⟨gc,0,none⟩)) (h2:RIs w (fun k=>k≠c) (aliasT l).o (some ⟨go,0,none⟩)) (hc:Cur w c s i false):
  Calls Tryz.prog 76 #[.pointer (some ⟨b,0,none⟩),.pointer (some ⟨c,0,none⟩)] w (placeR c s (aliasP s l i) w):=by
 obtain ⟨f1,f64,fw,f2,f3⟩:=freqE_ok he
 have HT:=hid hl
 obtain ⟨t0,t1,t2⟩:=hl
 have hbs:b < w.heap.size:=World.block_lt_of_cell? _ _ t0
 have hcs:c < w.heap.size:=World.block_lt_of_cell? _ _ hc.1.1
 have HC:=hid hc
 have HB:=hid hb
 have H1:=hid h1
 have H2:=hid h2
 have hd1:=drawP_in s l.length i hi
 have hn0:0 < l.length∧l.length < 18446744073709551616:=by omega
 have hsu:((sumI l).toNat:Int)=sumI l:=by omega
 have hS0:0 < (sumI l).toNat∧(sumI l).toNat < 18446744073709551616:=by omega
 have hP1:∀j,drawP s l.length i=(none,j)→aliasP s l i=(none,j):=fun j h=>by unfold aliasP;rw [h]
 have hP2:∀v j q,drawP s l.length i=(some v,j)→drawP s (sumI l).toNat j=(none,q)→aliasP s l i=(none,q):=fun v j q h h'=>by unfold aliasP;simp only [h,h']
 have hP3:∀v j r q,drawP s l.length i=(some v,j)→drawP s (sumI l).toNat j=(some r,q)→aliasP s l i=(some (aliasPick l v r),q):=fun v j r q h h'=>by unfold aliasP;simp only [h,h']
 generalize hP:aliasP s l i=P at *
 have HP1:=hid hP1
 have HP2:=hid hP2
 have HP3:=hid hP3
 have HSU:=hid hsu
 have cv1:IntKind.u64.wrap (l.length:Int)=(l.length:Int):=by rw [IntKind.wrap_u64];omega
 have cv2:IntKind.u64.wrap (sumI l)=sumI l:=by rw [IntKind.wrap_u64];omega
 clear hc hb fw h1 h2 hP hP1 hP2 hP3 he hsu
 rcases hD:drawP s l.length i with ⟨_|v,j⟩
 ·have HD:=hid hD
  clear hD hd1
  rw [HP1.out _ HD.out]
  go_enter Tryz.func76,Tryz.ntmps76
  go_wp2_with (go_at_call 112;(with_reducible refine (r09Draw_at c s i l.length _ _ HB.out hi hn0 rfl (by exact HC.out)).mono ?_);rw [HD.out];rintro e w3 ⟨hb3,rfl,hc3⟩;have HC3:=hid hc3;clear hc3)
  go_ret2
  exact ⟨But.r,rfl,HC3.out⟩
 ·have HD:=hid hD
  rw [hD] at hd1
  have hv:=hd1.2.2 v rfl
  have hj:=hd1.2.1
  simp only [] at hj hv
  clear hD hd1
  have hd2:=drawP_in s (sumI l).toNat j hj
  rcases hD2:drawP s (sumI l).toNat j with ⟨_|r,q⟩
  ·have HD2:=hid hD2
   clear hD2 hd2
   rw [HP2.out _ _ _ HD.out HD2.out]
   go_enter Tryz.func76,Tryz.ntmps76
   go_wp2_with (first
    | (go_at_call 112;(with_reducible refine (r09Draw_at c s i l.length _ _ HB.out hi hn0 rfl (by exact HC.out)).mono ?_);rw [HD.out];rintro e w3 ⟨hb3,rfl,hc3⟩;have HC3:=hid hc3;clear hc3;have t03:=(hb3.cell (p:=⟨b,0,none⟩) hbs hcb).trans t0;have hz3:=hb3.size;have hb3s:b < w3.heap.size:=(by omega))
    | (go_at_call 112;(with_reducible refine (r09Draw_at c s j (sumI l).toNat _ _ HB.out hj hS0 HSU.out.symm (by exact HC3.out)).mono ?_);rw [HD2.out];rintro e w4 ⟨hb4,rfl,hc4⟩;have HC4:=hid hc4;clear hc4))
   go_ret2
   exact ⟨But.r,rfl,HC4.out⟩
  ·have HD2:=hid hD2
   rw [hD2] at hd2
   have hr:=hd2.2.2 r rfl
   clear hD2 hd2
   rw [HP3.out _ _ _ _ HD.out HD2.out]
   have hr3:r < 67108865:=by omega
   have hv3:v < 65:=by omega
   have cv3:IntKind.i64.wrap (v:Int)=(v:Int):=IntWalk.i64_in _ (by omega)
   have cv4:IntKind.i64.wrap (r:Int)=(r:Int):=IntWalk.i64_in _ (by omega)
   go_enter Tryz.func76,Tryz.ntmps76
   go_wp2_with (first
    | (go_at_call 112;(with_reducible refine (r09Draw_at c s i l.length _ _ HB.out hi hn0 rfl (by exact HC.out)).mono ?_);rw [HD.out];rintro e w3 ⟨hb3,rfl,hc3⟩;have HC3:=hid hc3;clear hc3;have t03:=(hb3.cell (p:=⟨b,0,none⟩) hbs hcb).trans t0;have hz3:=hb3.size;have hb3s:b < w3.heap.size:=(by omega))
    | (go_at_call 112;(with_reducible refine (r09Draw_at c s j (sumI l).toNat _ _ HB.out hj hS0 HSU.out.symm (by exact HC3.out)).mono ?_);rw [HD2.out];rintro e w4 ⟨hb4,rfl,hc4⟩;have HC4:=hid hc4;clear hc4;have hb44:But c w.heap.size w w4:=hb3.trans (hb4.mono hz3);have hz4:=hb4.size)
    | (go_at_call 115;(with_reducible refine (r11Pick_any l b gc go v r cc co (fun k=>k≠c) _ (HT.out.but hb44 hbs hcb) hv (by exact RIs.ext (Agree.but hb44) _ _ H1.out) (by exact RIs.ext (Agree.but hb44) _ _ H2.out)).mono ?_);rintro e w5 ⟨rfl,hb5⟩))
   go_ret2
   have hb55:But c w.heap.size w _:=hb44.trans (But.of (hb5.mono (by omega)))
   exact ⟨hb55,rfl,Cur.below hb5 (by omega) HC4.out⟩
end Go.Proofs.YtclphfojkggcpaaGreat
