/- Part 14. -/
import Derived.Test.YtkdffbdnjfgpeaaGreatZ10
import Derived.Test.YtkdffbdnjfgpeaaGreatZ12
import Derived.Test.YtkdffbdnjfgpeaaGreatZ23
set_option linter.all false
namespace Go.Proofs.YtkdffbdnjfgpeaaGreat
open Go.Lib (hid)
open Go Go.RowKit Go.Proofs.Tryz
abbrev ZgN (k:Nat):Ending:=.panicked [{ v:=.iface 149 (.int .u8 k),recovered:=false }]
theorem Y1 (x:Int) (w:World):Calls prog 145 #[.int .i64 x,.bool true] w fun e w'=>e=.returned (.int .i64 x)∧w=w':=by
 go_enter func145,ntmps145
 go_wp2_with fail
 go_ret
 exact ⟨rfl,rfl⟩
theorem UX (x:Int) (w:World):Calls prog 145 #[.int .i64 x,.bool false] w fun e w'=>e=ZgN 2∧Below w.heap.size w w':=by
 go_enter func145,ntmps145
 go_wp2_with fail
 exact ⟨rfl,rfl,ZtX⟩
theorem ZgW (x:Int) (w:World):Calls prog 220 #[.int .u64 x,.bool true] w fun e w'=>e=.returned (.int .u64 x)∧w=w':=by
 go_enter func220,ntmps220
 go_wp2_with fail
 go_ret
 exact ⟨rfl,rfl⟩
theorem Zij (x:Int) (w:World):Calls prog 220 #[.int .u64 x,.bool false] w fun e w'=>e=ZgN 2∧Below w.heap.size w w':=by
 go_enter func220,ntmps220
 go_wp2_with fail
 exact ⟨rfl,rfl,ZtX⟩
theorem Xy (a:Option Addr) (n c:Nat) (w:World):Calls prog 152 #[.slice a n c,.bool true] w fun e w'=>e=.returned (.slice a n c)∧w=w':=by
 go_enter func152,ntmps152
 go_wp2_with fail
 go_ret
 exact ⟨rfl,rfl⟩
theorem ZbA (a:Option Addr) (n c:Nat) (w:World):Calls prog 152 #[.slice a n c,.bool false] w fun e w'=>e=ZgN 2∧Below w.heap.size w w':=by
 go_enter func152,ntmps152
 go_wp2_with fail
 exact ⟨rfl,rfl,ZtX⟩
def Zlo (c:Nat) (s:ByteArray) (r:Res Int) (w:World):Ending→World→Prop:=fun e w'=>But c w.heap.size w w' ∧
 match r with
 | .ok n j=>e=.returned (.int .i64 n)∧Cur w' c s j false
 | .no k=>e=ZgN k
set_option maxRecDepth 100000
set_option maxHeartbeats 1000000
theorem U6 (c:Nat) (s:ByteArray) (i:Nat) (lo hi:Int) (w:World) (hb:Zc s=true) (hi0:i≤s.size) (h1: -1099511627776≤lo) (h2:lo≤hi) (h3:hi≤1099511627776) (hl:Cur w c s i false):
  Calls prog 143 #[.agg #[.pointer (some ⟨c,0,none⟩)],.int .i64 lo,.int .i64 hi] w (Zlo c s (WK s lo hi i) w):=by
 have HC:=hid hl
 have HB:=hid hb
 have hcs:c < w.heap.size:=World.block_lt_of_cell? _ _ hl.1.1
 obtain ⟨m,hm⟩:∃m:Nat,hi - lo+1=(m:Int):=⟨(hi - lo+1).toNat,om⟩
 have hm0:0 < m∧m < 18446744073709551616:=om
 have hmt:(hi - lo+1).toNat=m:=om
 have hdr:=Yk s m i hi0
 have hP1:∀j,ZN s m i=(none,j)→WK s lo hi i=.no 2:=fun j h=>by unfold WK K8;rw [hmt,h];rfl
 have hP2:∀v j,ZN s m i=(some v,j)→WK s lo hi i=.ok (lo+(v:Int)) j:=fun v j h=>by unfold WK K8;rw [hmt,h];rfl
 generalize WK s lo hi i=R at *
 have HP1:=hid hP1
 have HP2:=hid hP2
 have HM:=hid hm
 clear hl hb hP1 hP2 hmt hm
 rcases hD:ZN s m i with ⟨_|v,j⟩
 ·have HD:=hid hD
  clear hD hdr
  rw [HP1.out _ HD.out]
  go_enter func143,ntmps143
  go_wp2_with (first
   | (go_at_call 221;refine (WC c s i m _ _ HB.out hi0 hm0 (by have:=HM.out;omega) (by exact Zt3 (B:=w.heap.size) ZtX hcs HC.out)).mono ?_;rw [HD.out];rintro e w3 ⟨hb3,rfl,hc3⟩)
   | (go_at_call 220;refine (Zij _ _).mono ?_;rintro e w4 ⟨rfl,hb4⟩))
  have hz3:=hb3.size
  simp at hz3
  exact ⟨rfl,Zt1,rfl⟩
 have HD:=hid hD
 rw [hD] at hdr
 have hv:=hdr.2.2 v rfl
 have hv2:lo+(v:Int)≤hi:=by have:=HM.out;omega
 have hv3:v < 9223372036854775807:=om
 clear hD hdr
 rw [HP2.out _ _ HD.out]
 go_enter func143,ntmps143
 go_wp2_with (first
  | (go_at_call 221;refine (WC c s i m _ _ HB.out hi0 hm0 (by have:=HM.out;omega) (by exact Zt3 (B:=w.heap.size) ZtX hcs HC.out)).mono ?_;rw [HD.out];rintro e w3 ⟨hb3,rfl,hc3⟩;have HC3:=hid hc3;clear hc3)
  | (go_at_call 220;refine (ZgW _ _).mono ?_;rintro e w4 ⟨rfl,rfl⟩))
 go_ret
 exact ⟨Zt1,rfl,HC3.out⟩
set_option maxRecDepth 512
theorem Va (b gc go n i:Nat) (S:Int) (w:World) (hl:TabAt w b gc go n S) (hS:1≤S∧S≤67108864) (hi:i < n) (hn:n≤64):
  Calls prog 226 #[.pointer (some ⟨b,0,none⟩),.int .i64 i] w fun e w'=>e=.returned (.int .i64 0)∧Below w.heap.size w w':=by
 obtain ⟨t0,t1,t2,t3⟩:=hl
 obtain ⟨s1,s2⟩:=hS
 have hbs:b < w.heap.size:=World.block_lt_of_cell? _ _ t0
 have hS0:(S==0)=false:=beq_eq_false_iff_ne.2 om
 have hlt:¬(n:Int)≤(i:Int):=om
 have hi0:¬(i:Int) < 0:=om
 go_enter func226,ntmps226
 go_wp2_with fail
 go_ret
 exact ⟨rfl,ZtX⟩
theorem qd0 {p:Prop} (h:p:=by
 go_enter func227,ntmps227
 go_wp2_with (go_at_call 226;refine (Va b gc go l.length i (Zj l) _ HT.out ⟨f2,f3⟩ hi f64).mono ?_;rintro e w1 ⟨rfl,hb⟩;have hB1:=hb;clear hb;obtain ⟨hc1,hf1⟩:=Za hB1)
 go_ret2
 exact ⟨rfl,ZtX⟩):p:=h
theorem Zb0 (l:List Int) (b gc go i r cc co:Nat) (A:Nat→Prop) (w:World) (he:Yc l=0) (hl:TabAt w b gc go l.length (Zj l)) (hi:i < l.length) (hr:(r:Int) < Zj l)
  (h1:RIs w A (Zy l).c (some ⟨gc,0,none⟩)) (h2:RIs w A (Zy l).o (some ⟨go,0,none⟩)):
  Calls prog 227 #[.pointer (some ⟨b,0,none⟩),.int .i64 i,.int .i64 r] w fun e w'=>e=.returned (.tuple #[.int .i64 (Xc l i r),.int .i64 0])∧Below w.heap.size w w':=by
 obtain ⟨f1,f64,fw,f2,f3⟩:=Y0 he
 have ok:=JK l
 have HT:=hid hl
 obtain ⟨t0,t1,t2,t3⟩:=hl
 have hbs:b < w.heap.size:=World.block_lt_of_cell? _ _ t0
 obtain ⟨g,o,e,hA,hgs,g0⟩:=h1.get i (by rw [ok.c];exact hi)
 cases e
 obtain ⟨g',o',e,hA',hgs',g0'⟩:=h2.get i (by rw [ok.o];exact hi)
 cases e
 have hm:=ok.m ((Zy l).o[i]'(by rw [ok.o];exact hi)) (List.getElem_mem _)
 have hc1:(Zy l).c.getD i 0=(Zy l).c[i]'(by rw [ok.c];exact hi):=by simp [List.getD_eq_getElem?_getD,List.getElem?_eq_getElem (show i < (Zy l).c.length by rw [ok.c];exact hi)]
 have ho1:(Zy l).o.getD i 0=(Zy l).o[i]'(by rw [ok.o];exact hi):=by simp [List.getD_eq_getElem?_getD,List.getElem?_eq_getElem (show i < (Zy l).o.length by rw [ok.o];exact hi)]
 rw [←hc1] at g0
 rw [←ho1] at hm g0'
 have hP:(Xc l i r:Int)=if (r:Int) < (Zy l).c.getD i 0 then (i:Int) else (Zy l).o.getD i 0:=by
  unfold Xc
  split
  ·rfl
  omega
 rw [hP]
 rw [Nat.zero_add] at g0 g0'
 generalize (Zy l).c.getD i 0=cv at *
 generalize (Zy l).o.getD i 0=ov at *
 clear hc1 ho1 hP h1 h2 ok hm
 have hge:¬Zj l≤(r:Int):=om
 by_cases hcv:(r:Int) < cv
 ·rw [if_pos hcv]
  exact qd0
 rw [if_neg hcv]
 exact qd0
theorem TabAt.but {w w':World} {c B b gc go n:Nat} {S:Int} (h:TabAt w b gc go n S) (hb:But c B w w') (hB:b < B) (hc:b≠c):TabAt w' b gc go n S:=
 ⟨(hb.cell (p:=⟨b,0,none⟩) hB hc).trans h.s,(hb.cell (p:=⟨b,1,none⟩) hB hc).trans h.c,(hb.cell (p:=⟨b,2,none⟩) hB hc).trans h.o,fun j=>(hb.frozen (p:=⟨b,j,none⟩) hB hc).trans (h.f j)⟩
theorem TabAt.below {w w':World} {B b gc go n:Nat} {S:Int} (h:TabAt w b gc go n S) (hb:Below B w w') (hB:b < B):TabAt w' b gc go n S:=
 ⟨(hb.cell (p:=⟨b,0,none⟩) hB).trans h.s,(hb.cell (p:=⟨b,1,none⟩) hB).trans h.c,(hb.cell (p:=⟨b,2,none⟩) hB).trans h.o,fun j=>(hb.frozen (p:=⟨b,j,none⟩) hB).trans (h.f j)⟩
set_option maxRecDepth 100000
theorem Wf (l:List Int) (s:ByteArray) (i b c gc go:Nat) (w:World) (hb:Zc s=true) (hi:i≤s.size) (he:Yc l=0) (hcb:b≠c) (hl:TabAt w b gc go l.length (Zj l))
  (h1:RIs w (fun k=>k≠c) (Zy l).c (some ⟨gc,0,none⟩)) (h2:RIs w (fun k=>k≠c) (Zy l).o (some ⟨go,0,none⟩)) (hc:Cur w c s i false):
  Calls prog 148 #[.pointer (some ⟨b,0,none⟩),.pointer (some ⟨c,0,none⟩)] w (Zdi c s (Ys s l i) w):=by
 obtain ⟨f1,f64,fw,f2,f3⟩:=Y0 he
 have HT:=hid hl
 obtain ⟨t0,t1,t2,t3⟩:=hl
 have hbs:b < w.heap.size:=World.block_lt_of_cell? _ _ t0
 have hcs:c < w.heap.size:=World.block_lt_of_cell? _ _ hc.1.1
 have HC:=hid hc
 have HE:=hid he
 have HB:=hid hb
 have H1:=hid h1
 have H2:=hid h2
 have hd1:=Yk s l.length i hi
 have hn0:0 < l.length∧l.length < 18446744073709551616:=om
 have hsu:((Zj l).toNat:Int)=Zj l:=om
 have hS0:0 < (Zj l).toNat∧(Zj l).toNat < 18446744073709551616:=om
 have hP1:∀j,ZN s l.length i=(none,j)→Ys s l i=(none,j):=fun j h=>by unfold Ys;rw [h]
 have hP2:∀v j q,ZN s l.length i=(some v,j)→ZN s (Zj l).toNat j=(none,q)→Ys s l i=(none,q):=fun v j q h h'=>by unfold Ys;simp only [h,h']
 have hP3:∀v j r q,ZN s l.length i=(some v,j)→ZN s (Zj l).toNat j=(some r,q)→Ys s l i=(some (Xc l v r),q):=fun v j r q h h'=>by unfold Ys;simp only [h,h']
 generalize hP:Ys s l i=P at *
 have HP1:=hid hP1
 have HP2:=hid hP2
 have HP3:=hid hP3
 clear hc he hb fw h1 h2 hP hP1 hP2 hP3
 rcases hD:ZN s l.length i with ⟨_|v,j⟩
 ·have HD:=hid hD
  clear hD hd1
  rw [HP1.out _ HD.out]
  go_enter func148,ntmps148
  go_wp2_with (first
   | (go_at_call 226;refine (Va b gc go l.length 0 (Zj l) _ HT.out ⟨f2,f3⟩ om f64).mono ?_;rintro e w1 ⟨rfl,hb⟩;have hB1:Below w.heap.size w w1:=ZtX;clear hb;obtain ⟨hc1,hf1⟩:=Za hB1;have hz1:=hB1.size)
   | (go_at_call 221;refine (WC c s i l.length _ _ HB.out hi hn0 om (by exact Zt3 hB1 hcs HC.out)).mono ?_;rw [HD.out];rintro e w3 ⟨hb3,rfl,hc3⟩;have HC3:=hid hc3;clear hc3))
  go_ret2
  exact ⟨Zt1,rfl,HC3.out⟩
 have HD:=hid hD
 rw [hD] at hd1
 have hv:=hd1.2.2 v rfl
 have hj:=hd1.2.1
 simp only [] at hj hv
 clear hD hd1
 have hd2:=Yk s (Zj l).toNat j hj
 rcases hD2:ZN s (Zj l).toNat j with ⟨_|r,q⟩
 ·have HD2:=hid hD2
  clear hD2 hd2
  rw [HP2.out _ _ _ HD.out HD2.out]
  go_enter func148,ntmps148
  go_wp2_with (first
   | (go_at_call 226;refine (Va b gc go l.length 0 (Zj l) _ HT.out ⟨f2,f3⟩ om f64).mono ?_;rintro e w1 ⟨rfl,hb⟩;have hB1:Below w.heap.size w w1:=ZtX;clear hb;obtain ⟨hc1,hf1⟩:=Za hB1;have hz1:=hB1.size)
   | (go_at_call 221;refine (WC c s i l.length _ _ HB.out hi hn0 om (by exact Zt3 hB1 hcs HC.out)).mono ?_;rw [HD.out];rintro e w3 ⟨hb3,rfl,hc3⟩;have HC3:=hid hc3;clear hc3;have hbb:But c w.heap.size w w3:=Zt1;have t03:=(hbb.cell (p:=⟨b,0,none⟩) hbs hcb).trans t0)
   | (go_at_call 221;refine (WC c s j (Zj l).toNat _ _ HB.out hj hS0 om (by exact HC3.out)).mono ?_;rw [HD2.out];rintro e w4 ⟨hb4,rfl,hc4⟩;have HC4:=hid hc4;clear hc4))
  go_ret2
  have hz3:=hbb.size
  exact ⟨Zt1,rfl,HC4.out⟩
 have HD2:=hid hD2
 rw [hD2] at hd2
 have hr:=hd2.2.2 r rfl
 clear hD2 hd2
 rw [HP3.out _ _ _ _ HD.out HD2.out]
 have hrI:(r:Int) < Zj l:=om
 have hr3:r < 67108865:=om
 have hv3:v < 65:=om
 go_enter func148,ntmps148
 go_wp2_with (first
  | (go_at_call 226;refine (Va b gc go l.length 0 (Zj l) _ HT.out ⟨f2,f3⟩ om f64).mono ?_;rintro e w1 ⟨rfl,hb⟩;have hB1:Below w.heap.size w w1:=ZtX;clear hb;obtain ⟨hc1,hf1⟩:=Za hB1;have hz1:=hB1.size)
  | (go_at_call 221;refine (WC c s i l.length _ _ HB.out hi hn0 om (by exact Zt3 hB1 hcs HC.out)).mono ?_;rw [HD.out];rintro e w3 ⟨hb3,rfl,hc3⟩;have HC3:=hid hc3;clear hc3;have hbb:But c w.heap.size w w3:=Zt1;have t03:=(hbb.cell (p:=⟨b,0,none⟩) hbs hcb).trans t0;have hz3:=hbb.size)
  | (go_at_call 221;refine (WC c s j (Zj l).toNat _ _ HB.out hj hS0 om (by exact HC3.out)).mono ?_;rw [HD2.out];rintro e w4 ⟨hb4,rfl,hc4⟩;have HC4:=hid hc4;clear hc4;have hb44:But c w.heap.size w w4:=hbb.trans (hb4.mono hz3);have hz4:=hb4.size)
  | (go_at_call 227;refine (Zb0 l b gc go v r 0 0 (fun k=>k≠c) _ HE.out (HT.out.but hb44 hbs hcb) hv hrI (by exact Zuc (Zt0 hb44) _ _ H1.out) (by exact Zuc (Zt0 hb44) _ _ H2.out)).mono ?_;rintro e w5 ⟨rfl,hb5⟩))
 go_ret2
 exact ⟨Zt1,rfl,Zt3 hb5 om HC4.out⟩
end Go.Proofs.YtkdffbdnjfgpeaaGreat
