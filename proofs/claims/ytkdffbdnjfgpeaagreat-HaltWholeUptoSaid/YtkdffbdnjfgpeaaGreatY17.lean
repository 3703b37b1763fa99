/- Part 18. -/
import Derived.Test.YtkdffbdnjfgpeaaGreatY16
import Derived.Test.YtkdffbdnjfgpeaaGreatY21
set_option linter.all false
namespace Go.Proofs.YtkdffbdnjfgpeaaGreat
open Go.Lib (hid)
open Go Go.RowKit Go.Proofs.Tryz
def OV (k:Int) (v:GV) (m:VA) (n:Int):Value:=.agg #[.int .u8 k,.int .u8 v.k,.int .i64 v.n,.slice m.a v.l.length m.c,.int .i64 n]
def Y8:GV:=⟨0,0,[]⟩
theorem ZnH {p:Prop} (h:p:=by
 refine callsD_of_wpS func93 rfl fun c₀ cs hu=>?_
 apply wpS_seq
 apply wpS_region
 simp [wpOpsS,go_sem,recoverD,hu,ntmps93,Exit.thenS]
 refine wpS_of_wp ?_
 simp only [Array.replicate_succ,Array.replicate_zero,List.push_toArray,List.append_toArray,List.nil_append,List.cons_append,List.setIfInBounds_toArray,List.set_cons_succ,List.set_cons_zero]
 go_wp2
 cases c₀
 simp_all [bodyPostS,results,Tryz.results93]):p:=h
set_option maxRecDepth 100000
theorem Zh4 (p:Addr) (w:World):
  CallsD prog 93 #[.pointer (some p)] .returning w fun e u' w'=>e=.returned (.tuple #[])∧u'=.returning∧w'=w:=by
 exact ZnH
theorem Zb4 (pb:Nat) (k:Int) (w:World) (older:List PanicEntry) (hp:w.cell? ⟨pb,0,none⟩=some (.int .u8 0)∧w.cell? ⟨pb,1,none⟩=some (.int .u8 0)∧w.cell? ⟨pb,2,none⟩=some (.int .i64 0)∧w.cell? ⟨pb,3,none⟩=some (.slice none 0 0)∧w.cell? ⟨pb,4,none⟩=some (.int .i64 0))
  (hf:∀o,w.frozen? ⟨pb,o,none⟩=false):
  CallsD prog 93 #[.pointer (some ⟨pb,0,none⟩)] (.panicking ({ v:=.iface 149 (.int .u8 k),recovered:=false }::older)) w fun e u' w'=>
   e=.returned (.tuple #[])∧u'=.panicking ({ v:=.iface 149 (.int .u8 k),recovered:=true }::older)∧w'=((((w.setCell ⟨pb,0,none⟩ (.int .u8 k)).setCell ⟨pb,1,none⟩ (.int .u8 0)).setCell ⟨pb,2,none⟩ (.int .i64 0)).setCell ⟨pb,3,none⟩ (.slice none 0 0)).setCell ⟨pb,4,none⟩ (.int .i64 0):=by
 obtain ⟨h0,h1,h2,h3,h4⟩:=hp
 have hta:∀w:World,(Instr.typeAssert (.iface 149 (.int .u8 k)) 20 149 true).run prog w=.ok (.tuple #[.int .u8 k,.bool true]) w:=fun w=>kr
 have hpl:pb < w.heap.size:=World.block_lt_of_cell? _ _ h0
 exact ZnH
set_option maxRecDepth 512
def ZkL (c:Nat) (r:Res GV) (w:World):Ending→World→Prop:=fun e w'=>But c w.heap.size w w' ∧
 match r with
 | .ok v j=>∃m,e=.returned (OV 1 v m j)∧RV w' (fun b=>w.heap.size≤b) v m.a
 | .no k=>e=.returned (OV k Y8 ⟨none,0⟩ 0)
set_option maxRecDepth 100000
set_option maxHeartbeats 4000000
theorem Zfm (c:Nat) (s:ByteArray) (t:GT) (w:World) (x:TA) (h0:s.size≤1048576) (hj:(Zd s 4098 t [] 0).In okV 0 s.size)
  (hx:∀W,But c W.heap.size W W→∀m,Cur W c s 0 false→RT W (fun b=>b≠c) t m→Calls prog 94 #[.agg #[.pointer (some ⟨c,0,none⟩)],TV t m,.pointer none] W (UH c s (Zd s 4098 t [] 0) W))
  (hc:Cur w c s 0 false) (hr:RT w (fun b=>b≠c) t x):
  Calls prog 62 #[TV t x,.pointer (some ⟨c,0,none⟩)] w (ZkL c (Zd s 4098 t [] 0) w):=by
 obtain ⟨ma,mb,mc,md,me,mf,mg,mh,mi,mj,mk,ml⟩:=x
 have hmf:∀(fn:Fn) (first cap:Array Value) (w:World),(Instr.makeFunc fn first cap).run prog w=.ok (.func fn first cap) w:=fun _ _ _ _=>rfl
 have hcs:c < w.heap.size:=World.block_lt_of_cell? _ _ hc.1.1
 have HR:=hid hr
 have HC:=hid hc
 have HX:=hid (fun (W:World) h1 h2 h3=>hx W h1 ⟨ma,mb,mc,md,me,mf,mg,mh,mi,mj,mk,ml⟩ h2 h3)
 clear hc hr hx
 rcases hW:Zd s 4098 t [] 0 with ⟨v,j⟩|⟨k⟩
 ·rw [hW] at hj
  obtain ⟨_,hjs,_⟩:=hj
  have HW:=hid hW
  clear hW
  go_enter_defers func62,ntmps62
  go_wp2_with (first
   | (go_at_call 92;refine (X1 c s 0 false _ (by exact Zt3 (B:=w.heap.size) ZtX hcs HC.out)).mono ?_;rintro e0 w1 ⟨rfl,hb1⟩;have hz1:=hb1.size;(try simp at hz1);obtain ⟨hcc1,hcf1⟩:=Za hb1)
   | (go_at_call 94;refine (HX.out _ (But.refl _ _ _) (by exact Zt3 (B:=w.heap.size) ZtX hcs HC.out) (by exact Zt2 (Zt0 Zt1) _ _ HR.out)).mono ?_;rw [HW.out];rintro e1 w2 ⟨hb2,⟨m2,rfl,hrv⟩,hc2⟩;have HRV:=hid hrv;have HC2:=hid hc2;clear hrv hc2;have hz2:=hb2.size;(try simp at hz2)))
  have hcs2:c < w2.heap.size:=om
  have hcs3:c < w2.heap.size+1:=om
  have hsub:IntKind.i64.wrap ((j:Int) - 0)=(j:Int):=by rw [Int.sub_zero];exact IntWalk.i64_in _ om
  have h1z:w.heap.size+1 < w2.heap.size:=om
  have r0:w2.cell? ⟨w.heap.size+1,0,none⟩=some (.int .u8 0):=(hb2.cell (by simp;omega) (by simp;omega)).trans gs
  have r1:w2.cell? ⟨w.heap.size+1,1,none⟩=some (.int .u8 0):=(hb2.cell (by simp;omega) (by simp;omega)).trans gs
  have r2:w2.cell? ⟨w.heap.size+1,2,none⟩=some (.int .i64 0):=(hb2.cell (by simp;omega) (by simp;omega)).trans gs
  have r3:w2.cell? ⟨w.heap.size+1,3,none⟩=some (.slice none 0 0):=(hb2.cell (by simp;omega) (by simp;omega)).trans gs
  have r4:w2.cell? ⟨w.heap.size+1,4,none⟩=some (.int .i64 0):=(hb2.cell (by simp;omega) (by simp;omega)).trans gs
  have hff:∀o,w2.frozen? ⟨w.heap.size+1,o,none⟩=false:=fun o=>(hb2.frozen (by simp;omega) (by simp;omega)).trans gs
  go_region_held3 (fun W=>W.cell? ⟨w2.heap.size,0,none⟩=some (.int .u8 v.k)∧W.cell? ⟨w2.heap.size,1,none⟩=some (.int .i64 v.n)∧W.cell? ⟨w2.heap.size,2,none⟩=some (.slice m2.a v.l.length m2.c)) ((refine ⟨?_,?_,?_⟩<;>go_simp)) (((go_at_call 92;refine (X1 c s j false _ (by exact Zt3 (B:=w2.heap.size) ZtX hcs2 HC2.out)).mono ?_;rintro e3 w4 ⟨rfl,hb4⟩;have hz4:=hb4.size;(try simp at hz4);obtain ⟨hc4,hf4⟩:=Za hb4;(have h2z:w.heap.size+1 < w4.heap.size:=om);have hbw:Below w2.heap.size w2 w4:=ZtX;have p0:=(hbw.cell (p:=⟨w.heap.size+1,0,none⟩) (by simpa using h1z)).trans r0;have p1:=(hbw.cell (p:=⟨w.heap.size+1,1,none⟩) (by simpa using h1z)).trans r1;have p2:=(hbw.cell (p:=⟨w.heap.size+1,2,none⟩) (by simpa using h1z)).trans r2;have p3:=(hbw.cell (p:=⟨w.heap.size+1,3,none⟩) (by simpa using h1z)).trans r3;have p4:=(hbw.cell (p:=⟨w.heap.size+1,4,none⟩) (by simpa using h1z)).trans r4;have pf:∀o,w4.frozen? ⟨w.heap.size+1,o,none⟩=false:=fun o=>(hbw.frozen (p:=⟨w.heap.size+1,o,none⟩) (by simpa using h1z)).trans (hff o))))
  go_wp2_with fail
  refine leaves_cons (f:=93) (args:=#[.pointer (some ⟨w.heap.size+1,0,none⟩)]) sm (by simp [go_sem]) ?_
  refine (Zh4 ⟨w.heap.size+1,0,none⟩ _).mono ?_
  rintro e u' w'' ⟨rfl,rfl,rfl⟩
  simp [Leaves,settle,results,Tryz.results62,go_sem,p0,p1,p2,p3,p4,h2z]
  have hjw:IntKind.i64.wrap (j:Int)=(j:Int):=IntWalk.i64_in _ om
  rw [hjw]
  exact ⟨Zt1,m2,rfl,Zt9 (fun b hb _=>by (try simp at hb);omega) _ _ (Zt5 (((((Zt4 so).trans (Zt4 so)).trans (Zt4 so)).trans (Zt4 so)).trans (Zt4 so)) _ _ (Zt5 (ZtY hbw) _ _ HRV.out))⟩
 have HW:=hid hW
 clear hW
 go_enter_defers func62,ntmps62
 go_wp2_with (first
  | (go_at_call 92;refine (X1 c s 0 false _ (by exact Zt3 (B:=w.heap.size) ZtX hcs HC.out)).mono ?_;rintro e0 w1 ⟨rfl,hb1⟩;have hz1:=hb1.size;(try simp at hz1);obtain ⟨hcc1,hcf1⟩:=Za hb1)
  | (go_at_call 94;refine (HX.out _ (But.refl _ _ _) (by exact Zt3 (B:=w.heap.size) ZtX hcs HC.out) (by exact Zt2 (Zt0 Zt1) _ _ HR.out)).mono ?_;rw [HW.out];rintro e1 w2 ⟨hb2,rfl⟩;have hz2:=hb2.size;(try simp at hz2)))
 have r0:w2.cell? ⟨w.heap.size+1,0,none⟩=some (.int .u8 0):=(hb2.cell (by simp;omega) (by simp;omega)).trans gs
 have r1:w2.cell? ⟨w.heap.size+1,1,none⟩=some (.int .u8 0):=(hb2.cell (by simp;omega) (by simp;omega)).trans gs
 have r2:w2.cell? ⟨w.heap.size+1,2,none⟩=some (.int .i64 0):=(hb2.cell (by simp;omega) (by simp;omega)).trans gs
 have r3:w2.cell? ⟨w.heap.size+1,3,none⟩=some (.slice none 0 0):=(hb2.cell (by simp;omega) (by simp;omega)).trans gs
 have r4:w2.cell? ⟨w.heap.size+1,4,none⟩=some (.int .i64 0):=(hb2.cell (by simp;omega) (by simp;omega)).trans gs
 have hff:∀o,w2.frozen? ⟨w.heap.size+1,o,none⟩=false:=fun o=>(hb2.frozen (by simp;omega) (by simp;omega)).trans gs
 have hz3:w.heap.size+1 < w2.heap.size:=om
 refine leaves_cons (f:=93) (args:=#[.pointer (some ⟨w.heap.size+1,0,none⟩)]) sm (by simp [go_sem]) ?_
 refine (Zb4 (w.heap.size+1) k _ [] ⟨r0,r1,r2,r3,r4⟩ hff).mono ?_
 rintro e u' w'' ⟨rfl,rfl,rfl⟩
 simp [Leaves,settle,results,Tryz.results62,go_sem,r0,r1,r2,r3,r4,hz3]
 exact ⟨Zt1,rfl⟩
set_option maxRecDepth 512
theorem J9 {t:GT} (h:(Z3 t).2=0):Zp false t∧∃k n,wkT 4098 t [] k n≠none:=by
 unfold Z3 at h
 by_cases h1:(ZF 0 1 12 false t).2=0
 case neg=>rw [if_pos h1] at h;exact absurd h h1
 rw [if_neg (by simp [h1])] at h
 refine ⟨XL 12 t 0 1 false h1,1,0,fun h2=>?_⟩
 have h3:Zz t=(4097,0):=by unfold Zz;rw [h2]
 rw [h3,if_pos (.inr (by decide))] at h
 exact absurd h (by decide)
def ZbZ (n:Int) (r:Res GV) (w:World) (e:Ending) (w':World):Prop:=
 if n≠0 then e=.returned (.tuple #[OV 0 Y8 ⟨none,0⟩ 0,.int .i64 n])
 else match r with
  | .ok v j=>∃m,e=.returned (.tuple #[OV 1 v m j,.int .i64 0])∧RV w' (fun b=>w.heap.size≤b) v m.a
  | .no k=>e=.returned (.tuple #[OV k Y8 ⟨none,0⟩ 0,.int .i64 0])
def RunR (t:GT) (s:ByteArray) (w:World):Ending→World→Prop:=fun e w'=>Below w.heap.size w w'∧ZbZ (ZP t s) (Vm s t) w e w'
theorem RunR.err {t:GT} {s:ByteArray} {w w':World} {n:Int} (h:ZP t s=n) (hn:n≠0) (hb:Below w.heap.size w w'):RunR t s w (.returned (.tuple #[OV 0 Y8 ⟨none,0⟩ 0,.int .i64 n])) w':=by
 refine ⟨hb,?_⟩
 rw [h]
 unfold ZbZ
 rw [if_pos hn]
theorem RunR.ok {t:GT} {s:ByteArray} {w w':World} {v:GV} {j:Nat} {m:VA} (h:ZP t s=0) (hr:Zd s 4098 t [] 0=.ok v j) (hb:Below w.heap.size w w') (hv:RV w' (fun b=>w.heap.size≤b) v m.a):RunR t s w (.returned (.tuple #[OV 1 v m j,.int .i64 0])) w':=by
 refine ⟨hb,?_⟩
 rw [h,show Vm s t=_ from hr]
 unfold ZbZ
 rw [if_neg sm]
 exact ⟨m,rfl,hv⟩
theorem RunR.no {t:GT} {s:ByteArray} {w w':World} {k:Nat} (h:ZP t s=0) (hr:Zd s 4098 t [] 0=.no k) (hb:Below w.heap.size w w'):RunR t s w (.returned (.tuple #[OV k Y8 ⟨none,0⟩ 0,.int .i64 0])) w':=by
 refine ⟨hb,?_⟩
 rw [h,show Vm s t=_ from hr]
 unfold ZbZ
 rw [if_neg sm]
theorem ZnI {p:Prop} (h:p:=by
 refine Below.setCell (Below.setCell (Below.setCell (Below.setCell (Below.setCell hbw3 ?_ _) ?_ _) ?_ _) ?_ _) ?_ _
 all_goals (simp;done)):p:=h
set_option maxRecDepth 100000
theorem Zkv (t:GT) (s:ByteArray) (w:World) (A:Nat→Prop) (m:TA) (HS:Zc s=true→∀c,Vn c s (Zb t) 4098) (ox:okT t) (hs:Zb t≤1099511627776) (hl:RT w A t m) (hss:s.size≤9223372036854775807):
  Calls prog 35 #[TV t m,.string s] w (RunR t s w):=by
 obtain ⟨ma,mb,mc,md,me,mf,mg,mh,mi,mj,mk,ml⟩:=m
 have HL:=hid hl
 have OX:=hid ox
 by_cases hE:(Z3 t).2=0
 case neg=>
  have hr:ZP t s=(Z3 t).2:=by unfold ZP;rw [if_pos hE]
  have HRE:=hid hr
  have hE':((Z3 t).2 != 0)=true:=by simp [hE]
  have HNE:=hid hE
  clear hl ox HS hr hE
  go_enter func35,ntmps35
  go_wp2_with (go_at_call 59;refine (Ub t _ A ⟨ma,mb,mc,md,me,mf,mg,mh,mi,mj,mk,ml⟩ OX.out hs (by exact Zt2 az _ _ HL.out)).mono ?_;rintro e w1 ⟨rfl,hb⟩;have hB1:=hb;clear hb;obtain ⟨hc1,hf1⟩:=Za hB1)
  have r0:w1.cell? ⟨w.heap.size+1,0,none⟩=some (.int .u8 0):=(hB1.cell so).trans gs
  have r1:w1.cell? ⟨w.heap.size+1,1,none⟩=some (.int .u8 0):=(hB1.cell so).trans gs
  have r2:w1.cell? ⟨w.heap.size+1,2,none⟩=some (.int .i64 0):=(hB1.cell so).trans gs
  have r3:w1.cell? ⟨w.heap.size+1,3,none⟩=some (.slice none 0 0):=(hB1.cell so).trans gs
  have r4:w1.cell? ⟨w.heap.size+1,4,none⟩=some (.int .i64 0):=(hB1.cell so).trans gs
  have hz9:w.heap.size+1 < w1.heap.size:=by have:=hB1.size;(try simp at this);omega
  refine bodyPost_ret (v:=.tuple #[OV 0 Y8 ⟨none,0⟩ 0,.int .i64 (Z3 t).2]) (by simp [results,Tryz.f35,go_sem,OV,Y8,r0,r1,r2,r3,r4,hz9]) rfl ?_
  exact RunR.err HRE.out HNE.out ZtX
 have hE':((Z3 t).2 != 0)=false:=by simp [hE]
 obtain ⟨hg,hwk⟩:=J9 hE
 cases hB:Zc s
 ·have hr:ZP t s=3:=by unfold ZP;rw [if_neg (by simp [hE]),hB];rfl
  have HRE:=hid hr
  have HB:=hid hB
  clear hl ox HS hr hE hg hwk hB
  go_enter func35,ntmps35
  go_wp2_with (first
   | (go_at_call 59;refine (Ub t _ A ⟨ma,mb,mc,md,me,mf,mg,mh,mi,mj,mk,ml⟩ OX.out hs (by exact Zt2 az _ _ HL.out)).mono ?_;rintro e w1 ⟨rfl,hb⟩;have hB1:=hb;clear hb;obtain ⟨hc1,hf1⟩:=Za hB1)
   | (go_at_call 61;refine (Ks s _ hss).mono ?_;rintro e w2 ⟨hb2,⟨h1,_⟩|⟨_,rfl⟩⟩;exact absurd (HB.out.symm.trans h1) (by decide);obtain ⟨hc2,hf2⟩:=Za hb2;have hz1:=hB1.size;simp at hz1;have y0:w.heap.size+1 < w1.heap.size:=om))
  have s0:w1.cell? ⟨w.heap.size+1,0,none⟩=some (.int .u8 0):=(hB1.cell so).trans gs
  have s1:w1.cell? ⟨w.heap.size+1,1,none⟩=some (.int .u8 0):=(hB1.cell so).trans gs
  have s2:w1.cell? ⟨w.heap.size+1,2,none⟩=some (.int .i64 0):=(hB1.cell so).trans gs
  have s3:w1.cell? ⟨w.heap.size+1,3,none⟩=some (.slice none 0 0):=(hB1.cell so).trans gs
  have s4:w1.cell? ⟨w.heap.size+1,4,none⟩=some (.int .i64 0):=(hB1.cell so).trans gs
  have hy9:w.heap.size+1 < w1.heap.size:=by have:=hB1.size;(try simp at this);omega
  have r0:=(hb2.cell (p:=⟨w.heap.size+1,0,none⟩) (by simpa using hy9)).trans s0
  have r1:=(hb2.cell (p:=⟨w.heap.size+1,1,none⟩) (by simpa using hy9)).trans s1
  have r2:=(hb2.cell (p:=⟨w.heap.size+1,2,none⟩) (by simpa using hy9)).trans s2
  have r3:=(hb2.cell (p:=⟨w.heap.size+1,3,none⟩) (by simpa using hy9)).trans s3
  have r4:=(hb2.cell (p:=⟨w.heap.size+1,4,none⟩) (by simpa using hy9)).trans s4
  have hz9:w.heap.size+1 < w2.heap.size:=by have:=hb2.size;omega
  refine bodyPost_ret (v:=.tuple #[OV 0 Y8 ⟨none,0⟩ 0,.int .i64 3]) (by simp [results,Tryz.f35,go_sem,OV,Y8,r0,r1,r2,r3,r4,hz9]) rfl ?_
  exact RunR.err HRE.out (by decide) ZtX
 have hr:ZP t s=0:=by unfold ZP;rw [if_neg (by simp [hE]),if_pos hB]
 have h1024:s.size≤1024:=by
  unfold Zc at hB
  rw [Bool.and_eq_true] at hB
  exact of_decide_eq_true hB.1
 have hin:=Vy (t:=t) (s:=s) hr ox
 have HO:∀(c:Nat) (W:World),Cur W c s 0 false→RT W (fun b=>b≠c) t ⟨ma,mb,mc,md,me,mf,mg,mh,mi,mj,mk,ml⟩→Calls prog 62 #[TV t ⟨ma,mb,mc,md,me,mf,mg,mh,mi,mj,mk,ml⟩,.pointer (some ⟨c,0,none⟩)] W (ZkL c (Zd s 4098 t [] 0) W):=
  fun c W h1 h2=>Zfm c s t W ⟨ma,mb,mc,md,me,mf,mg,mh,mi,mj,mk,ml⟩ om hin (fun W _ m h2 h3=>HS hB c t [] 0 W m none hg ox (Nat.le_refl _) trivial (Nat.zero_le _) hwk h2 h3 rfl) h1 h2
 have HB:=hid hB
 have HRE:=hid hr
 clear hl ox HS hr hE hg hwk hB hin
 rcases hN:Zd s 4098 t [] 0 with ⟨v,j⟩|⟨k⟩
 ·rw [hN] at HO
  have HOO:=hid HO
  have HN:=hid hN
  clear hN HO
  go_enter func35,ntmps35
  go_wp2_with (first
   | (go_at_call 59;refine (Ub t _ A ⟨ma,mb,mc,md,me,mf,mg,mh,mi,mj,mk,ml⟩ OX.out hs (by exact Zt2 az _ _ HL.out)).mono ?_;rintro e w1 ⟨rfl,hb⟩;have hB1:=hb;clear hb;obtain ⟨hc1,hf1⟩:=Za hB1)
   | (go_at_call 61;refine (Ks s _ hss).mono ?_;rintro e w2 ⟨hb2,⟨_,c,hcl,hcs,rfl,hcu⟩|⟨h1,_⟩⟩;rotate_left;exact absurd (HB.out.symm.trans h1) (by decide);obtain ⟨hc2,hf2⟩:=Za hb2;have HCU:=hid hcu;clear hcu;have hz1:=hB1.size;simp at hz1;have hz2:=hb2.size;have y0:w.heap.size+1 < w1.heap.size:=om;have y1:w.heap.size < w1.heap.size:=om;have y2:w.heap.size+1 < w2.heap.size:=om;have y3:w.heap.size < w2.heap.size:=om;have hbw2:Below w.heap.size w w2:=ZtX;have HRT:=hid (Zud (A':=fun b=>b≠c) (fun b hb _=>om) _ _ (Zt2 (ZtY hbw2) _ _ (Zud (A':=fun b=>b < w.heap.size) (fun b _ h=>h) _ _ HL.out))))
   | (go_at_call 62;refine (HOO.out c _ (by exact HCU.out) (by exact HRT.out)).mono ?_;rintro e w3 ⟨hb3,m,he,hrv⟩;have he2:e=.returned (.agg #[.int .u8 1,.int .u8 v.k,.int .i64 v.n,.slice m.a v.l.length m.c,.int .i64 j]):=he;subst he2;clear he;have hz3:=hb3.size;have s0:w1.cell? ⟨w.heap.size+1,0,none⟩=some (.int .u8 0):=(hB1.cell so).trans gs;have r0:=(hb3.cell (p:=⟨w.heap.size+1,0,none⟩) (by simpa using y2) (by simp;omega)).trans ((hb2.cell (p:=⟨w.heap.size+1,0,none⟩) (by simpa using y0)).trans s0);have s1:w1.cell? ⟨w.heap.size+1,1,none⟩=some (.int .u8 0):=(hB1.cell so).trans gs;have r1:=(hb3.cell (p:=⟨w.heap.size+1,1,none⟩) (by simpa using y2) (by simp;omega)).trans ((hb2.cell (p:=⟨w.heap.size+1,1,none⟩) (by simpa using y0)).trans s1);have s2:w1.cell? ⟨w.heap.size+1,2,none⟩=some (.int .i64 0):=(hB1.cell so).trans gs;have r2:=(hb3.cell (p:=⟨w.heap.size+1,2,none⟩) (by simpa using y2) (by simp;omega)).trans ((hb2.cell (p:=⟨w.heap.size+1,2,none⟩) (by simpa using y0)).trans s2);have s3:w1.cell? ⟨w.heap.size+1,3,none⟩=some (.slice none 0 0):=(hB1.cell so).trans gs;have r3:=(hb3.cell (p:=⟨w.heap.size+1,3,none⟩) (by simpa using y2) (by simp;omega)).trans ((hb2.cell (p:=⟨w.heap.size+1,3,none⟩) (by simpa using y0)).trans s3);have s4:w1.cell? ⟨w.heap.size+1,4,none⟩=some (.int .i64 0):=(hB1.cell so).trans gs;have r4:=(hb3.cell (p:=⟨w.heap.size+1,4,none⟩) (by simpa using y2) (by simp;omega)).trans ((hb2.cell (p:=⟨w.heap.size+1,4,none⟩) (by simpa using y0)).trans s4);have hz9:w.heap.size+1 < w3.heap.size:=om;have rf:∀o,w3.frozen? ⟨w.heap.size+1,o,none⟩=false:=fun o=>(hb3.frozen (p:=⟨w.heap.size+1,o,none⟩) (by simpa using y2) (by simp;omega)).trans ((hb2.frozen (p:=⟨w.heap.size+1,o,none⟩) (by simpa using y0)).trans ((hB1.frozen so).trans gs));have hbw3:Below w.heap.size w w3:=hbw2.trans ((hb3.mono (B':=w.heap.size) om).below om)))
  refine bodyPost_ret (v:=.tuple #[OV 1 v m j,.int .i64 0]) (by simp [results,Tryz.f35,go_sem,OV,r0,r1,r2,r3,r4,hz9]) rfl ?_
  refine RunR.ok (m:=m) HRE.out HN.out ?_ ?_
  ·exact ZnI
  exact Zt9 (fun b hb _=>by (try simp at hb);omega) _ _ (Zt5 (((((Zt4 so).trans (Zt4 so)).trans (Zt4 so)).trans (Zt4 so)).trans (Zt4 so)) _ _ hrv)
 rw [hN] at HO
 have HOO:=hid HO
 have HN:=hid hN
 clear hN HO
 go_enter func35,ntmps35
 go_wp2_with (first
  | (go_at_call 59;refine (Ub t _ A ⟨ma,mb,mc,md,me,mf,mg,mh,mi,mj,mk,ml⟩ OX.out hs (by exact Zt2 az _ _ HL.out)).mono ?_;rintro e w1 ⟨rfl,hb⟩;have hB1:=hb;clear hb;obtain ⟨hc1,hf1⟩:=Za hB1)
  | (go_at_call 61;refine (Ks s _ hss).mono ?_;rintro e w2 ⟨hb2,⟨_,c,hcl,hcs,rfl,hcu⟩|⟨h1,_⟩⟩;rotate_left;exact absurd (HB.out.symm.trans h1) (by decide);obtain ⟨hc2,hf2⟩:=Za hb2;have HCU:=hid hcu;clear hcu;have hz1:=hB1.size;simp at hz1;have hz2:=hb2.size;have y0:w.heap.size+1 < w1.heap.size:=om;have y1:w.heap.size < w1.heap.size:=om;have y2:w.heap.size+1 < w2.heap.size:=om;have y3:w.heap.size < w2.heap.size:=om;have hbw2:Below w.heap.size w w2:=ZtX;have HRT:=hid (Zud (A':=fun b=>b≠c) (fun b hb _=>om) _ _ (Zt2 (ZtY hbw2) _ _ (Zud (A':=fun b=>b < w.heap.size) (fun b _ h=>h) _ _ HL.out))))
  | (go_at_call 62;refine (HOO.out c _ (by exact HCU.out) (by exact HRT.out)).mono ?_;rintro e w3 ⟨hb3,he⟩;have he2:e=.returned (.agg #[.int .u8 k,.int .u8 0,.int .i64 0,.slice none 0 0,.int .i64 0]):=he;subst he2;clear he;have hz3:=hb3.size;have s0:w1.cell? ⟨w.heap.size+1,0,none⟩=some (.int .u8 0):=(hB1.cell so).trans gs;have r0:=(hb3.cell (p:=⟨w.heap.size+1,0,none⟩) (by simpa using y2) (by simp;omega)).trans ((hb2.cell (p:=⟨w.heap.size+1,0,none⟩) (by simpa using y0)).trans s0);have s1:w1.cell? ⟨w.heap.size+1,1,none⟩=some (.int .u8 0):=(hB1.cell so).trans gs;have r1:=(hb3.cell (p:=⟨w.heap.size+1,1,none⟩) (by simpa using y2) (by simp;omega)).trans ((hb2.cell (p:=⟨w.heap.size+1,1,none⟩) (by simpa using y0)).trans s1);have s2:w1.cell? ⟨w.heap.size+1,2,none⟩=some (.int .i64 0):=(hB1.cell so).trans gs;have r2:=(hb3.cell (p:=⟨w.heap.size+1,2,none⟩) (by simpa using y2) (by simp;omega)).trans ((hb2.cell (p:=⟨w.heap.size+1,2,none⟩) (by simpa using y0)).trans s2);have s3:w1.cell? ⟨w.heap.size+1,3,none⟩=some (.slice none 0 0):=(hB1.cell so).trans gs;have r3:=(hb3.cell (p:=⟨w.heap.size+1,3,none⟩) (by simpa using y2) (by simp;omega)).trans ((hb2.cell (p:=⟨w.heap.size+1,3,none⟩) (by simpa using y0)).trans s3);have s4:w1.cell? ⟨w.heap.size+1,4,none⟩=some (.int .i64 0):=(hB1.cell so).trans gs;have r4:=(hb3.cell (p:=⟨w.heap.size+1,4,none⟩) (by simpa using y2) (by simp;omega)).trans ((hb2.cell (p:=⟨w.heap.size+1,4,none⟩) (by simpa using y0)).trans s4);have hz9:w.heap.size+1 < w3.heap.size:=om;have rf:∀o,w3.frozen? ⟨w.heap.size+1,o,none⟩=false:=fun o=>(hb3.frozen (p:=⟨w.heap.size+1,o,none⟩) (by simpa using y2) (by simp;omega)).trans ((hb2.frozen (p:=⟨w.heap.size+1,o,none⟩) (by simpa using y0)).trans ((hB1.frozen so).trans gs));have hbw3:Below w.heap.size w w3:=hbw2.trans ((hb3.mono (B':=w.heap.size) om).below om)))
 refine bodyPost_ret (v:=.tuple #[OV k Y8 ⟨none,0⟩ 0,.int .i64 0]) (by simp [results,Tryz.f35,go_sem,OV,Y8,r0,r1,r2,r3,r4,hz9]) rfl ?_
 refine RunR.no HRE.out HN.out ?_
 exact ZnI
end Go.Proofs.YtkdffbdnjfgpeaaGreat
