/- What the proofs of the Trial statements need: part 47. -/
import Derived.ChangeAlike
import Derived.Deep.RegionHeld3
import Derived.Defers
import Derived.IntWalk
import Derived.Recover
import Derived.RegionTactic
import Derived.WalkSmall
import Derived.Test.YtclphfojkggcpaaGreatZ7
import Derived.Test.YtclphfojkggcpaaGreatZ16
import Derived.Test.YtclphfojkggcpaaGreatZ31
import Derived.Test.YtclphfojkggcpaaGreatZ32
import Derived.Test.YtclphfojkggcpaaGreatZ33
import Derived.Test.YtclphfojkggcpaaGreatZ50
set_option linter.unusedVariables false
set_option linter.unusedSimpArgs false
namespace Go.Proofs.YtclphfojkggcpaaGreat
open Go.Lib (hid)
open Go Go.RowKit
def OV (k:Int) (v:GV) (m:VA) (n:Int):Value:=.agg #[.int .u8 k,.int .u8 v.k,.int .i64 v.n,.slice m.a v.l.length m.c,.int .i64 n]
def zeroV:GV:=⟨0,0,[]⟩
set_option maxRecDepth 100000 in
theorem end_idle (p:Addr) (w:World):
  CallsD Tryz.prog 63 #[.pointer (some p)] .returning w fun e u' w'=>e=.returned (.tuple #[])∧u'=.returning∧w'=w:=by
 refine callsD_of_wpS Tryz.func63 rfl fun c₀ cs hu=>?_
 apply wpS_seq
 apply wpS_region
 simp [wpOpsS,go_sem,recoverD,hu,Tryz.ntmps63,Exit.thenS]
 refine wpS_of_wp ?_
 simp only [Array.replicate_succ,Array.replicate_zero,List.push_toArray,List.append_toArray,List.nil_append,List.cons_append,List.setIfInBounds_toArray,List.set_cons_succ,List.set_cons_zero]
 go_wp2
 cases c₀
 simp_all [bodyPostS,results,Tryz.results63]
set_option maxRecDepth 100000 in
theorem end_panicking (pb:Nat) (k:Int) (w:World) (older:List PanicEntry) (hp:w.cell? ⟨pb,0,none⟩=some (.int .u8 0)∧w.cell? ⟨pb,1,none⟩=some (.int .u8 0)∧w.cell? ⟨pb,2,none⟩=some (.int .i64 0)∧w.cell? ⟨pb,3,none⟩=some (.slice none 0 0)∧w.cell? ⟨pb,4,none⟩=some (.int .i64 0))
  (hf:∀o,w.frozen? ⟨pb,o,none⟩=false):
  CallsD Tryz.prog 63 #[.pointer (some ⟨pb,0,none⟩)] (.panicking ({ v:=.iface 100 (.int .u8 k),recovered:=false }::older)) w fun e u' w'=>
   e=.returned (.tuple #[])∧u'=.panicking ({ v:=.iface 100 (.int .u8 k),recovered:=true }::older)∧w'=((((w.setCell ⟨pb,0,none⟩ (.int .u8 k)).setCell ⟨pb,1,none⟩ (.int .u8 0)).setCell ⟨pb,2,none⟩ (.int .i64 0)).setCell ⟨pb,3,none⟩ (.slice none 0 0)).setCell ⟨pb,4,none⟩ (.int .i64 0):=by
 obtain ⟨h0,h1,h2,h3,h4⟩:=hp
 have hta:∀w:World,(Instr.typeAssert (.iface 100 (.int .u8 k)) 20 100 true).run Tryz.prog w=.ok (.tuple #[.int .u8 k,.bool true]) w:=fun w=>by kernel_rfl
 have hpl:pb < w.heap.size:=World.block_lt_of_cell? _ _ h0
 refine callsD_of_wpS Tryz.func63 rfl fun c₀ cs hu=>?_
 apply wpS_seq
 apply wpS_region
 simp [wpOpsS,go_sem,recoverD,hu,Tryz.ntmps63,Exit.thenS]
 refine wpS_of_wp ?_
 simp only [Array.replicate_succ,Array.replicate_zero,List.push_toArray,List.append_toArray,List.nil_append,List.cons_append,List.setIfInBounds_toArray,List.set_cons_succ,List.set_cons_zero]
 go_wp2
 cases c₀
 simp_all [bodyPostS,results,Tryz.results63]
def OutR (c:Nat) (r:Res GV) (w:World):Ending→World→Prop:=fun e w'=>But c w.heap.size w w' ∧
 match r with
 | .ok v j=>∃m,e=.returned (OV 1 v m j)∧RV w' (fun b=>w.heap.size≤b) v m.a
 | .no k=>e=.returned (OV k zeroV ⟨none,0⟩ 0)
set_option maxRecDepth 100000 in
set_option maxHeartbeats 4000000 in
theorem outcome_of (c:Nat) (s:ByteArray) (t:GT) (w:World) (x:TA) (h0:s.size≤1048576) (hj:(sampT s 4098 t [] 0).In okV 0 s.size)
  (hx:∀W,But c W.heap.size W W→∀m,Cur W c s 0 false→RT W (fun b=>b≠c) t m→Calls Tryz.prog 64 #[.agg #[.pointer (some ⟨c,0,none⟩)],TV t m,.pointer none] W (SamR c s (sampT s 4098 t [] 0) W))
  (hc:Cur w c s 0 false) (hr:RT w (fun b=>b≠c) t x):
  Calls Tryz.prog 39 #[TV t x,.pointer (some ⟨c,0,none⟩)] w (OutR c (sampT s 4098 t [] 0) w):=by
 obtain ⟨ma,mb,mc,md,me,mf,mg,mh,mi,mj,mk,ml⟩:=x
 have hmf:∀(fn:Fn) (first cap:Array Value) (w:World),(Instr.makeFunc fn first cap).run Tryz.prog w=.ok (.func fn first cap) w:=fun _ _ _ _=>rfl
 have hcs:c < w.heap.size:=World.block_lt_of_cell? _ _ hc.1.1
 have HR:=hid hr
 have HC:=hid hc
 have HX:=hid (fun (W:World) h1 h2 h3=>hx W h1 ⟨ma,mb,mc,md,me,mf,mg,mh,mi,mj,mk,ml⟩ h2 h3)
 clear hc hr hx
 rcases hW:sampT s 4098 t [] 0 with ⟨v,j⟩|⟨k⟩
 ·rw [hW] at hj
  obtain ⟨_,hjs,_⟩:=hj
  have HW:=hid hW
  clear hW
  go_enter_defers Tryz.func39,Tryz.ntmps39
  go_wp2_with (first
   | (go_at_call 62;refine (curAt_any c s 0 false _ (by exact Cur.below (B:=w.heap.size) Below.z hcs HC.out)).mono ?_;rintro e0 w1 ⟨rfl,hb1⟩;have hz1:=hb1.size;(try simp at hz1);obtain ⟨hcc1,hcf1⟩:=bcells hb1)
   | (go_at_call 64;refine (HX.out _ (But.refl _ _ _) (by exact Cur.below (B:=w.heap.size) Below.z hcs HC.out) (by exact RT.ext (Agree.but But.z) _ _ HR.out)).mono ?_;rw [HW.out];rintro e1 w2 ⟨hb2,⟨m2,rfl,hrv⟩,hc2⟩;have HRV:=hid hrv;have HC2:=hid hc2;clear hrv hc2;have hz2:=hb2.size;(try simp at hz2)))
  have hcs2:c < w2.heap.size:=by omega
  have hcs3:c < w2.heap.size+1:=by omega
  have hsub:IntKind.i64.wrap ((j:Int) - 0)=(j:Int):=by rw [Int.sub_zero];exact IntWalk.i64_in _ (by omega)
  have h1z:w.heap.size+1 < w2.heap.size:=by omega
  have r0:w2.cell? ⟨w.heap.size+1,0,none⟩=some (.int .u8 0):=(hb2.cell (by simp;omega) (by simp;omega)).trans (by go_simp)
  have r1:w2.cell? ⟨w.heap.size+1,1,none⟩=some (.int .u8 0):=(hb2.cell (by simp;omega) (by simp;omega)).trans (by go_simp)
  have r2:w2.cell? ⟨w.heap.size+1,2,none⟩=some (.int .i64 0):=(hb2.cell (by simp;omega) (by simp;omega)).trans (by go_simp)
  have r3:w2.cell? ⟨w.heap.size+1,3,none⟩=some (.slice none 0 0):=(hb2.cell (by simp;omega) (by simp;omega)).trans (by go_simp)
  have r4:w2.cell? ⟨w.heap.size+1,4,none⟩=some (.int .i64 0):=(hb2.cell (by simp;omega) (by simp;omega)).trans (by go_simp)
  have hff:∀o,w2.frozen? ⟨w.heap.size+1,o,none⟩=false:=fun o=>(hb2.frozen (by simp;omega) (by simp;omega)).trans (by go_simp)
  go_region_held3 (fun W=>W.cell? ⟨w2.heap.size,0,none⟩=some (.int .u8 v.k)∧W.cell? ⟨w2.heap.size,1,none⟩=some (.int .i64 v.n)∧W.cell? ⟨w2.heap.size,2,none⟩=some (.slice m2.a v.l.length m2.c)) ((refine ⟨?_,?_,?_⟩<;>go_simp)) (((go_at_call 62;refine (curAt_any c s j false _ (by exact Cur.below (B:=w2.heap.size) Below.z hcs2 HC2.out)).mono ?_;rintro e3 w4 ⟨rfl,hb4⟩;have hz4:=hb4.size;(try simp at hz4);obtain ⟨hc4,hf4⟩:=bcells hb4;(have h2z:w.heap.size+1 < w4.heap.size:=by omega);have hbw:Below w2.heap.size w2 w4:=Below.z;have p0:=(hbw.cell (p:=⟨w.heap.size+1,0,none⟩) (by simpa using h1z)).trans r0;have p1:=(hbw.cell (p:=⟨w.heap.size+1,1,none⟩) (by simpa using h1z)).trans r1;have p2:=(hbw.cell (p:=⟨w.heap.size+1,2,none⟩) (by simpa using h1z)).trans r2;have p3:=(hbw.cell (p:=⟨w.heap.size+1,3,none⟩) (by simpa using h1z)).trans r3;have p4:=(hbw.cell (p:=⟨w.heap.size+1,4,none⟩) (by simpa using h1z)).trans r4;have pf:∀o,w4.frozen? ⟨w.heap.size+1,o,none⟩=false:=fun o=>(hbw.frozen (p:=⟨w.heap.size+1,o,none⟩) (by simpa using h1z)).trans (hff o))))
  go_wp2_with fail
  refine leaves_cons (f:=63) (args:=#[.pointer (some ⟨w.heap.size+1,0,none⟩)]) (by simp) (by simp [go_sem]) ?_
  refine (end_idle ⟨w.heap.size+1,0,none⟩ _).mono ?_
  rintro e u' w'' ⟨rfl,rfl,rfl⟩
  simp [Leaves,settle,results,Tryz.results39,go_sem,p0,p1,p2,p3,p4,h2z]
  have hjw:IntKind.i64.wrap (j:Int)=(j:Int):=IntWalk.i64_in _ (by omega)
  rw [hjw]
  exact ⟨But.z,m2,rfl,RV.mono (fun b hb _=>by (try simp at hb);omega) _ _ (RV.ext (((((Agree.set so).trans (Agree.set so)).trans (Agree.set so)).trans (Agree.set so)).trans (Agree.set so)) _ _ (RV.ext (Agree.below hbw) _ _ HRV.out))⟩
 ·have HW:=hid hW
  clear hW
  go_enter_defers Tryz.func39,Tryz.ntmps39
  go_wp2_with (first
   | (go_at_call 62;refine (curAt_any c s 0 false _ (by exact Cur.below (B:=w.heap.size) Below.z hcs HC.out)).mono ?_;rintro e0 w1 ⟨rfl,hb1⟩;have hz1:=hb1.size;(try simp at hz1);obtain ⟨hcc1,hcf1⟩:=bcells hb1)
   | (go_at_call 64;refine (HX.out _ (But.refl _ _ _) (by exact Cur.below (B:=w.heap.size) Below.z hcs HC.out) (by exact RT.ext (Agree.but But.z) _ _ HR.out)).mono ?_;rw [HW.out];rintro e1 w2 ⟨hb2,rfl⟩;have hz2:=hb2.size;(try simp at hz2)))
  have r0:w2.cell? ⟨w.heap.size+1,0,none⟩=some (.int .u8 0):=(hb2.cell (by simp;omega) (by simp;omega)).trans (by go_simp)
  have r1:w2.cell? ⟨w.heap.size+1,1,none⟩=some (.int .u8 0):=(hb2.cell (by simp;omega) (by simp;omega)).trans (by go_simp)
  have r2:w2.cell? ⟨w.heap.size+1,2,none⟩=some (.int .i64 0):=(hb2.cell (by simp;omega) (by simp;omega)).trans (by go_simp)
  have r3:w2.cell? ⟨w.heap.size+1,3,none⟩=some (.slice none 0 0):=(hb2.cell (by simp;omega) (by simp;omega)).trans (by go_simp)
  have r4:w2.cell? ⟨w.heap.size+1,4,none⟩=some (.int .i64 0):=(hb2.cell (by simp;omega) (by simp;omega)).trans (by go_simp)
  have hff:∀o,w2.frozen? ⟨w.heap.size+1,o,none⟩=false:=fun o=>(hb2.frozen (by simp;omega) (by simp;omega)).trans (by go_simp)
  have hz3:w.heap.size+1 < w2.heap.size:=by omega
  refine leaves_cons (f:=63) (args:=#[.pointer (some ⟨w.heap.size+1,0,none⟩)]) (by simp) (by simp [go_sem]) ?_
  refine (end_panicking (w.heap.size+1) k _ [] ⟨r0,r1,r2,r3,r4⟩ hff).mono ?_
  rintro e u' w'' ⟨rfl,rfl,rfl⟩
  simp [Leaves,settle,results,Tryz.results39,go_sem,r0,r1,r2,r3,r4,hz3]
  exact ⟨But.z,rfl⟩
theorem check_facts {t:GT} (h:(checkTE t).2=0):goodT false t∧∃k n,wkT 4098 t [] k n≠none:=by
 unfold checkTE at h
 by_cases h1:(chkT 0 1 12 false t).2=0
 case neg=>rw [if_pos h1] at h;exact absurd h h1
 rw [if_neg (by simp [h1])] at h
 refine ⟨good_of_chk 12 t 0 1 false h1,1,0,fun h2=>?_⟩
 have h3:measureT t=(4097,0):=by unfold measureT;rw [h2]
 rw [h3,if_pos (.inr (by decide))] at h
 exact absurd h (by decide)
def RunV (n:Int) (r:Res GV) (w:World) (e:Ending) (w':World):Prop:=
 if n≠0 then e=.returned (.tuple #[OV 0 zeroV ⟨none,0⟩ 0,.int .i64 n])
 else match r with
  | .ok v j=>∃m,e=.returned (.tuple #[OV 1 v m j,.int .i64 0])∧RV w' (fun b=>w.heap.size≤b) v m.a
  | .no k=>e=.returned (.tuple #[OV k zeroV ⟨none,0⟩ 0,.int .i64 0])
def RunR (t:GT) (s:ByteArray) (w:World):Ending→World→Prop:=fun e w'=>Below w.heap.size w w'∧RunV (runE t s) (runT s t) w e w'
theorem RunR.err {t:GT} {s:ByteArray} {w w':World} {n:Int} (h:runE t s=n) (hn:n≠0) (hb:Below w.heap.size w w'):RunR t s w (.returned (.tuple #[OV 0 zeroV ⟨none,0⟩ 0,.int .i64 n])) w':=by
 refine ⟨hb,?_⟩
 rw [h]
 unfold RunV
 rw [if_pos hn]
theorem RunR.ok {t:GT} {s:ByteArray} {w w':World} {v:GV} {j:Nat} {m:VA} (h:runE t s=0) (hr:sampT s 4098 t [] 0=.ok v j) (hb:Below w.heap.size w w') (hv:RV w' (fun b=>w.heap.size≤b) v m.a):RunR t s w (.returned (.tuple #[OV 1 v m j,.int .i64 0])) w':=by
 refine ⟨hb,?_⟩
 rw [h,show runT s t=_ from hr]
 unfold RunV
 rw [if_neg (by simp)]
 exact ⟨m,rfl,hv⟩
theorem RunR.no {t:GT} {s:ByteArray} {w w':World} {k:Nat} (h:runE t s=0) (hr:sampT s 4098 t [] 0=.no k) (hb:Below w.heap.size w w'):RunR t s w (.returned (.tuple #[OV k zeroV ⟨none,0⟩ 0,.int .i64 0])) w':=by
 refine ⟨hb,?_⟩
 rw [h,show runT s t=_ from hr]
 unfold RunV
 rw [if_neg (by simp)]
set_option maxRecDepth 100000 in
set_option maxHeartbeats 2000000 in
theorem run_of (t:GT) (s:ByteArray) (w:World) (A:Nat→Prop) (m:TA) (HS:isBits s=true→∀c,SamIH c s (sizeT t) 4098) (ox:okT t) (hs:sizeT t≤1099511627776) (hl:RT w A t m) (hss:s.size≤9223372036854775807):
  Calls Tryz.prog 23 #[TV t m,.string s] w (RunR t s w):=by
 obtain ⟨ma,mb,mc,md,me,mf,mg,mh,mi,mj,mk,ml⟩:=m
 have HL:=hid hl
 have OX:=hid ox
 by_cases hE:(checkTE t).2=0
 case neg=>
  have hr:runE t s=(checkTE t).2:=by unfold runE;rw [if_pos hE]
  have HRE:=hid hr
  have hE':((checkTE t).2 != 0)=true:=by simp [hE]
  have HNE:=hid hE
  clear hl ox HS hr hE
  go_enter Tryz.func23,Tryz.ntmps23
  go_wp2_with (go_at_call 37;refine (checkTE_any t _ A ⟨ma,mb,mc,md,me,mf,mg,mh,mi,mj,mk,ml⟩ OX.out hs (by exact RT.ext (Agree.below Below.z) _ _ HL.out)).mono ?_;rintro e w1 ⟨rfl,hb⟩;have hB1:=hb;clear hb;obtain ⟨hc1,hf1⟩:=bcells hB1)
  have r0:w1.cell? ⟨w.heap.size+1,0,none⟩=some (.int .u8 0):=(hB1.cell so).trans (by go_simp)
  have r1:w1.cell? ⟨w.heap.size+1,1,none⟩=some (.int .u8 0):=(hB1.cell so).trans (by go_simp)
  have r2:w1.cell? ⟨w.heap.size+1,2,none⟩=some (.int .i64 0):=(hB1.cell so).trans (by go_simp)
  have r3:w1.cell? ⟨w.heap.size+1,3,none⟩=some (.slice none 0 0):=(hB1.cell so).trans (by go_simp)
  have r4:w1.cell? ⟨w.heap.size+1,4,none⟩=some (.int .i64 0):=(hB1.cell so).trans (by go_simp)
  have hz9:w.heap.size+1 < w1.heap.size:=by have:=hB1.size;(try simp at this);omega
  refine bodyPost_ret (v:=.tuple #[OV 0 zeroV ⟨none,0⟩ 0,.int .i64 (checkTE t).2]) (by simp [results,Tryz.f23,go_sem,OV,zeroV,r0,r1,r2,r3,r4,hz9]) rfl ?_
  exact RunR.err HRE.out HNE.out Below.z
 have hE':((checkTE t).2 != 0)=false:=by simp [hE]
 obtain ⟨hg,hwk⟩:=check_facts hE
 cases hB:isBits s
 ·have hr:runE t s=3:=by unfold runE;rw [if_neg (by simp [hE]),hB];rfl
  have HRE:=hid hr
  have HB:=hid hB
  clear hl ox HS hr hE hg hwk hB
  go_enter Tryz.func23,Tryz.ntmps23
  go_wp2_with (first
   | (go_at_call 37;refine (checkTE_any t _ A ⟨ma,mb,mc,md,me,mf,mg,mh,mi,mj,mk,ml⟩ OX.out hs (by exact RT.ext (Agree.below Below.z) _ _ HL.out)).mono ?_;rintro e w1 ⟨rfl,hb⟩;have hB1:=hb;clear hb;obtain ⟨hc1,hf1⟩:=bcells hB1)
   | (go_at_call 38;refine (curNew_any s _ hss).mono ?_;rintro e w2 ⟨hb2,⟨h1,_⟩|⟨_,rfl⟩⟩;exact absurd (HB.out.symm.trans h1) (by decide);obtain ⟨hc2,hf2⟩:=bcells hb2;have hz1:=hB1.size;simp at hz1;have y0:w.heap.size+1 < w1.heap.size:=(by omega)))
  have s0:w1.cell? ⟨w.heap.size+1,0,none⟩=some (.int .u8 0):=(hB1.cell so).trans (by go_simp)
  have s1:w1.cell? ⟨w.heap.size+1,1,none⟩=some (.int .u8 0):=(hB1.cell so).trans (by go_simp)
  have s2:w1.cell? ⟨w.heap.size+1,2,none⟩=some (.int .i64 0):=(hB1.cell so).trans (by go_simp)
  have s3:w1.cell? ⟨w.heap.size+1,3,none⟩=some (.slice none 0 0):=(hB1.cell so).trans (by go_simp)
  have s4:w1.cell? ⟨w.heap.size+1,4,none⟩=some (.int .i64 0):=(hB1.cell so).trans (by go_simp)
  have hy9:w.heap.size+1 < w1.heap.size:=by have:=hB1.size;(try simp at this);omega
  have r0:=(hb2.cell (p:=⟨w.heap.size+1,0,none⟩) (by simpa using hy9)).trans s0
  have r1:=(hb2.cell (p:=⟨w.heap.size+1,1,none⟩) (by simpa using hy9)).trans s1
  have r2:=(hb2.cell (p:=⟨w.heap.size+1,2,none⟩) (by simpa using hy9)).trans s2
  have r3:=(hb2.cell (p:=⟨w.heap.size+1,3,none⟩) (by simpa using hy9)).trans s3
  have r4:=(hb2.cell (p:=⟨w.heap.size+1,4,none⟩) (by simpa using hy9)).trans s4
  have hz9:w.heap.size+1 < w2.heap.size:=by have:=hb2.size;omega
  refine bodyPost_ret (v:=.tuple #[OV 0 zeroV ⟨none,0⟩ 0,.int .i64 3]) (by simp [results,Tryz.f23,go_sem,OV,zeroV,r0,r1,r2,r3,r4,hz9]) rfl ?_
  exact RunR.err HRE.out (by decide) Below.z
 ·have hr:runE t s=0:=by unfold runE;rw [if_neg (by simp [hE]),if_pos hB]
  have h1024:s.size≤1024:=by
   unfold isBits at hB
   rw [Bool.and_eq_true] at hB
   exact of_decide_eq_true hB.1
  have hin:=runT_in (t:=t) (s:=s) hr ox
  have HO:∀(c:Nat) (W:World),Cur W c s 0 false→RT W (fun b=>b≠c) t ⟨ma,mb,mc,md,me,mf,mg,mh,mi,mj,mk,ml⟩→Calls Tryz.prog 39 #[TV t ⟨ma,mb,mc,md,me,mf,mg,mh,mi,mj,mk,ml⟩,.pointer (some ⟨c,0,none⟩)] W (OutR c (sampT s 4098 t [] 0) W):=
   fun c W h1 h2=>outcome_of c s t W ⟨ma,mb,mc,md,me,mf,mg,mh,mi,mj,mk,ml⟩ (by omega) hin (fun W _ m h2 h3=>HS hB c t [] 0 W m none hg ox (Nat.le_refl _) trivial (Nat.zero_le _) hwk h2 h3 rfl) h1 h2
  have HB:=hid hB
  have HRE:=hid hr
  clear hl ox HS hr hE hg hwk hB hin
  rcases hN:sampT s 4098 t [] 0 with ⟨v,j⟩|⟨k⟩
  ·rw [hN] at HO
   have HOO:=hid HO
   have HN:=hid hN
   clear hN HO
   go_enter Tryz.func23,Tryz.ntmps23
   go_wp2_with (first
    | (go_at_call 37;refine (checkTE_any t _ A ⟨ma,mb,mc,md,me,mf,mg,mh,mi,mj,mk,ml⟩ OX.out hs (by exact RT.ext (Agree.below Below.z) _ _ HL.out)).mono ?_;rintro e w1 ⟨rfl,hb⟩;have hB1:=hb;clear hb;obtain ⟨hc1,hf1⟩:=bcells hB1)
    | (go_at_call 38;refine (curNew_any s _ hss).mono ?_;rintro e w2 ⟨hb2,⟨_,c,hcl,hcs,rfl,hcu⟩|⟨h1,_⟩⟩;rotate_left;exact absurd (HB.out.symm.trans h1) (by decide);obtain ⟨hc2,hf2⟩:=bcells hb2;have HCU:=hid hcu;clear hcu;have hz1:=hB1.size;simp at hz1;have hz2:=hb2.size;have y0:w.heap.size+1 < w1.heap.size:=(by omega);have y1:w.heap.size < w1.heap.size:=(by omega);have y2:w.heap.size+1 < w2.heap.size:=(by omega);have y3:w.heap.size < w2.heap.size:=(by omega);have hbw2:Below w.heap.size w w2:=Below.z;have HRT:=hid (RT.mono (A':=fun b=>b≠c) (fun b hb _=>(by omega)) _ _ (RT.ext (Agree.below hbw2) _ _ (RT.mono (A':=fun b=>b < w.heap.size) (fun b _ h=>h) _ _ HL.out))))
    | (go_at_call 39;refine (HOO.out c _ (by exact HCU.out) (by exact HRT.out)).mono ?_;rintro e w3 ⟨hb3,m,he,hrv⟩;have he2:e=.returned (.agg #[.int .u8 1,.int .u8 v.k,.int .i64 v.n,.slice m.a v.l.length m.c,.int .i64 j]):=he;subst he2;clear he;have hz3:=hb3.size;have s0:w1.cell? ⟨w.heap.size+1,0,none⟩=some (.int .u8 0):=(hB1.cell so).trans (by go_simp);have r0:=(hb3.cell (p:=⟨w.heap.size+1,0,none⟩) (by simpa using y2) (by simp;omega)).trans ((hb2.cell (p:=⟨w.heap.size+1,0,none⟩) (by simpa using y0)).trans s0);have s1:w1.cell? ⟨w.heap.size+1,1,none⟩=some (.int .u8 0):=(hB1.cell so).trans (by go_simp);have r1:=(hb3.cell (p:=⟨w.heap.size+1,1,none⟩) (by simpa using y2) (by simp;omega)).trans ((hb2.cell (p:=⟨w.heap.size+1,1,none⟩) (by simpa using y0)).trans s1);have s2:w1.cell? ⟨w.heap.size+1,2,none⟩=some (.int .i64 0):=(hB1.cell so).trans (by go_simp);have r2:=(hb3.cell (p:=⟨w.heap.size+1,2,none⟩) (by simpa using y2) (by simp;omega)).trans ((hb2.cell (p:=⟨w.heap.size+1,2,none⟩) (by simpa using y0)).trans s2);have s3:w1.cell? ⟨w.heap.size+1,3,none⟩=some (.slice none 0 0):=(hB1.cell so).trans (by go_simp);have r3:=(hb3.cell (p:=⟨w.heap.size+1,3,none⟩) (by simpa using y2) (by simp;omega)).trans ((hb2.cell (p:=⟨w.heap.size+1,3,none⟩) (by simpa using y0)).trans s3);have s4:w1.cell? ⟨w.heap.size+1,4,none⟩=some (.int .i64 0):=(hB1.cell so).trans (by go_simp);have r4:=(hb3.cell (p:=⟨w.heap.size+1,4,none⟩) (by simpa using y2) (by simp;omega)).trans ((hb2.cell (p:=⟨w.heap.size+1,4,none⟩) (by simpa using y0)).trans s4);have hz9:w.heap.size+1 < w3.heap.size:=(by omega);have rf:∀o,w3.frozen? ⟨w.heap.size+1,o,none⟩=false:=fun o=>(hb3.frozen (p:=⟨w.heap.size+1,o,none⟩) (by simpa using y2) (by simp;omega)).trans ((hb2.frozen (p:=⟨w.heap.size+1,o,none⟩) (by simpa using y0)).trans ((hB1.frozen so).trans (by go_simp)));have hbw3:Below w.heap.size w w3:=hbw2.trans ((hb3.mono (B':=w.heap.size) (by omega)).below (by omega))))
   refine bodyPost_ret (v:=.tuple #[OV 1 v m j,.int .i64 0]) (by simp [results,Tryz.f23,go_sem,OV,r0,r1,r2,r3,r4,hz9]) rfl ?_
   refine RunR.ok (m:=m) HRE.out HN.out ?_ ?_
   ·refine Below.setCell (Below.setCell (Below.setCell (Below.setCell (Below.setCell hbw3 ?_ _) ?_ _) ?_ _) ?_ _) ?_ _
    all_goals (simp;done)
   ·exact RV.mono (fun b hb _=>by (try simp at hb);omega) _ _ (RV.ext (((((Agree.set so).trans (Agree.set so)).trans (Agree.set so)).trans (Agree.set so)).trans (Agree.set so)) _ _ hrv)
  ·rw [hN] at HO
   have HOO:=hid HO
   have HN:=hid hN
   clear hN HO
   go_enter Tryz.func23,Tryz.ntmps23
   go_wp2_with (first
    | (go_at_call 37;refine (checkTE_any t _ A ⟨ma,mb,mc,md,me,mf,mg,mh,mi,mj,mk,ml⟩ OX.out hs (by exact RT.ext (Agree.below Below.z) _ _ HL.out)).mono ?_;rintro e w1 ⟨rfl,hb⟩;have hB1:=hb;clear hb;obtain ⟨hc1,hf1⟩:=bcells hB1)
    | (go_at_call 38;refine (curNew_any s _ hss).mono ?_;rintro e w2 ⟨hb2,⟨_,c,hcl,hcs,rfl,hcu⟩|⟨h1,_⟩⟩;rotate_left;exact absurd (HB.out.symm.trans h1) (by decide);obtain ⟨hc2,hf2⟩:=bcells hb2;have HCU:=hid hcu;clear hcu;have hz1:=hB1.size;simp at hz1;have hz2:=hb2.size;have y0:w.heap.size+1 < w1.heap.size:=(by omega);have y1:w.heap.size < w1.heap.size:=(by omega);have y2:w.heap.size+1 < w2.heap.size:=(by omega);have y3:w.heap.size < w2.heap.size:=(by omega);have hbw2:Below w.heap.size w w2:=Below.z;have HRT:=hid (RT.mono (A':=fun b=>b≠c) (fun b hb _=>(by omega)) _ _ (RT.ext (Agree.below hbw2) _ _ (RT.mono (A':=fun b=>b < w.heap.size) (fun b _ h=>h) _ _ HL.out))))
    | (go_at_call 39;refine (HOO.out c _ (by exact HCU.out) (by exact HRT.out)).mono ?_;rintro e w3 ⟨hb3,he⟩;have he2:e=.returned (.agg #[.int .u8 k,.int .u8 0,.int .i64 0,.slice none 0 0,.int .i64 0]):=he;subst he2;clear he;have hz3:=hb3.size;have s0:w1.cell? ⟨w.heap.size+1,0,none⟩=some (.int .u8 0):=(hB1.cell so).trans (by go_simp);have r0:=(hb3.cell (p:=⟨w.heap.size+1,0,none⟩) (by simpa using y2) (by simp;omega)).trans ((hb2.cell (p:=⟨w.heap.size+1,0,none⟩) (by simpa using y0)).trans s0);have s1:w1.cell? ⟨w.heap.size+1,1,none⟩=some (.int .u8 0):=(hB1.cell so).trans (by go_simp);have r1:=(hb3.cell (p:=⟨w.heap.size+1,1,none⟩) (by simpa using y2) (by simp;omega)).trans ((hb2.cell (p:=⟨w.heap.size+1,1,none⟩) (by simpa using y0)).trans s1);have s2:w1.cell? ⟨w.heap.size+1,2,none⟩=some (.int .i64 0):=(hB1.cell so).trans (by go_simp);have r2:=(hb3.cell (p:=⟨w.heap.size+1,2,none⟩) (by simpa using y2) (by simp;omega)).trans ((hb2.cell (p:=⟨w.heap.size+1,2,none⟩) (by simpa using y0)).trans s2);have s3:w1.cell? ⟨w.heap.size+1,3,none⟩=some (.slice none 0 0):=(hB1.cell so).trans (by go_simp);have r3:=(hb3.cell (p:=⟨w.heap.size+1,3,none⟩) (by simpa using y2) (by simp;omega)).trans ((hb2.cell (p:=⟨w.heap.size+1,3,none⟩) (by simpa using y0)).trans s3);have s4:w1.cell? ⟨w.heap.size+1,4,none⟩=some (.int .i64 0):=(hB1.cell so).trans (by go_simp);have r4:=(hb3.cell (p:=⟨w.heap.size+1,4,none⟩) (by simpa using y2) (by simp;omega)).trans ((hb2.cell (p:=⟨w.heap.size+1,4,none⟩) (by simpa using y0)).trans s4);have hz9:w.heap.size+1 < w3.heap.size:=(by omega);have rf:∀o,w3.frozen? ⟨w.heap.size+1,o,none⟩=false:=fun o=>(hb3.frozen (p:=⟨w.heap.size+1,o,none⟩) (by simpa using y2) (by simp;omega)).trans ((hb2.frozen (p:=⟨w.heap.size+1,o,none⟩) (by simpa using y0)).trans ((hB1.frozen so).trans (by go_simp)));have hbw3:Below w.heap.size w w3:=hbw2.trans ((hb3.mono (B':=w.heap.size) (by omega)).below (by omega))))
   refine bodyPost_ret (v:=.tuple #[OV k zeroV ⟨none,0⟩ 0,.int .i64 0]) (by simp [results,Tryz.f23,go_sem,OV,zeroV,r0,r1,r2,r3,r4,hz9]) rfl ?_
   refine RunR.no HRE.out HN.out ?_
   refine Below.setCell (Below.setCell (Below.setCell (Below.setCell (Below.setCell hbw3 ?_ _) ?_ _) ?_ _) ?_ _) ?_ _
   all_goals (simp;done)
structure SpS (ps:List (GR×VA)) (N g j:Nat) (w:World):Prop where
 row:∀i (h:i < ps.length),j≤i→At w g (i*5) [.int .i64 ps[i].1.f,.int .i64 ps[i].1.t,.int .u8 ps[i].1.v.k,.int .i64 ps[i].1.v.n,.slice ps[i].2.a ps[i].1.v.l.length ps[i].2.c]
 fz:∀i,i < ps.length*5→w.frozen? ⟨g,i,none⟩=false
 it:∀q∈ps,Wr w N g q.2.a q.1.v.l.length
theorem SpS.set {ps:List (GR×VA)} {N g j:Nat} {w:World} (h:SpS ps N g j w) {p:Addr} (hp:p.block≠g) (u:Value):SpS ps N g j (w.setCell p u):=
 ⟨fun i hi hj=>At.ext (Agree.set (A:=fun b=>b=g) hp) rfl _ _ (h.row i hi hj),fun i hi=>by rw [World.frozen?_setCell];exact h.fz i hi,fun q hq=>(h.it q hq).set p u⟩
theorem SpS.next {ps:List (GR×VA)} {N g j:Nat} {w:World} (h:SpS ps N g j w):SpS ps N g (j+1) w:=⟨fun i hi hj=>h.row i hi (by omega),h.fz,h.it⟩
theorem At_far {w:World} {b o o':Nat} {u:Value} (h:o' < o):∀(l:List Value) (k:Nat),o≤k→At w b k l→At (w.setCell ⟨b,o',none⟩ u) b k l
 | [],_,_,_=>by simp only [At]
 | v::l,k,hk,hx=>by
  simp only [At] at hx ⊢
  exact ⟨(World.cell?_setCell_other _ _ _ _ (by intro e;simp only [Addr.mk.injEq] at e;omega)).trans hx.1,At_far h l (k+1) (by omega) hx.2⟩
theorem SpS.put {ps:List (GR×VA)} {N g j:Nat} {w:World} (h:SpS ps N g (j+1) w) {o:Nat} (ho:o < (j+1)*5) (u:Value):SpS ps N g (j+1) (w.setCell ⟨g,o,none⟩ u):=
 ⟨fun i hi hj=>At_far (o:=(j+1)*5) ho _ _ (by omega) (h.row i hi hj),fun i hi=>by rw [World.frozen?_setCell];exact h.fz i hi,fun q hq=>(h.it q hq).set _ u⟩
theorem flatR_at:∀(ps:List (GR×VA)) (i:Nat) (h:i < ps.length),(flatR ps)[i*5]? =some (.int .i64 ps[i].1.f)∧(flatR ps)[i*5+1]? =some (.int .i64 ps[i].1.t)∧(flatR ps)[i*5+2]? =some (.int .u8 ps[i].1.v.k)∧(flatR ps)[i*5+3]? =some (.int .i64 ps[i].1.v.n)∧(flatR ps)[i*5+4]? =some (.slice ps[i].2.a ps[i].1.v.l.length ps[i].2.c)
 | [],i,h=>absurd h (by simp)
 | (x,m)::r,0,_=>⟨rfl,rfl,rfl,rfl,rfl⟩
 | (x,m)::r,i+1,h=>by
  have:=flatR_at r i (by simpa using h)
  rw [show (i+1)*5=i*5+5 by omega]
  exact this
theorem spoil_nil (a:Option Addr) (c:Nat) (w:World) (N:Nat):Calls Tryz.prog 10 #[.slice a 0 c] w fun e w'=>e=.returned (.tuple #[])∧Below N w w':=by
 go_enter Tryz.func10,Tryz.ntmps10
 go_wp2_with fail
 go_loopg [2] 0 (fun gk i' wr=>gk=0∧i'=.int .i64 0∧Below N w wr)
 case atStart=>exact ⟨rfl,rfl,Below.r⟩
 case round=>
  obtain ⟨rfl,rfl,hb⟩:=hrel
  go_wp2_with fail

  refine bodyPost_end (v:=.tuple #[]) (by simp [results,Tryz.f10,go_sem]) rfl ?_
  exact ⟨rfl,hb⟩
set_option maxRecDepth 100000 in
set_option maxHeartbeats 4000000 in
theorem spoil_any (ps:List (GR×VA)) (g c N:Nat) (w:World) (hl:ps.length≤1048576) (hg:N≤g) (hv:∀q∈ps,q.1.v.l.length≤1048576) (hs:SpS ps N g 0 w):
  Calls Tryz.prog 10 #[.slice (some ⟨g,0,none⟩) ps.length c] w fun e w'=>e=.returned (.tuple #[])∧Below N w w':=by
 have HS:=hid hs
 have HV:=hid hv
 clear hs hv
 go_enter Tryz.func10,Tryz.ntmps10
 go_wp2_with fail
 go_loopg [2] (ps.length) (fun gk i' wr=>∃j:Nat,gk+j=ps.length∧i'=.int .i64 j∧Below N w wr∧Hid (SpS ps N g j wr))
 case atStart=>exact ⟨0,by omega,rfl,Below.r,HS⟩
 case round=>
  obtain ⟨j,hj,rfl,hb,HJ⟩:=hrel
  by_cases hlt:j < ps.length
  ·obtain ⟨r0,r1,r2,r3,r4⟩:=At5.1 (HJ.out.row j hlt (Nat.le_refl _))
   have hvl:=HV.out ps[j] (List.getElem_mem hlt)
   obtain ⟨n,hn⟩:∃n,ps[j].1.v.l.length=n:=⟨_,rfl⟩
   have HIT:=hid (fun (W:World) (h:SpS ps N g j W)=>hn ▸ h.it ps[j] (List.getElem_mem hlt))
   have HN:=hid hn
   rw [hn] at r4 hvl
   clear hn
   go_wp2_with fail
   obtain ⟨hgk,hgke⟩:∃x:Nat,x=gk:=⟨gk,rfl⟩
   have HGK:=hid hgke
   have HJ5:=hid (show hgk+j=ps.length by omega)
   clear hgke
   clear r0 r1 r2 r3 r4
   go_loopg [3] n (fun gq k' wq=>∃k:Nat,gq+k=n∧k'=.int .i64 k∧Below N w wq∧Hid (SpS ps N g j wq))
   case atStart=>exact ⟨0,by omega,rfl,hb,HJ⟩
   case round=>
    obtain ⟨k,hk,rfl,hbq,HJQ⟩:=hrel
    obtain ⟨r0,r1,r2,r3,r4⟩:=At5.1 (HJQ.out.row j hlt (Nat.le_refl _))
    rw [HN.out] at r4
    by_cases hkn:k < n
    ·obtain ⟨b,o,e,hNb,hbg,hx⟩:=HIT.out _ HJQ.out k hkn
     rw [e] at r4
     obtain ⟨f0,u0,c0⟩:=hx 0 (by omega)
     obtain ⟨f1,u1,c1⟩:=hx 1 (by omega)
     obtain ⟨f2,u2,c2⟩:=hx 2 (by omega)
     simp only [Nat.add_zero] at f0 c0
     clear hx r0 r1 r2 r3 e
     go_wp2_with fail
     go_roundg (gk - 1)
     case measure=>omega
     case rel=>exact ⟨k+1,by omega,by go_num,Below.r,hid (((HJQ.out.set hbg _).set hbg _).set hbg _)⟩
    ·have hke:k=n:=by omega
     subst hke
     have f0:=HJQ.out.fz (j*5) (by omega)
     have f1:=HJQ.out.fz (j*5+1) (by omega)
     have f2:=HJQ.out.fz (j*5+2) (by omega)
     have f3:=HJQ.out.fz (j*5+3) (by omega)
     have f4:=HJQ.out.fz (j*5+4) (by omega)
     go_wp2_with fail
     go_roundg (hgk - 1)
     case measure=>have:=HGK.out;have:=HJ5.out;omega
     case rel=>exact ⟨j+1,by have:=HJ5.out;omega,by go_num,Below.r,hid (((((HJQ.out.next.put (by omega) _).put (by omega) _).put (by omega) _).put (by omega) _).put (by omega) _)⟩
  ·have hjl:j=ps.length:=by omega
   subst hjl
   go_wp2_with fail
   refine bodyPost_end (v:=.tuple #[]) (by simp [results,Tryz.f10,go_sem]) rfl ?_
   exact ⟨rfl,hb⟩
theorem spoilO_any (l:List GR) (a:Option Addr) (c N:Nat) (w:World) (hN:0 < N) (hl:l.length≤1048576) (hv:∀x∈l,x.v.l.length≤1048576) (hx:SpO w (fun b=>N≤b) l a):
  Calls Tryz.prog 10 #[.slice a l.length c] w fun e w'=>e=.returned (.tuple #[])∧Below N w w':=by
 obtain ⟨ps,rfl,h|⟨g,rfl,hg,hgs,hc,hr⟩⟩:=hx
 ·subst h
  exact spoil_nil a c w N
 ·rw [List.length_map]
  rw [List.length_map] at hl
  have hL:Lowb (fun b=>N≤b):=⟨N,hN,fun _ h=>h⟩
  refine spoil_any ps g c N w hl hg (fun q hq=>hv q.1 (List.mem_map_of_mem hq)) ⟨fun i hi _=>?_,fun i hi=>?_,fun q hq=>Wr.of hN (hr q hq)⟩
  ·obtain ⟨k0,k1,k2,k3,k4⟩:=flatR_at ps i hi
   exact At5.2 ⟨(hc _ _ k0).1,(hc _ _ k1).1,(hc _ _ k2).1,(hc _ _ k3).1,(hc _ _ k4).1⟩
  ·exact (hc i _ (List.getElem?_eq_getElem (by rw [flatR_length];exact hi))).2 hL
end Go.Proofs.YtclphfojkggcpaaGreat
