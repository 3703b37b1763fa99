/- What the proofs of the Trial statements need: part 32. -/
import Derived.ChangeAlike
import Derived.Defers
import Derived.Recover
import Derived.RegionTactic
import Derived.WalkSmall
import Derived.Test.YtclphfojkggcpaaGreatZ9
import Derived.Test.YtclphfojkggcpaaGreatZ30
set_option linter.unusedVariables false
set_option linter.unusedSimpArgs false
namespace Go.Proofs.YtclphfojkggcpaaGreat
open Go.Lib (hid)
open Go Go.RowKit
set_option maxRecDepth 100000 in
theorem catch_idle (p q:Addr) (w:World):
  CallsD Tryz.prog 86 #[.pointer (some p),.pointer (some q)] .returning w fun e u' w'=>e=.returned (.tuple #[])∧u'=.returning∧w'=w:=by
 refine callsD_of_wpS Tryz.func86 rfl fun c₀ cs hu=>?_
 apply wpS_seq
 apply wpS_region
 simp [wpOpsS,go_sem,recoverD,hu,Tryz.ntmps86,Exit.thenS]
 refine wpS_of_wp ?_
 simp only [Array.replicate_succ,Array.replicate_zero,List.push_toArray,List.append_toArray,List.nil_append,List.cons_append,List.setIfInBounds_toArray,List.set_cons_succ,List.set_cons_zero]
 go_wp2
 cases c₀
 simp_all [bodyPostS,results,Tryz.results86]
set_option maxRecDepth 100000 in
theorem catch_panicking (pb qb:Nat) (w:World) (older:List PanicEntry) (x y:Int) (hpq:¬pb=qb) (hp:w.cell? ⟨pb,0,none⟩=some (.int .i64 x)) (hq:w.cell? ⟨qb,0,none⟩=some (.int .i64 y)) (hfp:w.frozen? ⟨pb,0,none⟩=false) (hfq:w.frozen? ⟨qb,0,none⟩=false):
  CallsD Tryz.prog 86 #[.pointer (some ⟨pb,0,none⟩),.pointer (some ⟨qb,0,none⟩)] (.panicking ({ v:=.iface 143 (.agg #[]),recovered:=false }::older)) w fun e u' w'=>
   e=.returned (.tuple #[])∧u'=.panicking ({ v:=.iface 143 (.agg #[]),recovered:=true }::older)∧w'=((w.setCell ⟨pb,0,none⟩ (.int .i64 4097)).setCell ⟨qb,0,none⟩ (.int .i64 0)).alloc (.cells #[] 143):=by
 have hta:∀w:World,(Instr.typeAssert (.iface 143 (.agg #[])) 20 143 true).run Tryz.prog w=.ok (.tuple #[.agg #[],.bool true]) w:=fun w=>by kernel_rfl
 have hpl:pb < w.heap.size:=World.block_lt_of_cell? _ _ hp
 have hql:qb < w.heap.size:=World.block_lt_of_cell? _ _ hq
 have hqp:¬qb=pb:=fun h=>hpq h.symm
 refine callsD_of_wpS Tryz.func86 rfl fun c₀ cs hu=>?_
 apply wpS_seq
 apply wpS_region
 simp [wpOpsS,go_sem,recoverD,hu,Tryz.ntmps86,Exit.thenS]
 refine wpS_of_wp ?_
 simp only [Array.replicate_succ,Array.replicate_zero,List.push_toArray,List.append_toArray,List.nil_append,List.cons_append,List.setIfInBounds_toArray,List.set_cons_succ,List.set_cons_zero]
 go_wp2
 cases c₀
 simp_all [bodyPostS,results,Tryz.results86]
def measureT (t:GT):Int×Int:=
 match wkT 4098 t [] 1 0 with
 | some (d,n)=>(n,d)
 | none=>(4097,0)
set_option maxRecDepth 100000 in
set_option maxHeartbeats 2000000 in
theorem measure_any (t:GT) (A:Nat→Prop) (m:TA) (w:World) (hg:goodT false t) (ox:okT t) (hs:sizeT t≤1099511627776) (hl:RT w A t m):
  Calls Tryz.prog 59 #[TV t m] w fun e w'=>e=.returned (.tuple #[.int .i64 (measureT t).1,.int .i64 (measureT t).2])∧Below w.heap.size w w':=by
 obtain ⟨ma,mb,mc,md,me,mf,mg,mh,mi,mj,mk,ml⟩:=m
 have hmf:∀(fn:Fn) (first cap:Array Value) (w:World),(Instr.makeFunc fn first cap).run Tryz.prog w=.ok (.func fn first cap) w:=fun _ _ _ _=>rfl
 have HR:=hid hl
 have HX:=hid (fun (W:World) (c:Nat) (h1:c < W.heap.size) (h2:Ctr W c 0) (h3:RT W (fun b=>b≠c) t ⟨ma,mb,mc,md,me,mf,mg,mh,mi,mj,mk,ml⟩)=>(term_any c (sizeT t) hs 4098 (by omega) t [] 1 0 W ⟨ma,mb,mc,md,me,mf,mg,mh,mi,mj,mk,ml⟩ none hg ox (Nat.le_refl _) trivial ⟨by omega,by omega⟩ ⟨by omega,by omega⟩ (by omega) h1 h2 h3 rfl).2)
 unfold measureT
 clear hg ox hl
 rcases hW:wkT 4098 t [] 1 0 with _|⟨d,n⟩
 ·have HW:=hid hW
  clear hW
  go_enter_defers Tryz.func59,Tryz.ntmps59
  go_wp2_with (go_at_call 87;refine (HX.out _ (w.heap.size+1+1+1) (by simp) (by exact ⟨by go_simp,by go_simp⟩) (by exact RT.ext (Agree.below Below.z) _ _ (RT.mono (fun b _ h=>by show b≠_;omega) _ _ HR.out))).mono ?_;rw [HW.out];rintro e1 w2 ⟨hb2,rfl⟩;obtain ⟨hc2,hf2⟩:=ccells hb2;have hz2:=hb2.size;simp at hz2)
  have hp1:w2.cell? ⟨w.heap.size+1,0,none⟩=some (.int .i64 0):=by go_simp
  have hp2:w2.cell? ⟨w.heap.size+1+1,0,none⟩=some (.int .i64 0):=by go_simp
  have hp3:w2.frozen? ⟨w.heap.size+1,0,none⟩=false:=by go_simp
  have hp4:w2.frozen? ⟨w.heap.size+1+1,0,none⟩=false:=by go_simp
  have hz3:w.heap.size+1 < w2.heap.size:=by omega
  have hz4:w.heap.size+1+1 < w2.heap.size:=by omega
  refine leaves_cons (f:=86) (args:=#[.pointer (some ⟨w.heap.size+1,0,none⟩),.pointer (some ⟨w.heap.size+1+1,0,none⟩)]) (by simp) (by simp [go_sem]) ?_
  refine (catch_panicking (w.heap.size+1) (w.heap.size+1+1) _ [] 0 0 (by omega) ?_ ?_ ?_ ?_).mono ?_
  ·go_simp
  ·go_simp
  ·go_simp
  ·go_simp
  rintro e u' w'' ⟨rfl,rfl,rfl⟩
  simp [Leaves,settle,results,Tryz.results59,go_sem,hp1,hp2,hz3,hz4]
  have hbe:=(hb2.mono (B':=w.heap.size) (by simp;omega)).below (by omega)
  exact Below.z
 ·have HW:=hid hW
  clear hW
  go_enter_defers Tryz.func59,Tryz.ntmps59
  go_wp2_with (go_at_call 87;refine (HX.out _ (w.heap.size+1+1+1) (by simp) (by exact ⟨by go_simp,by go_simp⟩) (by exact RT.ext (Agree.below Below.z) _ _ (RT.mono (fun b _ h=>by show b≠_;omega) _ _ HR.out))).mono ?_;rw [HW.out];rintro e1 w2 ⟨hb2,rfl,hx1,hx2⟩;obtain ⟨hc2,hf2⟩:=ccells hb2;have hz2:=hb2.size;simp at hz2)
  have hp1:w2.cell? ⟨w.heap.size+1,0,none⟩=some (.int .i64 0):=by go_simp
  have hp2:w2.cell? ⟨w.heap.size+1+1,0,none⟩=some (.int .i64 0):=by go_simp
  have hp3:w2.frozen? ⟨w.heap.size+1,0,none⟩=false:=by go_simp
  have hp4:w2.frozen? ⟨w.heap.size+1+1,0,none⟩=false:=by go_simp
  have hz3:w.heap.size+1 < w2.heap.size:=by omega
  have hz4:w.heap.size+1+1 < w2.heap.size:=by omega
  go_region
  go_wp2_with fail
  refine leaves_cons (f:=86) (args:=#[.pointer (some ⟨w.heap.size+1,0,none⟩),.pointer (some ⟨w.heap.size+1+1,0,none⟩)]) (by simp) (by simp [go_sem]) ?_
  refine (catch_idle ⟨w.heap.size+1,0,none⟩ ⟨w.heap.size+1+1,0,none⟩ _).mono ?_
  rintro e u' w'' ⟨rfl,rfl,rfl⟩
  simp [Leaves,settle,results,Tryz.results59,go_sem,hp1,hp2,hz3,hz4]
  have hbe:=(hb2.mono (B':=w.heap.size) (by simp;omega)).below (by omega)
  exact Below.z
def checkTE (t:GT):Int×Int:=
 if (chkT 0 1 12 false t).2≠0 then chkT 0 1 12 false t
 else if 512 < (nodesT t:Int)∨4096 < (measureT t).1 then (0,5) else if 128 < (measureT t).2 then (0,9) else (0,0)
set_option maxRecDepth 100000 in
set_option maxHeartbeats 1000000 in
theorem checkTE_any (t:GT) (w:World) (A:Nat→Prop) (m:TA) (ox:okT t) (hs:sizeT t≤1099511627776) (hl:RT w A t m):
  Calls Tryz.prog 37 #[TV t m] w fun e w'=>e=.returned (.tuple #[.int .i64 (checkTE t).1,.int .i64 (checkTE t).2])∧Below w.heap.size w w':=by
 obtain ⟨ma,mb,mc,md,me,mf,mg,mh,mi,mj,mk,ml⟩:=m
 have HL:=hid hl
 have OX:=hid ox
 have hnl:=nodesT_le t
 clear hl ox
 unfold checkTE
 by_cases h1:(chkT 0 1 12 false t).2=0
 case neg=>
  have h1':((chkT 0 1 12 false t).2 != 0)=true:=by simp [h1]
  rw [if_pos h1]
  clear h1
  go_enter Tryz.func37,Tryz.ntmps37
  go_wp2_with (go_at_call 58;refine (checkT_any _ 12 (by omega) t _ A ⟨ma,mb,mc,md,me,mf,mg,mh,mi,mj,mk,ml⟩ 0 1 false (Nat.le_refl _) OX.out (by omega) (by omega) (by omega) (by omega) (by exact RT.ext (Agree.below Below.z) _ _ HL.out)).mono ?_;rintro e w1 ⟨rfl,hb⟩;have hB1:=hb;clear hb;obtain ⟨hc1,hf1⟩:=bcells hB1)
  go_ret2
  exact ⟨rfl,Below.z⟩
 have hg:=hid (good_of_chk 12 t 0 1 false h1)
 have h1':((chkT 0 1 12 false t).2 != 0)=false:=by simp [h1]
 rw [if_neg (by simp [h1])]
 clear h1
 generalize hF:(if 512 < (nodesT t:Int)∨4096 < (measureT t).1 then ((0:Int),(5:Int)) else if 128 < (measureT t).2 then (0,9) else (0,0))=F
 have HF:=hid hF
 clear hF
 go_enter Tryz.func37,Tryz.ntmps37
 go_wp2_with (first
  | (go_at_call 58;refine (checkT_any _ 12 (by omega) t _ A ⟨ma,mb,mc,md,me,mf,mg,mh,mi,mj,mk,ml⟩ 0 1 false (Nat.le_refl _) OX.out (by omega) (by omega) (by omega) (by omega) (by exact RT.ext (Agree.below Below.z) _ _ HL.out)).mono ?_;rintro e w1 ⟨rfl,hb⟩;have hB1:=hb;clear hb;obtain ⟨hc1,hf1⟩:=bcells hB1)
  | (go_at_call 59;refine (measure_any t A ⟨ma,mb,mc,md,me,mf,mg,mh,mi,mj,mk,ml⟩ _ hg.out OX.out hs (by exact RT.ext (Agree.below Below.z) _ _ HL.out)).mono ?_;rintro e w2 ⟨rfl,hb⟩;have hB2:=Below.trans hB1 (Below.mono hb (Below.size hB1));clear hb;obtain ⟨hc2,hf2⟩:=bcells hB2)
  | (go_at_call 60;refine (nodesT_any _ t _ A ⟨ma,mb,mc,md,me,mf,mg,mh,mi,mj,mk,ml⟩ (Nat.le_refl _) OX.out hs (by exact RT.ext (Agree.below Below.z) _ _ HL.out)).mono ?_;rintro e w3 ⟨rfl,hb⟩;have hB3:=Below.trans hB2 (Below.mono hb (Below.size hB2));clear hb;obtain ⟨hc3,hf3⟩:=bcells hB3))
 all_goals go_ret2
 all_goals refine ⟨?_,Below.z⟩
 all_goals rw [←HF.out]
 all_goals (first|rfl|omega|((try simp only [beq_iff_eq,beq_eq_false_iff_ne,bne_iff_ne,bne_eq_false_iff_eq,decide_eq_true_eq,decide_eq_false_iff_not,ne_eq,Bool.and_eq_true,Bool.or_eq_true,Bool.and_eq_false_iff,Bool.or_eq_false_iff,Bool.not_eq_true',Bool.not_eq_false'] at *);(repeat' split)<;>first|rfl|omega|contradiction|(simp_all;done)|(simp_all;omega)))
end Go.Proofs.YtclphfojkggcpaaGreat
