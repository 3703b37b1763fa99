/- Part 19. -/
import Derived.ChangeAlike
import Derived.Defers
import Derived.Recover
import Derived.RegionTactic
import Derived.Test.YtkdffbdnjfgpeaaGreatZ17
set_option linter.all false
namespace Go.Proofs.YtkdffbdnjfgpeaaGreat
open Go.Lib (hid)
open Go Go.RowKit Go.Proofs.Tryz
theorem ZlJ {p:Prop} (h:p:=by
 refine callsD_of_wpS func138 rfl fun c₀ cs hu=>?_
 apply wpS_seq
 apply wpS_region
 simp [wpOpsS,go_sem,recoverD,hu,ntmps138,Exit.thenS]
 refine wpS_of_wp ?_
 simp only [Array.replicate_succ,Array.replicate_zero,List.push_toArray,List.append_toArray,List.nil_append,List.cons_append,List.setIfInBounds_toArray,List.set_cons_succ,List.set_cons_zero]
 go_wp2
 cases c₀
 simp_all [bodyPostS,results,Tryz.results138]):p:=h
set_option maxRecDepth 100000
theorem ZeY (p q:Addr) (w:World):
  CallsD prog 138 #[.pointer (some p),.pointer (some q)] .returning w fun e u' w'=>e=.returned (.tuple #[])∧u'=.returning∧w'=w:=by
 exact ZlJ
theorem ZaF (pb qb:Nat) (w:World) (older:List PanicEntry) (x y:Int) (hpq:¬pb=qb) (hp:w.cell? ⟨pb,0,none⟩=some (.int .i64 x)) (hq:w.cell? ⟨qb,0,none⟩=some (.int .i64 y)) (hfp:w.frozen? ⟨pb,0,none⟩=false) (hfq:w.frozen? ⟨qb,0,none⟩=false):
  CallsD prog 138 #[.pointer (some ⟨pb,0,none⟩),.pointer (some ⟨qb,0,none⟩)] (.panicking ({ v:=.iface 200 (.agg #[]),recovered:=false }::older)) w fun e u' w'=>
   e=.returned (.tuple #[])∧u'=.panicking ({ v:=.iface 200 (.agg #[]),recovered:=true }::older)∧w'=((w.setCell ⟨pb,0,none⟩ (.int .i64 4097)).setCell ⟨qb,0,none⟩ (.int .i64 0)).alloc (.cells #[] 200):=by
 have hta:∀w:World,(Instr.typeAssert (.iface 200 (.agg #[])) 20 200 true).run prog w=.ok (.tuple #[.agg #[],.bool true]) w:=fun w=>kr
 have hpl:pb < w.heap.size:=World.block_lt_of_cell? _ _ hp
 have hql:qb < w.heap.size:=World.block_lt_of_cell? _ _ hq
 have hqp:¬qb=pb:=fun h=>hpq h.symm
 exact ZlJ
set_option maxRecDepth 512
def Zz (t:GT):Int×Int:=
 match wkT 4098 t [] 1 0 with
 | some (d,n)=>(n,d)
 | none=>(4097,0)
theorem ZlE {p:Prop} (h:p:=by
 rintro e u' w'' ⟨rfl,rfl,rfl⟩
 simp [Leaves,settle,results,Tryz.results88,go_sem,hp1,hp2,hz3,hz4]
 have hbe:=(hb2.mono (B':=w.heap.size) (by simp;omega)).below om
 exact ZtX):p:=h
set_option maxRecDepth 100000
set_option maxHeartbeats 2000000
theorem Zd1 (t:GT) (A:Nat→Prop) (m:TA) (w:World) (hg:Zp false t) (ox:okT t) (hs:Zb t≤1099511627776) (hl:RT w A t m):
  Calls prog 88 #[TV t m] w fun e w'=>e=.returned (.tuple #[.int .i64 (Zz t).1,.int .i64 (Zz t).2])∧Below w.heap.size w w':=by
 obtain ⟨ma,mb,mc,md,me,mf,mg,mh,mi,mj,mk,ml⟩:=m
 have hmf:∀(fn:Fn) (first cap:Array Value) (w:World),(Instr.makeFunc fn first cap).run prog w=.ok (.func fn first cap) w:=fun _ _ _ _=>rfl
 have HR:=hid hl
 have HX:=hid (fun (W:World) (c:Nat) (h1:c < W.heap.size) (h2:Ctr W c 0) (h3:RT W (fun b=>b≠c) t ⟨ma,mb,mc,md,me,mf,mg,mh,mi,mj,mk,ml⟩)=>(ZeG c (Zb t) hs 4098 om t [] 1 0 W ⟨ma,mb,mc,md,me,mf,mg,mh,mi,mj,mk,ml⟩ none hg ox (Nat.le_refl _) trivial ⟨om,om⟩ ⟨om,om⟩ om h1 h2 h3 rfl).2)
 unfold Zz
 clear hg ox hl
 rcases hW:wkT 4098 t [] 1 0 with _|⟨d,n⟩
 ·have HW:=hid hW
  clear hW
  go_enter_defers func88,ntmps88
  go_wp2_with (go_at_call 139;refine (HX.out _ (w.heap.size+1+1+1) sm (by exact ⟨gs,gs⟩) (by exact Zt2 az _ _ (Zud (fun b _ h=>by show b≠_;omega) _ _ HR.out))).mono ?_;rw [HW.out];rintro e1 w2 ⟨hb2,rfl⟩;obtain ⟨hc2,hf2⟩:=ZE hb2;have hz2:=hb2.size;simp at hz2)
  have hp1:w2.cell? ⟨w.heap.size+1,0,none⟩=some (.int .i64 0):=gs
  have hp2:w2.cell? ⟨w.heap.size+1+1,0,none⟩=some (.int .i64 0):=gs
  have hp3:w2.frozen? ⟨w.heap.size+1,0,none⟩=false:=gs
  have hp4:w2.frozen? ⟨w.heap.size+1+1,0,none⟩=false:=gs
  have hz3:w.heap.size+1 < w2.heap.size:=om
  have hz4:w.heap.size+1+1 < w2.heap.size:=om
  refine leaves_cons (f:=138) (args:=#[.pointer (some ⟨w.heap.size+1,0,none⟩),.pointer (some ⟨w.heap.size+1+1,0,none⟩)]) sm (by simp [go_sem]) ?_
  refine (ZaF (w.heap.size+1) (w.heap.size+1+1) _ [] 0 0 om ?_ ?_ ?_ ?_).mono ?_
  ·go_simp
  ·go_simp
  ·go_simp
  ·go_simp
  exact ZlE
 have HW:=hid hW
 clear hW
 go_enter_defers func88,ntmps88
 go_wp2_with (go_at_call 139;refine (HX.out _ (w.heap.size+1+1+1) sm (by exact ⟨gs,gs⟩) (by exact Zt2 az _ _ (Zud (fun b _ h=>by show b≠_;omega) _ _ HR.out))).mono ?_;rw [HW.out];rintro e1 w2 ⟨hb2,rfl,hx1,hx2⟩;obtain ⟨hc2,hf2⟩:=ZE hb2;have hz2:=hb2.size;simp at hz2)
 have hp1:w2.cell? ⟨w.heap.size+1,0,none⟩=some (.int .i64 0):=gs
 have hp2:w2.cell? ⟨w.heap.size+1+1,0,none⟩=some (.int .i64 0):=gs
 have hp3:w2.frozen? ⟨w.heap.size+1,0,none⟩=false:=gs
 have hp4:w2.frozen? ⟨w.heap.size+1+1,0,none⟩=false:=gs
 have hz3:w.heap.size+1 < w2.heap.size:=om
 have hz4:w.heap.size+1+1 < w2.heap.size:=om
 go_region
 go_wp2_with fail
 refine leaves_cons (f:=138) (args:=#[.pointer (some ⟨w.heap.size+1,0,none⟩),.pointer (some ⟨w.heap.size+1+1,0,none⟩)]) sm (by simp [go_sem]) ?_
 refine (ZeY ⟨w.heap.size+1,0,none⟩ ⟨w.heap.size+1+1,0,none⟩ _).mono ?_
 exact ZlE
set_option maxRecDepth 512
def Z3 (t:GT):Int×Int:=
 if (ZF 0 1 12 false t).2≠0 then ZF 0 1 12 false t
 else if 512 < (Z8 t:Int)∨4096 < (Zz t).1 then (0,5) else if 128 < (Zz t).2 then (0,9) else (0,0)
set_option maxRecDepth 100000
theorem Ub (t:GT) (w:World) (A:Nat→Prop) (m:TA) (ox:okT t) (hs:Zb t≤1099511627776) (hl:RT w A t m):
  Calls prog 59 #[TV t m] w fun e w'=>e=.returned (.tuple #[.int .i64 (Z3 t).1,.int .i64 (Z3 t).2])∧Below w.heap.size w w':=by
 obtain ⟨ma,mb,mc,md,me,mf,mg,mh,mi,mj,mk,ml⟩:=m
 have HL:=hid hl
 have OX:=hid ox
 have hnl:=Xh t
 clear hl ox
 unfold Z3
 by_cases h1:(ZF 0 1 12 false t).2=0
 case neg=>
  have h1':((ZF 0 1 12 false t).2 != 0)=true:=by simp [h1]
  rw [if_pos h1]
  clear h1
  go_enter func59,ntmps59
  go_wp2_with (go_at_call 87;refine (Za5 _ 12 om t _ A ⟨ma,mb,mc,md,me,mf,mg,mh,mi,mj,mk,ml⟩ 0 1 false (Nat.le_refl _) OX.out om om om om (by exact Zt2 az _ _ HL.out)).mono ?_;rintro e w1 ⟨rfl,hb⟩;have hB1:=hb;clear hb;obtain ⟨hc1,hf1⟩:=Za hB1)
  go_ret2
  exact ⟨rfl,ZtX⟩
 have hg:=hid (XL 12 t 0 1 false h1)
 have h1':((ZF 0 1 12 false t).2 != 0)=false:=by simp [h1]
 rw [if_neg (by simp [h1])]
 clear h1
 generalize hF:(if 512 < (Z8 t:Int)∨4096 < (Zz t).1 then ((0:Int),(5:Int)) else if 128 < (Zz t).2 then (0,9) else (0,0))=F
 have HF:=hid hF
 clear hF
 go_enter func59,ntmps59
 go_wp2_with (first
  | (go_at_call 87;refine (Za5 _ 12 om t _ A ⟨ma,mb,mc,md,me,mf,mg,mh,mi,mj,mk,ml⟩ 0 1 false (Nat.le_refl _) OX.out om om om om (by exact Zt2 az _ _ HL.out)).mono ?_;rintro e w1 ⟨rfl,hb⟩;have hB1:=hb;clear hb;obtain ⟨hc1,hf1⟩:=Za hB1)
  | (go_at_call 88;refine (Zd1 t A ⟨ma,mb,mc,md,me,mf,mg,mh,mi,mj,mk,ml⟩ _ hg.out OX.out hs (by exact Zt2 az _ _ HL.out)).mono ?_;rintro e w2 ⟨rfl,hb⟩;have hB2:=Below.trans hB1 (Below.mono hb (Below.size hB1));clear hb;obtain ⟨hc2,hf2⟩:=Za hB2)
  | (go_at_call 89;refine (Zfj _ t _ A ⟨ma,mb,mc,md,me,mf,mg,mh,mi,mj,mk,ml⟩ (Nat.le_refl _) OX.out hs (by exact Zt2 az _ _ HL.out)).mono ?_;rintro e w3 ⟨rfl,hb⟩;have hB3:=Below.trans hB2 (Below.mono hb (Below.size hB2));clear hb;obtain ⟨hc3,hf3⟩:=Za hB3))
 all_goals go_ret2
 all_goals refine ⟨?_,ZtX⟩
 all_goals rw [←HF.out]
 all_goals (first|rfl|omega|((try simp only [beq_iff_eq,beq_eq_false_iff_ne,bne_iff_ne,bne_eq_false_iff_eq,decide_eq_true_eq,decide_eq_false_iff_not,ne_eq,Bool.and_eq_true,Bool.or_eq_true,Bool.and_eq_false_iff,Bool.or_eq_false_iff,Bool.not_eq_true',Bool.not_eq_false'] at *);(repeat' split)<;>first|rfl|omega|contradiction|(simp_all;done)|(simp_all;omega)))
set_option maxRecDepth 512
def ZtP (t:GT):Bool:=(Z3 t).2==0
theorem ZtQ (t:GT) (w:World) (A:Nat→Prop) (m:TA) (ox:okT t) (hs:Zb t≤1099511627776) (hl:RT w A t m):
  Calls prog 32 #[TV t m] w fun e w'=>e=.returned (.bool (ZtP t))∧Below w.heap.size w w':=by
 obtain ⟨ma,mb,mc,md,me,mf,mg,mh,mi,mj,mk,ml⟩:=m
 have HL:=hid hl
 have OX:=hid ox
 clear hl ox
 generalize hF:ZtP t=F
 have HF:=hid hF
 clear hF
 go_enter func32,ntmps32
 go_wp2_with (go_at_call 59;refine (Ub t _ A ⟨ma,mb,mc,md,me,mf,mg,mh,mi,mj,mk,ml⟩ OX.out hs (by exact Zt2 az _ _ HL.out)).mono ?_;rintro e w1 ⟨rfl,hb⟩;have hB1:=hb;clear hb;obtain ⟨hc1,hf1⟩:=Za hB1)
 all_goals go_ret
 all_goals exact ⟨by rw [←HF.out];simp [ZtP],ZtX⟩
end Go.Proofs.YtkdffbdnjfgpeaaGreat
