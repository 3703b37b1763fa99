/- What the proofs of the Trial statements need: part 16. -/
import Derived.Defers
import Derived.Recover
import Derived.WalkSmall
import Derived.Test.YtojjdneicmbfjaaGreatQ11
set_option linter.unusedVariables false
set_option linter.unusedSimpArgs false
namespace Go.Proofs.YtojjdneicmbfjaaGreat
open Go Go.RowKit
set_option maxRecDepth 100000 in
theorem catch_idle (p q : Addr) (w : World) :
  CallsD Tryz.prog 87 #[.pointer (some p), .pointer (some q)] .returning w fun e u' w' => e = .returned (.tuple #[]) ∧ u' = .returning ∧ w' = w := by
 refine callsD_of_wpS Tryz.func87 rfl fun c₀ cs hu => ?_
 apply wpS_seq
 apply wpS_region
 simp [wpOpsS, go_sem, recoverD, hu, Tryz.ntmps87, Exit.thenS]
 refine wpS_of_wp ?_
 simp only [Array.replicate_succ, Array.replicate_zero, List.push_toArray, List.append_toArray, List.nil_append, List.cons_append, List.setIfInBounds_toArray, List.set_cons_succ, List.set_cons_zero]
 go_wp2
 cases c₀
 simp_all [bodyPostS, results, Tryz.results87]
set_option maxRecDepth 100000 in
theorem catch_panicking (pb qb : Nat) (w : World) (older : List PanicEntry) (x y : Int) (hpq : ¬ pb = qb) (hp : w.cell? ⟨pb, 0, none⟩ = some (.int .i64 x)) (hq : w.cell? ⟨qb, 0, none⟩ = some (.int .i64 y)) (hfp : w.frozen? ⟨pb, 0, none⟩ = false) (hfq : w.frozen? ⟨qb, 0, none⟩ = false) :
  CallsD Tryz.prog 87 #[.pointer (some ⟨pb, 0, none⟩), .pointer (some ⟨qb, 0, none⟩)] (.panicking ({ v := .iface 145 (.agg #[]), recovered := false } :: older)) w fun e u' w' =>
   e = .returned (.tuple #[]) ∧ u' = .panicking ({ v := .iface 145 (.agg #[]), recovered := true } :: older) ∧ w' = ((w.setCell ⟨pb, 0, none⟩ (.int .i64 4097)).setCell ⟨qb, 0, none⟩ (.int .i64 0)).alloc (.cells #[] 145) := by
 have hta : ∀ w : World, (Instr.typeAssert (.iface 145 (.agg #[])) 20 145 true).run Tryz.prog w = .ok (.tuple #[.agg #[], .bool true]) w := fun w => by kernel_rfl
 have hpl : pb < w.heap.size := World.block_lt_of_cell? _ _ hp
 have hql : qb < w.heap.size := World.block_lt_of_cell? _ _ hq
 have hqp : ¬ qb = pb := fun h => hpq h.symm
 refine callsD_of_wpS Tryz.func87 rfl fun c₀ cs hu => ?_
 apply wpS_seq
 apply wpS_region
 simp [wpOpsS, go_sem, recoverD, hu, Tryz.ntmps87, Exit.thenS]
 refine wpS_of_wp ?_
 simp only [Array.replicate_succ, Array.replicate_zero, List.push_toArray, List.append_toArray, List.nil_append, List.cons_append, List.setIfInBounds_toArray, List.set_cons_succ, List.set_cons_zero]
 go_wp2
 cases c₀
 simp_all [bodyPostS, results, Tryz.results87]
end Go.Proofs.YtojjdneicmbfjaaGreat
