/- What the proofs of the Trial statements need: part 26. -/
import Derived.Defers
import Derived.Recover
import Derived.WalkSmall
import Derived.Test.YtojjdneicmbfjaaGreatQ24
set_option linter.unusedVariables false
set_option linter.unusedSimpArgs false
namespace Go.Proofs.YtojjdneicmbfjaaGreat
open Go Go.RowKit
/-- an outcome as the program holds it -/
def OV (k : Int) (v : GV) (m : VA) (n : Int) : Value := .agg #[.int .u8 k, .int .u8 v.k, .int .i64 v.n, .slice m.a v.l.length m.c, .int .i64 n]
def zeroV : GV := ⟨0, 0, []⟩
set_option maxRecDepth 100000 in
theorem end_idle (p : Addr) (w : World) :
  CallsD Tryz.prog 64 #[.pointer (some p)] .returning w fun e u' w' => e = .returned (.tuple #[]) ∧ u' = .returning ∧ w' = w := by
 refine callsD_of_wpS Tryz.func64 rfl fun c₀ cs hu => ?_
 apply wpS_seq
 apply wpS_region
 simp [wpOpsS, go_sem, recoverD, hu, Tryz.ntmps64, Exit.thenS]
 refine wpS_of_wp ?_
 simp only [Array.replicate_succ, Array.replicate_zero, List.push_toArray, List.append_toArray, List.nil_append, List.cons_append, List.setIfInBounds_toArray, List.set_cons_succ, List.set_cons_zero]
 go_wp2
 cases c₀
 simp_all [bodyPostS, results, Tryz.results64]
set_option maxRecDepth 100000 in
theorem end_panicking (pb : Nat) (k : Int) (w : World) (older : List PanicEntry) (hp : w.cell? ⟨pb, 0, none⟩ = some (.int .u8 0) ∧ w.cell? ⟨pb, 1, none⟩ = some (.int .u8 0) ∧ w.cell? ⟨pb, 2, none⟩ = some (.int .i64 0) ∧ w.cell? ⟨pb, 3, none⟩ = some (.slice none 0 0) ∧ w.cell? ⟨pb, 4, none⟩ = some (.int .i64 0))
  (hf : ∀ o, w.frozen? ⟨pb, o, none⟩ = false) :
  CallsD Tryz.prog 64 #[.pointer (some ⟨pb, 0, none⟩)] (.panicking ({ v := .iface 102 (.int .u8 k), recovered := false } :: older)) w fun e u' w' =>
   e = .returned (.tuple #[]) ∧ u' = .panicking ({ v := .iface 102 (.int .u8 k), recovered := true } :: older) ∧ w' = ((((w.setCell ⟨pb, 0, none⟩ (.int .u8 k)).setCell ⟨pb, 1, none⟩ (.int .u8 0)).setCell ⟨pb, 2, none⟩ (.int .i64 0)).setCell ⟨pb, 3, none⟩ (.slice none 0 0)).setCell ⟨pb, 4, none⟩ (.int .i64 0) := by
 obtain ⟨h0, h1, h2, h3, h4⟩ := hp
 have hta : ∀ w : World, (Instr.typeAssert (.iface 102 (.int .u8 k)) 20 102 true).run Tryz.prog w = .ok (.tuple #[.int .u8 k, .bool true]) w := fun w => by kernel_rfl
 have hpl : pb < w.heap.size := World.block_lt_of_cell? _ _ h0
 refine callsD_of_wpS Tryz.func64 rfl fun c₀ cs hu => ?_
 apply wpS_seq
 apply wpS_region
 simp [wpOpsS, go_sem, recoverD, hu, Tryz.ntmps64, Exit.thenS]
 refine wpS_of_wp ?_
 simp only [Array.replicate_succ, Array.replicate_zero, List.push_toArray, List.append_toArray, List.nil_append, List.cons_append, List.setIfInBounds_toArray, List.set_cons_succ, List.set_cons_zero]
 go_wp2
 cases c₀
 simp_all [bodyPostS, results, Tryz.results64]
end Go.Proofs.YtojjdneicmbfjaaGreat
