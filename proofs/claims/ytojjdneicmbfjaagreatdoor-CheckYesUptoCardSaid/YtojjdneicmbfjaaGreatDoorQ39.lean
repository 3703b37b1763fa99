/- What the proofs of the Trial statements need: part 40. -/
import Derived.Lib.LaidTab
import Derived.ProofKit
import Derived.Test.YtojjdneicmbfjaaGreatDoorRows
import Derived.Test.YtojjdneicmbfjaaGreatDoorQ13
set_option linter.unusedVariables false
set_option linter.unusedSimpArgs false
namespace Go.Proofs.YtojjdneicmbfjaaGreatDoor
open Go Go.RowKit
theorem gTab:Tryz.prog.globalNamed "tombola/cand.widths" = some 0:=by kernel_rfl
theorem gTabType:(Tryz.prog.globals[0]?).map (·.type)=some 151:=by kernel_rfl
theorem cellsTab:Tryz.prog.cellsOf 151=4:=by kernel_rfl
theorem cellsInt:Tryz.prog.cellsOf 3=1:=by kernel_rfl
theorem table {W:World} (h:laidMetH Tryz.prog [("tombola/cand.widths",Rows.laid_tombola_cand_widths)] W):Lib.TabIs Tryz.prog W "tombola/cand.widths" .i64 [8,4,2,1]:=
 Lib.tabIs_of_head (rest:=[]) gTab gTabType Tryz.underlying151 Tryz.underlying3 cellsInt cellsTab h
theorem widths {W:World} (h:laidMetH Tryz.prog [("tombola/cand.widths",Rows.laid_tombola_cand_widths)] W):GW W:=
 ⟨(table h).cell gTab 0 (by decide),(table h).cell gTab 1 (by decide),(table h).cell gTab 2 (by decide),(table h).cell gTab 3 (by decide),trivial⟩
noncomputable def laidWorld (os:Os):World:=
 { World.holding Tryz.prog os ⟨#[], #[],[]⟩ with heap:=(World.holding Tryz.prog os ⟨#[], #[],[]⟩).heap.modify 0 fun
   | .cells _ t frozen=>.cells #[.int .i64 8,.int .i64 4,.int .i64 2,.int .i64 1] t frozen
   | o=>o }
theorem laid_met (os:Os) (args:Array Value):laidMet Tryz.prog [("tombola/cand.widths",Rows.laid_tombola_cand_widths)] ((laidWorld os).forCall (fun _ _=>0) ⟨#[],args,[]⟩).memory:=
 laidMet_of_run' 8 (by kernel_rfl) (by kernel_rfl)
end Go.Proofs.YtojjdneicmbfjaaGreatDoor
