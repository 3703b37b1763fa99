/- What the proofs of the Trial statements need: part 38. -/
import Derived.Deep.RegionHeld3
import Derived.Maps.AppendAt
import Derived.Test.YtojjdneicmbfjaaGreatDoorQ17
import Derived.Test.YtojjdneicmbfjaaGreatDoorQ19
import Derived.Test.YtojjdneicmbfjaaGreatDoorQ36
set_option linter.unusedVariables false
set_option linter.unusedSimpArgs false
namespace Go.Proofs.YtojjdneicmbfjaaGreatDoor
open Go Go.RowKit
theorem infoTr:(Tryz.prog.info? 75).map (fun i=>(i.zero,i.size,i.bytes))=some (some (.agg #[.int .i64 0,.int .i64 0,.int .u8 0,.int .i64 0,.slice none 0 0]),5,56):=by kernel_rfl
end Go.Proofs.YtojjdneicmbfjaaGreatDoor
