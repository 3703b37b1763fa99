/- Part 66. -/
import Derived.Test.YtclphfojkggcpaaGreatDoorX41
set_option linter.all false
namespace Go.Proofs.YtclphfojkggcpaaGreatDoor
open Go Go.RowKit Go.Proofs.Tryz
theorem Zm7:(prog.info? 73).map (fun i=>(i.zero,i.size,i.bytes))=some (some (.agg #[.int .i64 0,.int .i64 0,.int .u8 0,.int .i64 0,.slice none 0 0]),5,56):=kr
end Go.Proofs.YtclphfojkggcpaaGreatDoor
