/- Part 47. -/
import Derived.Test.YtkdffbdnjfgpeaaGreatZ33
import Derived.Test.YtkdffbdnjfgpeaaGreatZ44
set_option linter.all false
namespace Go.Proofs.YtkdffbdnjfgpeaaGreat
open Go Go.RowKit Go.Proofs.Tryz
theorem ZsL (a b:ByteArray) (w:World):Calls prog 63 #[.string a,.string b] w fun e w'=>e=.returned (.int .i64 (Lib.compareBytes a.data.toList b.data.toList))∧w'=w:=
 Any.strings_Compare Tryz.lays106 a b w
end Go.Proofs.YtkdffbdnjfgpeaaGreat
