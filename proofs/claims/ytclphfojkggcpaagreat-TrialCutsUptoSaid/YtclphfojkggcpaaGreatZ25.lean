/- What the proofs of the Trial statements need: part 26. -/
import Derived.ProofKit
import Derived.Test.YtclphfojkggcpaaGreatZ2
set_option linter.unusedVariables false
set_option linter.unusedSimpArgs false
namespace Go.Proofs.YtclphfojkggcpaaGreat
open Go Go.RowKit
theorem wp_named {P:Program} {c:Code} {Q:Exit→Act→World→Prop} {a:Act} {W:World} (F:World→Prop) (hF:F W) (h:∀W1,F W1→c.wp P Q a W1):c.wp P Q a W:=h W hF
end Go.Proofs.YtclphfojkggcpaaGreat
