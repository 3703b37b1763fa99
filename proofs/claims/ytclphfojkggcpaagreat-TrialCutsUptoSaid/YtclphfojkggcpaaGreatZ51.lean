/- What the proofs of the Trial statements need: part 52. -/
import Derived.ProofKit
import Derived.Test.YtclphfojkggcpaaGreatZ13
import Derived.Test.YtclphfojkggcpaaGreatZ32
import Derived.Test.YtclphfojkggcpaaGreatZ33
set_option linter.unusedVariables false
set_option linter.unusedSimpArgs false
namespace Go.Proofs.YtclphfojkggcpaaGreat
open Go Go.RowKit
def b6 (a b c d e f:UInt8):ByteArray:=⟨#[a,b,c,d,e,f]⟩
def tr1:List GR:=[⟨0,3,⟨1,0,[]⟩⟩,⟨3,6,⟨1,7,[]⟩⟩]
set_option maxRecDepth 1000000 in
theorem ev1:cutE (spanT 0 7) (lessP 5) (b6 48 48 48 49 49 49) 5=0:=by decide +kernel
theorem ev2:cutT (b6 48 48 48 49 49 49) (spanT 0 7) (lessP 5) 5 0=(tr1,1):=by kernel_rfl
set_option maxRecDepth 1000000 in
theorem ev3:cutE (spanT 0 7) (lessP 5) ByteArray.empty 1001=1:=by decide +kernel
set_option maxRecDepth 1000000 in
theorem ev4:sameRs 0 tr1 tr1=true:=by decide +kernel
set_option maxRecDepth 1000000 in
theorem ev5:cutE (spanT 0 7) (lessP 5) (b6 48 48 48 48 48 49) 5=0∧cutE (spanT 0 7) (lessP 5) (b6 48 48 48 49 49 49) 1=0∧cutE (spanT 0 7) (lessP 5) (b6 48 48 48 49 49 49) 0=0∧cutE (numT 1) yesP ByteArray.empty 3=0:=by decide +kernel
def tr2:List GR:=[⟨0,3,⟨1,0,[]⟩⟩,⟨3,6,⟨1,1,[]⟩⟩]
theorem ev6:cutT (b6 48 48 48 48 48 49) (spanT 0 7) (lessP 5) 5 0=(tr2,3):=by kernel_rfl
def tr3:List GR:=[⟨0,3,⟨1,0,[]⟩⟩]
theorem ev7:cutT (b6 48 48 48 49 49 49) (spanT 0 7) (lessP 5) 1 0=(tr3,2):=by kernel_rfl
theorem ev8:cutT (b6 48 48 48 49 49 49) (spanT 0 7) (lessP 5) 0 0=([],2):=by kernel_rfl
def tr4:List GR:=[⟨0,0,⟨1,1,[]⟩⟩,⟨0,0,⟨1,1,[]⟩⟩,⟨0,0,⟨1,1,[]⟩⟩]
theorem ev9:cutT ByteArray.empty (numT 1) yesP 3 0=(tr4,2):=by kernel_rfl
end Go.Proofs.YtclphfojkggcpaaGreat
