/- Texts of orders: the reference. -/
import Derived.Test.YtajkeegikligcaaDoorCqa
set_option linter.unusedSimpArgs false
set_option linter.unusedVariables false
namespace Go.Pc
open Go Go.Proofs Go.Lib

def wordT (b : Bool) : List UInt8 := if b then [116, 117, 114, 110, 115] else [102, 105, 120, 101, 100]
end Go.Pc
