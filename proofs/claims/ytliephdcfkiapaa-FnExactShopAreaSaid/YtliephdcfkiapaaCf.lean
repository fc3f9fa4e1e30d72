/- The reference's parts. -/
import Derived.Test.YtliephdcfkiapaaCe
set_option linter.unusedSimpArgs false
set_option linter.unusedVariables false
namespace Go.Pc
open Go Go.Proofs
