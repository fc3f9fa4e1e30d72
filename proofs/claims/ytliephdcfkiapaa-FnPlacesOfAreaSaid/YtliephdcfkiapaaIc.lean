/- The law of mirrored plans: it holds of all bytes. -/
import Derived.Test.YtliephdcfkiapaaIb
import Derived.Test.YtliephdcfkiapaaHe
import Derived.Test.YtliephdcfkiapaaRow
set_option linter.unusedSimpArgs false
set_option linter.unusedVariables false
namespace Go.Pc
open Go Go.Proofs
