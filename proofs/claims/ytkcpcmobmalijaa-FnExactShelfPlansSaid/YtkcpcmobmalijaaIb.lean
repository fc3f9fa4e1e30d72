/- MirrorPlan of the program and of the reference. -/
import Derived.Test.YtkcpcmobmalijaaIa
import Derived.Test.YtkcpcmobmalijaaDe
set_option linter.unusedSimpArgs false
set_option linter.unusedVariables false
namespace Go.Pc
open Go Go.Proofs

/-- The zero value. -/
def Plan.zero : Plan := .mk 0 0 0 false []
end Go.Pc
