/- TransposePlan of the program and of the reference. -/
import Derived.Test.YtliephdcfkiapaaJa
import Derived.Test.YtliephdcfkiapaaDe
set_option linter.unusedSimpArgs false
set_option linter.unusedVariables false
namespace Go.Pc
open Go Go.Proofs

/-- What TransposePlan tells. -/
def Plan.trW (p : Plan) (k : Work) : Work := if p.valid k then k.swap else ⟨0, 0, []⟩
def Plan.trP (p : Plan) (k : Work) : Plan := if p.valid k then p.trans else .zero
