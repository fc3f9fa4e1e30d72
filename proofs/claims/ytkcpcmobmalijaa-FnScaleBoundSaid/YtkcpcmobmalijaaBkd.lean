/- Fewest bars: the reference. -/
import Derived.Test.YtkcpcmobmalijaaBkc
set_option linter.unusedSimpArgs false
set_option linter.unusedVariables false
namespace Go.Pc
open Go Go.Proofs

noncomputable instance : (a s : Nat) → Decidable (sub a s)
  | a, s => Classical.propDecidable _

end Go.Pc
