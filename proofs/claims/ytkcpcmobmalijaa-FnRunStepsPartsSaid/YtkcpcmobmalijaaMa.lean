/- Boxes apart, valid places, in how many ways a pane fits. -/
import Derived.Test.YtkcpcmobmalijaaHb
set_option linter.unusedSimpArgs false
set_option linter.unusedVariables false
namespace Go.Pc
open Go Go.Proofs

theorem Box.under (b : Box) (m : Nat) : underL m b.cs = true := rfl
theorem Place.under (b : Place) (m : Nat) : underL m b.cs = true := rfl
end Go.Pc
