/- Two steps exchanged. -/
import Derived.Test.YtkcpcmobmalijaaSa
import Derived.Test.YtkcpcmobmalijaaHb
set_option linter.unusedSimpArgs false
set_option linter.unusedVariables false
namespace Go.Pc
open Go Go.Proofs

/-- One after the other. -/
def chain (ks : List (Int × Int)) : List Int → List Int → Prop
  | _, [] => True
  | D, n :: l => canCut ks D n ∧ chain ks (D ++ [n]) l
end Go.Pc
