/- The law of mirrored plans: it holds of all bytes. -/
import Derived.Test.YtokghjmmdnhbeaaIb
import Derived.Test.YtokghjmmdnhbeaaHe
import Derived.Test.YtokghjmmdnhbeaaRow
set_option linter.unusedSimpArgs false
set_option linter.unusedVariables false
namespace Go.Pc
open Go Go.Proofs

theorem equalPlan_c (p : Plan) (hw : p.wf = true) : ACalls Try.prog 15 [.agg p.cs, .agg p.cs] [] [] (fun r L => r = .val (.bool true) ∧ L = []) := equalPlan_n _ p (Nat.le_refl _) hw

end Go.Pc
