/- The value of a plan, by the program and by the reference. -/
import Derived.Test.YtjeabpbpoomlmaaMv
import Derived.Test.YtjeabpbpoomlmaaHe
set_option linter.unusedSimpArgs false
set_option linter.unusedVariables false
namespace Go.Pc
open Go Go.Proofs

theorem sum_bd1 {M : Int} {l : List Int} (hM : 0 ≤ M) (h : ∀ x ∈ l, 0 ≤ x ∧ x ≤ M) : 0 ≤ l.sum ∧ l.sum ≤ M * l.length := by
  induction l with
  | nil => simp
  | cons x l ih =>
    have h1 := h x (by simp)
    have h2 := ih fun y hy => h y (by simp [hy])
    simp only [List.sum_cons, List.length_cons, Int.natCast_add, Int.mul_add]
    omega

theorem Plan.worth_len (p : Plan) (k : Work) (vs : List Int) : (p.worth k vs).length = (p.places k.sheet).length := by simp [Plan.worth]

end Go.Pc
