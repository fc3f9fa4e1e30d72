/- Rows of panes on sheets: the reference's plans. -/
import Derived.Test.YtkcpcmobmalijaaBsf
import Derived.Test.YtkcpcmobmalijaaSg
set_option linter.unusedSimpArgs false
set_option linter.unusedVariables false
namespace Go.Pc
open Go Go.Proofs

theorem mem_upTo {n : Nat} {x : Int} : x ∈ upTo n ↔ 0 ≤ x ∧ x < n := by
  unfold upTo
  rw [List.mem_map]
  exact ⟨fun ⟨m, h1, h2⟩ => by have := List.mem_range.1 h1; omega, fun hi => ⟨x.toNat, List.mem_range.2 (by omega), by omega⟩⟩

end Go.Pc
