/- What is drawn for the law of parts. -/
import Derived.Test.YtjeabpbpoomlmaaDd
set_option linter.unusedSimpArgs false
set_option linter.unusedVariables false
namespace Go.Pc
open Go Go.Proofs

theorem take_byte {xs : List Int} (hx : ∀ x ∈ xs, 0 ≤ x ∧ x < 256) : ∀ x ∈ xs.take 2000, 0 ≤ x ∧ x < 256 := fun x h => hx x (List.mem_of_mem_take h)
