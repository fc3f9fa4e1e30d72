/- The reference's steps: numbers of cuts, those above them, valid steps. -/
import Derived.Test.YtkcpcmobmalijaaSa
import Derived.Test.YtkcpcmobmalijaaHb
set_option linter.unusedSimpArgs false
set_option linter.unusedVariables false
namespace Go.Pc
open Go Go.Proofs

theorem intRows {u : List Int} : ∀ c ∈ u.map (fun x => [AV.val (.int .i64 x)]), c.length = 1 ∧ c.all AV.one = true ∧ c.all AV.pure = true := fun c hc => by
  obtain ⟨q, _, rfl⟩ := List.mem_map.1 hc
  exact ⟨rfl, rfl, rfl⟩

end Go.Pc
