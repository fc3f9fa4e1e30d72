/- Rows of panes on sheets: the plans are valid, have each pane once, and at most three stages. -/
import Derived.Test.YtkcpcmobmalijaaBse
import Derived.Test.YtkcpcmobmalijaaIb
import Derived.Test.YtkcpcmobmalijaaHb
set_option linter.unusedSimpArgs false
set_option linter.unusedVariables false
namespace Go.Pc
open Go Go.Proofs

theorem highs_pos {k : Work} (hk : plainW k) : ∀ (t : List (List Int)), (∀ r ∈ t, RowOk k r) → (t.length : Int) ≤ (t.map (highR k)).sum
  | [], _ => by simp
  | r :: t, h => by
    have h1 := highs_pos hk t fun x hx => h x (by simp [hx])
    have h2 := h r (by simp)
    have h3 : 1 ≤ highR k r := by
      cases hr : r with
      | nil => exact absurd hr h2.ne
      | cons i l =>
        have := (hk.pane (h2.idx i (by rw [hr]; simp))).2.1.1
        simpa [highR, hOf] using this
    simp only [List.length_cons, List.map_cons, List.sum_cons]
    omega

end Go.Pc
