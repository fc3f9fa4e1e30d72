/- Valid places. -/
import Derived.Test.YtjeabpbpoomlmaaMa
import Derived.Test.YtjeabpbpoomlmaaCe
set_option linter.unusedSimpArgs false
set_option linter.unusedVariables false
namespace Go.Pc
open Go Go.Proofs

/-- A place of a pane on the glass. -/
def Place.good (k : Work) (q : Place) : Prop := q.box.ok ∧ q.box.inside k.sheet ∧ fills k q.pa q.tu q.box.W q.box.H = true
instance (k : Work) (q : Place) : Decidable (q.good k) := inferInstanceAs (Decidable (_ ∧ _))
def placesOk (k : Work) (l : List Place) : Prop := (k.ok ∧ l.length ≤ 12) ∧ (∀ q ∈ l, q.good k) ∧ apartL (l.map Place.box)
instance (k : Work) (l : List Place) : Decidable (placesOk k l) := inferInstanceAs (Decidable (_ ∧ _))

theorem Place.drop_box (q : Place) : q.cs.drop 2 = q.box.cs := rfl
theorem Place.drop_pb (q : Place) : (q.cs.drop 2).take 4 = q.box.cs := rfl

end Go.Pc
