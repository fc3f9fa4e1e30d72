/- The reference's parts. -/
import Derived.Test.YtajkeegikligcaaDoorCe
set_option linter.unusedSimpArgs false
set_option linter.unusedVariables false
namespace Go.Pc
open Go Go.Proofs

end Go.Pc

/- The cuts of a plan by their numbers. -/
namespace Go.Pc
open Go Go.Proofs

def knotRow (q : Int × Int) : List AV := [.val (.int .i64 q.1), .val (.int .i64 q.2)]
theorem knotRow_len (q : Int × Int) : (knotRow q).length = 2 := rfl
theorem knotRow_take (q : Int × Int) : (knotRow q).take 2 = knotRow q := rfl
theorem knotRow_g0 (q : Int × Int) : (knotRow q)[0]? = some (.val (.int .i64 q.1)) := rfl
theorem knotRow_g1 (q : Int × Int) : (knotRow q)[1]? = some (.val (.int .i64 q.2)) := rfl
theorem knotRow_free (q : Int × Int) : freeL (knotRow q) = true := rfl
theorem knotRow_one (q : Int × Int) : (knotRow q).all AV.one = true := rfl
theorem knotRow_pure (q : Int × Int) : (knotRow q).all AV.pure = true := rfl
theorem knotRow_filtd (f : Nat → Bool) (q : Int × Int) : filtL f (knotRow q) = knotRow q := (free_filt_aux f).2 _ (knotRow_free q)
theorem knotRow_rend (f : Nat → Nat) (q : Int × Int) : renL f (knotRow q) = knotRow q := freeL_rend f (knotRow_free q)
theorem DCg0 : type_of% @knotRow_filtd ∧ type_of% @knotRow_rend ∧ type_of% @knotRow_len ∧ type_of% @knotRow_take ∧ type_of% @knotRow_g0 ∧ type_of% @knotRow_g1 ∧ type_of% @knotRow_one ∧ type_of% @knotRow_pure := ⟨@knotRow_filtd, @knotRow_rend, @knotRow_len, @knotRow_take, @knotRow_g0, @knotRow_g1, @knotRow_one, @knotRow_pure⟩

end Go.Pc
