/- Places and waste of a plan. -/
import Derived.Test.YtkcpcmobmalijaaHa
set_option linter.unusedSimpArgs false
set_option linter.unusedVariables false
namespace Go.Pc
open Go Go.Proofs

structure Place where
  pa : Int
  tu : Bool
  box : Box
  deriving DecidableEq

def Place.cs (q : Place) : List AV := [.val (.int .i64 q.pa), .val (.bool q.tu), .val (.int .i64 q.box.X), .val (.int .i64 q.box.Y), .val (.int .i64 q.box.W), .val (.int .i64 q.box.H)]
theorem Place.len (b : Place) : b.cs.length = 6 := rfl
theorem Place.take (b : Place) : b.cs.take 6 = b.cs := rfl
theorem Place.g0 (b : Place) : b.cs[0]? = some (.val (.int .i64 b.pa)) := rfl
theorem Place.g1 (b : Place) : b.cs[1]? = some (.val (.bool b.tu)) := rfl
theorem Place.one (b : Place) : b.cs.all AV.one = true := rfl
theorem Place.pure (b : Place) : b.cs.all AV.pure = true := rfl
theorem Place.free (b : Place) : freeL b.cs = true := rfl
theorem Place.filtd (f : Nat → Bool) (p : Place) : filtL f p.cs = p.cs := (free_filt_aux f).2 _ p.free
theorem Place.rend (f : Nat → Nat) (p : Place) : renL f p.cs = p.cs := freeL_rend f p.free
theorem DHb0 : type_of% @Place.len ∧ type_of% @Place.take ∧ type_of% @Place.g0 ∧ type_of% @Place.g1 ∧ type_of% @Place.one ∧ type_of% @Place.pure ∧ type_of% @Place.filtd ∧ type_of% @Place.rend := ⟨@Place.len, @Place.take, @Place.g0, @Place.g1, @Place.one, @Place.pure, @Place.filtd, @Place.rend⟩

/-- The pane of a part, if it is one. -/
def placeOf (q : Plan × Box) : Option Place := if q.1.op = 1 then some ⟨q.1.pa, q.1.tu, q.2⟩ else none
def Plan.places (p : Plan) (b : Box) : List Place := (p.parts b).filterMap placeOf
theorem freeL_app : ∀ (a b : List AV), freeL (a ++ b) = (freeL a && freeL b)
  | [], b => by simp [freeL]
  | x :: a, b => by simp [freeL, freeL_app a b, Bool.and_assoc]

theorem placeOf_cells (q : Plan × Box) : (partRow q)[0]? = some (.val (.int .i64 q.1.op)) ∧ (partRow q)[2]? = some (.val (.int .i64 q.1.pa)) ∧ (partRow q)[3]? = some (.val (.bool q.1.tu)) := by
  simp [partRow, Plan.cs_eq]
theorem partRow_g0 (q : Plan × Box) : (partRow q)[0]? = some (.val (.int .i64 q.1.op)) := (placeOf_cells q).1
theorem partRow_g2 (q : Plan × Box) : (partRow q)[2]? = some (.val (.int .i64 q.1.pa)) := (placeOf_cells q).2.1
theorem partRow_g3 (q : Plan × Box) : (partRow q)[3]? = some (.val (.bool q.1.tu)) := (placeOf_cells q).2.2
theorem partRow_free (q : Plan × Box) : freeL (partRow q) = true := by rw [partRow, freeL_app, Plan.free, Box.free]; rfl
theorem partRow_filtd (f : Nat → Bool) (q : Plan × Box) : filtL f (partRow q) = partRow q := (free_filt_aux f).2 _ (partRow_free q)
theorem DHb1 : type_of% @partRow_g0 ∧ type_of% @partRow_g2 ∧ type_of% @partRow_g3 ∧ type_of% @partRow_filtd ∧ type_of% @partRow_drop := ⟨@partRow_g0, @partRow_g2, @partRow_g3, @partRow_filtd, @partRow_drop⟩

end Go.Pc
