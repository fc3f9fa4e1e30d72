/- Numbers in a row: equal ones, sums; sums of areas. -/
import Derived.Test.YtokghjmmdnhbeaaCg
set_option linter.unusedSimpArgs false
set_option linter.unusedVariables false
namespace Go.Pc
open Go Go.Proofs

def ints (l : List Int) : List (List AV) := l.map fun x => [.val (.int .i64 x)]
theorem ints_x (l : List Int) : ints l = l.map fun x => [.val (.int .i64 x)] := rfl
theorem DHa0 : type_of% @ints_x := @ints_x

theorem take_next_eq {α : Type} {a b : List α} {i : Nat} {x : α} (h : a.take i = b.take i) (ha : a[i]? = some x) (hb : b[i]? = some x) : a.take (i + 1) = b.take (i + 1) := by
  rw [List.take_add_one, List.take_add_one, h, ha, hb]

theorem sum_bound {l : List Int} (h : ∀ x ∈ l, 0 ≤ x ∧ x ≤ 1000000) : 0 ≤ l.sum ∧ l.sum ≤ 1000000 * l.length := by
  induction l with
  | nil => simp
  | cons x l ih =>
    have h1 := h x (by simp)
    have h2 := ih fun y hy => h y (by simp [hy])
    simp only [List.sum_cons, List.length_cons]
    omega
theorem sum_take {l : List Int} {i : Nat} {x : Int} (h : l[i]? = some x) : (l.take (i + 1)).sum = (l.take i).sum + x := by
  rw [List.take_add_one, h]; simp

/-- The area of a box. -/
def Box.area (b : Box) : Int := b.W * b.H

end Go.Pc
