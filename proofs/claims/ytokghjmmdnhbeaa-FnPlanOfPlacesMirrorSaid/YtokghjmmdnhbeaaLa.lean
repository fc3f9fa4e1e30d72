/- What the exact laws do with works and plans: they measure, copy and compare them. -/
import Derived.Test.YtokghjmmdnhbeaaRy
set_option linter.unusedSimpArgs false
set_option linter.unusedVariables false
namespace Go.Pc
open Go Go.Proofs

/-- A row that is filled from its start. -/
def fillR (es : List (List AV)) (z : List AV) (i : Nat) : List (List AV) := es.take i ++ List.replicate (es.length - i) z
theorem fillR_len (es : List (List AV)) (z : List AV) (i : Nat) : (fillR es z i).length = es.length := by simp [fillR]; omega
theorem fillR_zero (es : List (List AV)) (z : List AV) : fillR es z 0 = List.replicate es.length z := by simp [fillR]
theorem fillR_full (es : List (List AV)) (z : List AV) {i : Nat} (h : es.length ≤ i) : fillR es z i = es := by
  unfold fillR; rw [List.take_of_length_le h, show es.length - i = 0 by omega]; simp
theorem fillR_get {es : List (List AV)} {z : List AV} {i : Nat} (h : i < es.length) : (fillR es z i)[i]? = some z := by
  unfold fillR
  rw [List.getElem?_append_right (by simp; omega)]
  rw [show i - (es.take i).length = 0 by simp; omega, List.getElem?_replicate, if_pos (by omega)]
theorem fillR_set {es : List (List AV)} {z : List AV} {i : Nat} {x : List AV} (h : es[i]? = some x) : (fillR es z i).set i x = fillR es z (i + 1) := by
  have hl := (List.getElem?_eq_some_iff.1 h).1
  unfold fillR
  have e : es.length - i = (es.length - (i + 1)) + 1 := by omega
  rw [e, List.replicate_succ, List.set_append_right _ _ (by simp; omega), List.take_add_one, h]
  rw [show i - (es.take i).length = 0 by simp; omega]
  simp

theorem Plan.zero_len : Plan.nodesL [] = 0 := rfl
theorem nodesL_take {l : List Plan} {i : Nat} {q : Plan} (h : l[i]? = some q) : Plan.nodesL (l.take (i + 1)) = Plan.nodesL (l.take i) + q.nodes := by
  rw [Plan.nodesL_sum, Plan.nodesL_sum, List.take_add_one, h]; simp
theorem nodesL_ge {l : List Plan} {i : Nat} (h : i ≤ l.length) : Plan.nodesL (l.take i) + (l.length - i) ≤ Plan.nodesL l := by
  have e : l = l.take i ++ l.drop i := (List.take_append_drop i l).symm
  have h1 : ∀ m : List Plan, m.length ≤ Plan.nodesL m := fun m => by
    induction m with
    | nil => simp
    | cons q m ih => have := q.nodes_pos; simp [Plan.nodesL]; omega
  have h2 := h1 (l.drop i)
  have h3 : Plan.nodesL l = Plan.nodesL (l.take i) + Plan.nodesL (l.drop i) := by
    rw [Plan.nodesL_sum, Plan.nodesL_sum, Plan.nodesL_sum, ← List.sum_append, ← List.map_append, List.take_append_drop]
  rw [List.length_drop] at h2
  omega

/-- What is left of a room. -/
def leftOf (n : Nat) (left : Int) : Int := if (n : Int) ≤ left then left - n else -1

def zPane : List AV := [.val (.int .i64 0), .val (.int .i64 0), .val (.bool false), .val (.int .i64 0)]
def zPlan : List AV := [.val (.int .i64 0), .val (.int .i64 0), .val (.int .i64 0), .val (.bool false), .val (.slice none 0 0)]

theorem zPane_len : zPane.length = 4 := rfl
theorem zPlan_len : zPlan.length = 5 := rfl
theorem zPane_drop : zPane.drop 4 = [] := rfl
theorem zPlan_drop : zPlan.drop 5 = [] := rfl
theorem DLa0 : type_of% @zPane_len ∧ type_of% @zPlan_len ∧ type_of% @zPane_drop ∧ type_of% @zPlan_drop := ⟨@zPane_len, @zPlan_len, @zPane_drop, @zPlan_drop⟩

end Go.Pc
