/- What the exact laws do with works and plans: they measure, copy and compare them. -/
import Derived.Test.YtajkeegikligcaaDoorRy
set_option linter.unusedSimpArgs false
set_option linter.unusedVariables false
namespace Go.Pc
open Go Go.Proofs

/-- A row that is filled from its start. -/
def fillR (es : List (List AV)) (z : List AV) (i : Nat) : List (List AV) := es.take i ++ List.replicate (es.length - i) z
theorem fillR_zero (es : List (List AV)) (z : List AV) : fillR es z 0 = List.replicate es.length z := by simp [fillR]
theorem fillR_full (es : List (List AV)) (z : List AV) {i : Nat} (h : es.length ≤ i) : fillR es z i = es := by
  unfold fillR; rw [List.take_of_length_le h, show es.length - i = 0 by omega]; simp
theorem fillR_get {es : List (List AV)} {z : List AV} {i : Nat} (h : i < es.length) : (fillR es z i)[i]? = some z := by
  unfold fillR
  rw [List.getElem?_append_right (by simp; omega)]
  rw [show i - (es.take i).length = 0 by simp; omega, List.getElem?_replicate, if_pos (by omega)]
theorem fillR_set {es : List (List AV)} {z : List AV} {i : Nat} {x : List AV} (h : es[i]? = some x) : (fillR es z i).set i x = fillR es z (i + 1) := by
  have hl := (List.getElem?_eq_some_iff.1 h).1
  unfold fillR
  have e : es.length - i = (es.length - (i + 1)) + 1 := by omega
  rw [e, List.replicate_succ, List.set_append_right _ _ (by simp; omega), List.take_add_one, h]
  rw [show i - (es.take i).length = 0 by simp; omega]
  simp

/-- What is left of a room. -/
def leftOf (n : Nat) (left : Int) : Int := if (n : Int) ≤ left then left - n else -1

theorem e_toPane : Enters Tryd.prog 49 := enters_of Tryd.func49 (by kernel_rfl) (by kernel_rfl)
theorem toPane_c (q : Pane) : ACalls Tryd.prog 49 [.agg q.cs] [] [] (fun r L => r = .agg q.cs ∧ L = []) := by
  refine acalls_tm T_tt Tryd.func49 rfl e_toPane 16 rfl (W8 _ .any .any .any .any .any .any .any (W8 .any .any .any .any .any .any .any .any [.any])) rfl (rv := [.cell 2 57]) rfl (sx_sound (bl := []) T_tt _ _ _ ?_)
  simp (disch := omega) only [SX0, SX1, SX2, SX3, SX4, SX5, SX6, SX7, SX8, SU0, SY0, SY1, Nat.reduceAdd, Nat.reduceMul, Nat.reduceSub, Nat.reduceLeDiff, Nat.reduceEqDiff, Nat.reduceLT, Nat.reduceBEq, ↓reduceIte, Int.reduceLE, Int.reduceLT, Int.reduceToNat, Int.reduceNeg, reduceCtorEq, Int.reduceEq, SF0, SF1, SF2, DCg0, DCe0, DCe1, DCe2, DDb0, DBc0, DBc1, Pane.cs]
  exact fin_free rfl ⟨rfl, rfl⟩

def zPane : List AV := [.val (.int .i64 0), .val (.int .i64 0), .val (.bool false), .val (.int .i64 0)]
def zPlan : List AV := [.val (.int .i64 0), .val (.int .i64 0), .val (.int .i64 0), .val (.bool false), .val (.slice none 0 0)]

theorem zPane_len : zPane.length = 4 := rfl
theorem zPlan_len : zPlan.length = 5 := rfl
theorem zPane_drop : zPane.drop 4 = [] := rfl
theorem zPlan_drop : zPlan.drop 5 = [] := rfl
theorem DLa0 : type_of% @zPane_len ∧ type_of% @zPlan_len ∧ type_of% @zPane_drop ∧ type_of% @zPlan_drop := ⟨@zPane_len, @zPlan_len, @zPane_drop, @zPlan_drop⟩

theorem e_eqPane : Enters Tryd.prog 54 := enters_of Tryd.func54 (by kernel_rfl) (by kernel_rfl)
theorem eqPane_c (q : Pane) : ACalls Tryd.prog 54 [.agg q.cs, .agg q.cs] [] [] (fun r L => r = .val (.bool true) ∧ L = []) := by
  refine acalls_tm T_tt Tryd.func54 rfl e_eqPane 23 rfl (W8 _ _ .any .any .any .any .any .any (W8 .any .any .any .any .any .any .any .any (W8 .any .any .any .any .any .any .any .any [.any]))) rfl (rv := [.tmp 4]) rfl (sx_sound (bl := []) T_tt _ _ _ ?_)
  simp (disch := omega) only [SX0, SX1, SX2, SX3, SX4, SX5, SX6, SX7, SX8, SU0, SY0, SY1, Nat.reduceAdd, Nat.reduceMul, Nat.reduceSub, Nat.reduceLeDiff, Nat.reduceEqDiff, Nat.reduceLT, Nat.reduceBEq, ↓reduceIte, Int.reduceLE, Int.reduceLT, Int.reduceToNat, Int.reduceNeg, reduceCtorEq, Int.reduceEq, SF0, SF1, SF2, DCg0, DCe0, DCe1, DCe2, DDb0, DBc0, DBc1, DLa0]
  exact fin_val ⟨rfl, rfl⟩

end Go.Pc
