/- What the exact laws do with works and plans: they measure, copy and compare them. -/
import Derived.Test.YtajkeegikligcaaDoorRx
import Derived.Test.YtajkeegikligcaaDoorCg
set_option linter.unusedSimpArgs false
set_option linter.unusedVariables false
namespace Go.Pc
open Go Go.Proofs

def zPane : List AV := [.val (.int .i64 0), .val (.int .i64 0), .val (.bool false), .val (.int .i64 0)]
def zPlan : List AV := [.val (.int .i64 0), .val (.int .i64 0), .val (.int .i64 0), .val (.bool false), .val (.slice none 0 0)]

theorem zPane_len : zPane.length = 4 := rfl
theorem zPlan_len : zPlan.length = 5 := rfl
theorem zPane_drop : zPane.drop 4 = [] := rfl
theorem zPlan_drop : zPlan.drop 5 = [] := rfl
theorem DLa0 : type_of% @zPane_len ∧ type_of% @zPlan_len ∧ type_of% @zPane_drop ∧ type_of% @zPlan_drop := ⟨@zPane_len, @zPlan_len, @zPane_drop, @zPlan_drop⟩

theorem e_eqPane : Enters Tryd.prog 54 := enters_of Tryd.func54 (by kernel_rfl) (by kernel_rfl)
theorem eqPane_c (q : Pane) : ACalls Tryd.prog 54 [.agg q.cs, .agg q.cs] [] [] (fun r L => r = .val (.bool true) ∧ L = []) := by
  refine acalls_tm T_tt Tryd.func54 rfl e_eqPane 23 rfl (W8 _ _ .any .any .any .any .any .any (W8 .any .any .any .any .any .any .any .any (W8 .any .any .any .any .any .any .any .any [.any]))) rfl (rv := [.tmp 4]) rfl (sx_sound (bl := []) T_tt _ _ _ ?_)
  simp (disch := omega) only [SX0, SX1, SX2, SX3, SX4, SX5, SX6, SX7, SX8, SU0, SY0, SY1, Nat.reduceAdd, Nat.reduceMul, Nat.reduceSub, Nat.reduceLeDiff, Nat.reduceEqDiff, Nat.reduceLT, Nat.reduceBEq, ↓reduceIte, Int.reduceLE, Int.reduceLT, Int.reduceToNat, Int.reduceNeg, reduceCtorEq, Int.reduceEq, SF0, SF1, SF2, DCg0, DCe0, DCe1, DCe2, DDb0, DBc0, DBc1, DLa0]
  exact fin_val ⟨rfl, rfl⟩

end Go.Pc
