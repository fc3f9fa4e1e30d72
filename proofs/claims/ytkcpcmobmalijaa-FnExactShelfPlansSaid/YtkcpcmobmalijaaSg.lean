/- Two steps exchanged. -/
import Derived.Test.YtkcpcmobmalijaaSb
import Derived.Test.YtkcpcmobmalijaaSa
import Derived.Test.YtkcpcmobmalijaaHb
set_option linter.unusedSimpArgs false
set_option linter.unusedVariables false
namespace Go.Pc
open Go Go.Proofs

/-- One after the other. -/
def chain (ks : List (Int × Int)) : List Int → List Int → Prop
  | _, [] => True
  | D, n :: l => canCut ks D n ∧ chain ks (D ++ [n]) l
theorem e_copyInts : Enters Try.prog 155 := enters_of Try.func155 (by kernel_rfl) (by kernel_rfl)
theorem copyInts_c (l : List Int) (hl : l.length ≤ 100000) : ACalls Try.prog 155 [.sl (ints l)] [] [] (fun r L => r = .os 0 1 0 l.length ∧ L = [.vec 1 (ints l)]) := by
  refine acalls_tm T_tt Try.func155 rfl e_copyInts 5 rfl [_, .any, .any, .any, .any, .any] rfl (rv := [.tmp 2]) rfl (sx_sound (bl := [3]) T_tt _ _ _ ?_)
  simp (disch := omega) only [SX0, SX1, SX2, SX3, SX4, SX5, SX6, SX7, SX8, SU0, SY0, SY1, Nat.reduceAdd, Nat.reduceMul, Nat.reduceSub, Nat.reduceLeDiff, Nat.reduceEqDiff, Nat.reduceLT, Nat.reduceBEq, ↓reduceIte, Int.reduceLE, Int.reduceLT, Int.reduceToNat, Int.reduceNeg, reduceCtorEq, Int.reduceEq, SF0, SF1, SF2, DCg0, DCe0, DCe1, DCe2, DDb0, DBc0, DBc1, DHb0, DHb1, DHa0]
  refine req intRows ?_
  simp (disch := omega) only [SX0, SX1, SX2, SX3, SX4, SX5, SX6, SX7, SX8, SU0, SY0, SY1, Nat.reduceAdd, Nat.reduceMul, Nat.reduceSub, Nat.reduceLeDiff, Nat.reduceEqDiff, Nat.reduceLT, Nat.reduceBEq, ↓reduceIte, Int.reduceLE, Int.reduceLT, Int.reduceToNat, Int.reduceNeg, reduceCtorEq, Int.reduceEq, SF0, SF1, SF2, DCg0, DCe0, DCe1, DCe2, DDb0, DBc0, DBc1, DHb0, DHb1, DHa0]
  refine req (by omega) ?_
  simp (disch := omega) only [SX0, SX1, SX2, SX3, SX4, SX5, SX6, SX7, SX8, SU0, SY0, SY1, Nat.reduceAdd, Nat.reduceMul, Nat.reduceSub, Nat.reduceLeDiff, Nat.reduceEqDiff, Nat.reduceLT, Nat.reduceBEq, ↓reduceIte, Int.reduceLE, Int.reduceLT, Int.reduceToNat, Int.reduceNeg, reduceCtorEq, Int.reduceEq, SF0, SF1, SF2, DCg0, DCe0, DCe1, DCe2, DDb0, DBc0, DBc1, DHb0, DHb1, DHa0]
  exact fin_ks [0] (.os 0 1 0 l.length) [.vec 1 (ints l)] ⟨rfl, rfl⟩ (by simp [AV.ren, nameK]) (by simp [keepL, nameK, OB.ren, ints]) (by simp) (by simp) (by simp)

end Go.Pc
