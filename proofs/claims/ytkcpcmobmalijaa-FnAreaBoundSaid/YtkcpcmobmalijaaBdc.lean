/- What is drawn for the laws of the bounds and of rows of panes. -/
import Derived.Test.YtkcpcmobmalijaaBda
import Derived.Test.YtkcpcmobmalijaaJa
set_option linter.unusedSimpArgs false
set_option linter.unusedVariables false
namespace Go.Pc
open Go Go.Proofs

theorem fin_work {R : AV → List OB → Prop} {s : AS} (k : Work) (r : Nat) (hL : s.L[r]? = some (.vec 4 (k.Ps.map Pane.cs))) (hR : R (.agg k.cs) []) : Fin [] 0 R s (.agg [.val (.int .i64 k.W), .val (.int .i64 k.H), .os r 4 0 k.Ps.length]) := by
  refine fin_frz (r := r) (k := 4) (es := k.Ps.map Pane.cs) hL (by simp) ?_
  simp only [AV.frz, frzL, if_true, Nat.zero_add, true_and, List.length_map, Nat.le_refl, List.drop_zero]
  rw [List.take_of_length_le (by simp)]
  exact fin_free (by simp [AV.free, freeL]) hR
theorem e_drawAreaBound : Enters Try.prog 48 := enters_of Try.func48 (by kernel_rfl) (by kernel_rfl)
theorem drawAreaBound_c (xs : List Int) (hx : ∀ x ∈ xs, 0 ≤ x ∧ x < 256) : ACalls Try.prog 48 [.sl (bys xs)] [] [] (fun r L => L = [] ∧ ∃ (k : Work), r = .agg k.cs ∧ k.SmallS) := by
  have hx' := take_byte hx
  have hl' : (xs.take 2000).length ≤ 2000 := by rw [List.length_take]; omega
  refine acalls_tm T_tt Try.func48 rfl e_drawAreaBound 5 rfl [_, .any, .any, .any, .any, .any] rfl (rv := [.cell 2 25]) rfl (sx_sound (bl := []) T_tt _ _ _ ?_)
  simp (disch := omega) only [SX0, SX1, SX2, SX3, SX4, SX5, SX6, SX7, SX8, SU0, SY0, SY1, Nat.reduceAdd, Nat.reduceMul, Nat.reduceSub, Nat.reduceLeDiff, Nat.reduceEqDiff, Nat.reduceLT, Nat.reduceBEq, ↓reduceIte, Int.reduceLE, Int.reduceLT, Int.reduceToNat, Int.reduceNeg, reduceCtorEq, Int.reduceEq, SF0, SF1, SF2, DDe0, DCg0, DCe0, DCe1, DCe2, DDb0, DBc0, DBc1, DAlg0, DAlh0, DHb0, DHb1, DHa0]
  refine acall_own (newReader_c xs) [] [] (by simp only [SX0, SX1, SX2, SX3, SX4, SX5, SX6, SX7, SX8, SU0, SY0, SY1, Nat.reduceAdd, Nat.reduceMul, Nat.reduceSub, Nat.reduceLeDiff, Nat.reduceEqDiff, Nat.reduceLT, Nat.reduceBEq, ↓reduceIte, Int.reduceLE, Int.reduceLT, Int.reduceToNat, Int.reduceNeg, reduceCtorEq, Int.reduceEq, SF0, SF1, SF2, DDe0, DCg0, DCe0, DCe1, DCe2, DDb0, DBc0, DBc1, DAlg0, DAlh0, DHb0, DHb1, DHa0, SX0]) (by decide) (by decide) (by rfl) (by simp only [SX0, SX1, SX2, SX3, SX4, SX5, SX6, SX7, SX8, SU0, SY0, SY1, Nat.reduceAdd, Nat.reduceMul, Nat.reduceSub, Nat.reduceLeDiff, Nat.reduceEqDiff, Nat.reduceLT, Nat.reduceBEq, ↓reduceIte, Int.reduceLE, Int.reduceLT, Int.reduceToNat, Int.reduceNeg, reduceCtorEq, Int.reduceEq, SF0, SF1, SF2, DDe0, DCg0, DCe0, DCe1, DCe2, DDb0, DBc0, DBc1, DAlg0, DAlh0, DHb0, DHb1, DHa0, SX0]) ?_
  rintro _ _ ⟨rfl, rfl⟩
  simp (disch := omega) only [SX0, SX1, SX2, SX3, SX4, SX5, SX6, SX7, SX8, SU0, SY0, SY1, Nat.reduceAdd, Nat.reduceMul, Nat.reduceSub, Nat.reduceLeDiff, Nat.reduceEqDiff, Nat.reduceLT, Nat.reduceBEq, ↓reduceIte, Int.reduceLE, Int.reduceLT, Int.reduceToNat, Int.reduceNeg, reduceCtorEq, Int.reduceEq, SF0, SF1, SF2, DDe0, DCg0, DCe0, DCe1, DCe2, DDb0, DBc0, DBc1, DAlg0, DAlh0, DHb0, DHb1, DHa0]
  refine acall_own (anySheetWork_c _ 0 true hx' hl' (by omega)) [1] [] (by simp only [SX0, SX1, SX2, SX3, SX4, SX5, SX6, SX7, SX8, SU0, SY0, SY1, Nat.reduceAdd, Nat.reduceMul, Nat.reduceSub, Nat.reduceLeDiff, Nat.reduceEqDiff, Nat.reduceLT, Nat.reduceBEq, ↓reduceIte, Int.reduceLE, Int.reduceLT, Int.reduceToNat, Int.reduceNeg, reduceCtorEq, Int.reduceEq, SF0, SF1, SF2, DDe0, DCg0, DCe0, DCe1, DCe2, DDb0, DBc0, DBc1, DAlg0, DAlh0, DHb0, DHb1, DHa0, SX0]) (by decide) (by decide) (by rfl) (by simp only [SX0, SX1, SX2, SX3, SX4, SX5, SX6, SX7, SX8, SU0, SY0, SY1, Nat.reduceAdd, Nat.reduceMul, Nat.reduceSub, Nat.reduceLeDiff, Nat.reduceEqDiff, Nat.reduceLT, Nat.reduceBEq, ↓reduceIte, Int.reduceLE, Int.reduceLT, Int.reduceToNat, Int.reduceNeg, reduceCtorEq, Int.reduceEq, SF0, SF1, SF2, DDe0, DCg0, DCe0, DCe1, DCe2, DDb0, DBc0, DBc1, DAlg0, DAlh0, DHb0, DHb1, DHa0, SX0]) ?_
  rintro _ _ ⟨k, p1, rfl, rfl, h1, h2, h3, h4, h5, h6⟩
  simp (disch := omega) only [SX0, SX1, SX2, SX3, SX4, SX5, SX6, SX7, SX8, SU0, SY0, SY1, Nat.reduceAdd, Nat.reduceMul, Nat.reduceSub, Nat.reduceLeDiff, Nat.reduceEqDiff, Nat.reduceLT, Nat.reduceBEq, ↓reduceIte, Int.reduceLE, Int.reduceLT, Int.reduceToNat, Int.reduceNeg, reduceCtorEq, Int.reduceEq, SF0, SF1, SF2, DDe0, DCg0, DCe0, DCe1, DCe2, DDb0, DBc0, DBc1, DAlg0, DAlh0, DHb0, DHb1, DHa0]
  exact fin_work k 2 rfl ⟨rfl, k, rfl, h1, h2, h3, h4⟩

end Go.Pc
