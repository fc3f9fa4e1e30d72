/- What is drawn for the laws of the bounds and of rows of panes. -/
import Derived.Test.YtkcpcmobmalijaaBda
import Derived.Test.YtkcpcmobmalijaaJa
set_option linter.unusedSimpArgs false
set_option linter.unusedVariables false
namespace Go.Pc
open Go Go.Proofs

theorem fin_workt {R : AV → List OB → Prop} {s : AS} (k : Work) (r : Nat) (x y : Int) (hL : s.L[r]? = some (.vec 4 (k.Ps.map Pane.cs))) (hR : R (.tup [.agg k.cs, .val (.int .i64 x), .val (.int .i64 y)]) []) : Fin [] 0 R s (.tup [.agg [.val (.int .i64 k.W), .val (.int .i64 k.H), .os r 4 0 k.Ps.length], .val (.int .i64 x), .val (.int .i64 y)]) := by
  refine fin_frz (r := r) (k := 4) (es := k.Ps.map Pane.cs) hL (by simp) ?_
  simp only [AV.frz, frzL, if_true, Nat.zero_add, true_and, List.length_map, Nat.le_refl, List.drop_zero]
  rw [List.take_of_length_le (by simp)]
  exact fin_free (by simp [AV.free, freeL]) hR

theorem e_drawScaleBound : Enters Try.prog 50 := enters_of Try.func50 (by kernel_rfl) (by kernel_rfl)
theorem drawScaleBound_c (xs : List Int) (hx : ∀ x ∈ xs, 0 ≤ x ∧ x < 256) : ACalls Try.prog 50 [.sl (bys xs)] [] [] (fun r L => L = [] ∧ ∃ (k : Work) (n m : Int), r = .tup [.agg k.cs, .val (.int .i64 n), .val (.int .i64 m)] ∧ k.SmallS ∧ (0 ≤ n ∧ n ≤ 7) ∧ (0 ≤ m ∧ m ≤ 7)) := by
  have hx' := take_byte hx
  have hl' : (xs.take 2000).length ≤ 2000 := by rw [List.length_take]; omega
  refine acalls_tm T_tt Try.func50 rfl e_drawScaleBound 18 rfl (W8 _ .any .any .any .any .any .any .any (W8 .any .any .any .any .any .any .any .any [.any, .any, .any])) rfl (rv := [.cell 2 25, .tmp 3, .tmp 4]) rfl (sx_sound (bl := []) T_tt _ _ _ ?_)
  simp (disch := omega) only [SX0, SX1, SX2, SX3, SX4, SX5, SX6, SX7, SX8, SU0, SY0, SY1, Nat.reduceAdd, Nat.reduceMul, Nat.reduceSub, Nat.reduceLeDiff, Nat.reduceEqDiff, Nat.reduceLT, Nat.reduceBEq, ↓reduceIte, Int.reduceLE, Int.reduceLT, Int.reduceToNat, Int.reduceNeg, reduceCtorEq, Int.reduceEq, SF0, SF1, SF2, DDe0, DCg0, DCe0, DCe1, DCe2, DDb0, DBc0, DBc1, DAlg0, DAlh0, DHb0, DHb1, DHa0]
  refine acall_own (newReader_c xs) [] [] (by simp only [SX0, SX1, SX2, SX3, SX4, SX5, SX6, SX7, SX8, SU0, SY0, SY1, Nat.reduceAdd, Nat.reduceMul, Nat.reduceSub, Nat.reduceLeDiff, Nat.reduceEqDiff, Nat.reduceLT, Nat.reduceBEq, ↓reduceIte, Int.reduceLE, Int.reduceLT, Int.reduceToNat, Int.reduceNeg, reduceCtorEq, Int.reduceEq, SF0, SF1, SF2, DDe0, DCg0, DCe0, DCe1, DCe2, DDb0, DBc0, DBc1, DAlg0, DAlh0, DHb0, DHb1, DHa0, SX0]) (by decide) (by decide) (by rfl) (by simp only [SX0, SX1, SX2, SX3, SX4, SX5, SX6, SX7, SX8, SU0, SY0, SY1, Nat.reduceAdd, Nat.reduceMul, Nat.reduceSub, Nat.reduceLeDiff, Nat.reduceEqDiff, Nat.reduceLT, Nat.reduceBEq, ↓reduceIte, Int.reduceLE, Int.reduceLT, Int.reduceToNat, Int.reduceNeg, reduceCtorEq, Int.reduceEq, SF0, SF1, SF2, DDe0, DCg0, DCe0, DCe1, DCe2, DDb0, DBc0, DBc1, DAlg0, DAlh0, DHb0, DHb1, DHa0, SX0]) ?_
  rintro _ _ ⟨rfl, rfl⟩
  simp (disch := omega) only [SX0, SX1, SX2, SX3, SX4, SX5, SX6, SX7, SX8, SU0, SY0, SY1, Nat.reduceAdd, Nat.reduceMul, Nat.reduceSub, Nat.reduceLeDiff, Nat.reduceEqDiff, Nat.reduceLT, Nat.reduceBEq, ↓reduceIte, Int.reduceLE, Int.reduceLT, Int.reduceToNat, Int.reduceNeg, reduceCtorEq, Int.reduceEq, SF0, SF1, SF2, DDe0, DCg0, DCe0, DCe1, DCe2, DDb0, DBc0, DBc1, DAlg0, DAlh0, DHb0, DHb1, DHa0]
  refine pick_call hx' hl' (by omega) rfl fun c hc1 hc2 hc3 => ?_
  simp (disch := omega) only [SX0, SX1, SX2, SX3, SX4, SX5, SX6, SX7, SX8, SU0, SY0, SY1, Nat.reduceAdd, Nat.reduceMul, Nat.reduceSub, Nat.reduceLeDiff, Nat.reduceEqDiff, Nat.reduceLT, Nat.reduceBEq, ↓reduceIte, Int.reduceLE, Int.reduceLT, Int.reduceToNat, Int.reduceNeg, reduceCtorEq, Int.reduceEq, SF0, SF1, SF2, DDe0, DCg0, DCe0, DCe1, DCe2, DDb0, DBc0, DBc1, DAlg0, DAlh0, DHb0, DHb1, DHa0]
  refine acall_own (anySheetWork_c _ (0 + 1) (decide (c = 0)) hx' hl' (by omega)) [1] [] (by simp only [SX0, SX1, SX2, SX3, SX4, SX5, SX6, SX7, SX8, SU0, SY0, SY1, Nat.reduceAdd, Nat.reduceMul, Nat.reduceSub, Nat.reduceLeDiff, Nat.reduceEqDiff, Nat.reduceLT, Nat.reduceBEq, ↓reduceIte, Int.reduceLE, Int.reduceLT, Int.reduceToNat, Int.reduceNeg, reduceCtorEq, Int.reduceEq, SF0, SF1, SF2, DDe0, DCg0, DCe0, DCe1, DCe2, DDb0, DBc0, DBc1, DAlg0, DAlh0, DHb0, DHb1, DHa0, SX0]) (by decide) (by decide) (by rfl) (by simp only [SX0, SX1, SX2, SX3, SX4, SX5, SX6, SX7, SX8, SU0, SY0, SY1, Nat.reduceAdd, Nat.reduceMul, Nat.reduceSub, Nat.reduceLeDiff, Nat.reduceEqDiff, Nat.reduceLT, Nat.reduceBEq, ↓reduceIte, Int.reduceLE, Int.reduceLT, Int.reduceToNat, Int.reduceNeg, reduceCtorEq, Int.reduceEq, SF0, SF1, SF2, DDe0, DCg0, DCe0, DCe1, DCe2, DDb0, DBc0, DBc1, DAlg0, DAlh0, DHb0, DHb1, DHa0, SX0]) ?_
  rintro _ _ ⟨k, p1, rfl, rfl, h1, h2, h3, h4, h5, h6⟩
  simp (disch := omega) only [SX0, SX1, SX2, SX3, SX4, SX5, SX6, SX7, SX8, SU0, SY0, SY1, Nat.reduceAdd, Nat.reduceMul, Nat.reduceSub, Nat.reduceLeDiff, Nat.reduceEqDiff, Nat.reduceLT, Nat.reduceBEq, ↓reduceIte, Int.reduceLE, Int.reduceLT, Int.reduceToNat, Int.reduceNeg, reduceCtorEq, Int.reduceEq, SF0, SF1, SF2, DDe0, DCg0, DCe0, DCe1, DCe2, DDb0, DBc0, DBc1, DAlg0, DAlh0, DHb0, DHb1, DHa0]
  refine one_call hx' hl' (by omega) (l := [1, 2, 3, 4, 6, 7]) (by simp) rfl rfl fun n hn => ?_
  have hn' : 0 ≤ n ∧ n ≤ 7 := by simp at hn; omega
  simp (disch := omega) only [SX0, SX1, SX2, SX3, SX4, SX5, SX6, SX7, SX8, SU0, SY0, SY1, Nat.reduceAdd, Nat.reduceMul, Nat.reduceSub, Nat.reduceLeDiff, Nat.reduceEqDiff, Nat.reduceLT, Nat.reduceBEq, ↓reduceIte, Int.reduceLE, Int.reduceLT, Int.reduceToNat, Int.reduceNeg, reduceCtorEq, Int.reduceEq, SF0, SF1, SF2, DDe0, DCg0, DCe0, DCe1, DCe2, DDb0, DBc0, DBc1, DAlg0, DAlh0, DHb0, DHb1, DHa0]
  refine one_call hx' hl' (by omega) (l := [1, 2, 3, 4, 6, 0]) (by simp) rfl rfl fun m hm => ?_
  have hm' : 0 ≤ m ∧ m ≤ 7 := by simp at hm; omega
  simp (disch := omega) only [SX0, SX1, SX2, SX3, SX4, SX5, SX6, SX7, SX8, SU0, SY0, SY1, Nat.reduceAdd, Nat.reduceMul, Nat.reduceSub, Nat.reduceLeDiff, Nat.reduceEqDiff, Nat.reduceLT, Nat.reduceBEq, ↓reduceIte, Int.reduceLE, Int.reduceLT, Int.reduceToNat, Int.reduceNeg, reduceCtorEq, Int.reduceEq, SF0, SF1, SF2, DDe0, DCg0, DCe0, DCe1, DCe2, DDb0, DBc0, DBc1, DAlg0, DAlh0, DHb0, DHb1, DHa0]
  exact fin_workt k 2 n m rfl ⟨rfl, k, n, m, rfl, ⟨h1, h2, h3, h4⟩, hn', hm'⟩

end Go.Pc
