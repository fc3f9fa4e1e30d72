/- What is drawn for the law of parts. -/
import Derived.Test.YthdbcghlcipijaaDd
set_option linter.unusedSimpArgs false
set_option linter.unusedVariables false
namespace Go.Pc
open Go Go.Proofs

theorem take_byte {xs : List Int} (hx : ∀ x ∈ xs, 0 ≤ x ∧ x < 256) : ∀ x ∈ xs.take 2000, 0 ≤ x ∧ x < 256 := fun x h => hx x (List.mem_of_mem_take h)

theorem e_drawBoxOf : Enters Try.prog 41 := enters_of Try.func41 (by kernel_rfl) (by kernel_rfl)
set_option maxHeartbeats 4000000 in
theorem drawBoxOf_c (xs : List Int) (hx : ∀ x ∈ xs, 0 ≤ x ∧ x < 256) : ACalls Try.prog 41 [.sl (bys xs)] [] [] (fun r L => L = [] ∧ ∃ (k : Work) (q : Plan) (n : Int), r = .tup [.agg k.cs, .agg q.cs, .val (.int .i64 n)] ∧ k.Small ∧ q.Small ∧ -1 ≤ n ∧ n ≤ 100) := by
  have hx' := take_byte hx
  have hl' : (xs.take 2000).length ≤ 2000 := by rw [List.length_take]; omega
  refine acalls_tm T_tt Try.func41 rfl e_drawBoxOf 23 rfl (W8 _ .any .any .any .any .any .any .any (W8 .any .any .any .any .any .any .any .any (W8 .any .any .any .any .any .any .any .any []))) rfl (rv := [.cell 2 47, .cell 3 35, .tmp 4]) rfl (sx_sound (bl := []) T_tt _ _ _ ?_)
  simp (disch := omega) only [SX0, SX1, SX2, SX3, SX4, SX5, SX6, SX7, SX8, SU0, SY0, SY1, Nat.reduceAdd, Nat.reduceMul, Nat.reduceSub, Nat.reduceLeDiff, Nat.reduceEqDiff, Nat.reduceLT, Nat.reduceBEq, ↓reduceIte, Int.reduceLE, Int.reduceLT, Int.reduceToNat, Int.reduceNeg, reduceCtorEq, Int.reduceEq, SF0, SF1, SF2, DDc0, DCg0, DCe0, DCa0, DCa1, DDb0, DBc0, DBa0]
  refine acall_own (newReader_c xs) [] [] (by simp only [SX0, SX1, SX2, SX3, SX4, SX5, SX6, SX7, SX8, SU0, SY0, SY1, Nat.reduceAdd, Nat.reduceMul, Nat.reduceSub, Nat.reduceLeDiff, Nat.reduceEqDiff, Nat.reduceLT, Nat.reduceBEq, ↓reduceIte, Int.reduceLE, Int.reduceLT, Int.reduceToNat, Int.reduceNeg, reduceCtorEq, Int.reduceEq, SF0, SF1, SF2, DDc0, DCg0, DCe0, DCa0, DCa1, DDb0, DBc0, DBa0, SX0]) (by decide) (by decide) (by rfl) (by simp only [SX0, SX1, SX2, SX3, SX4, SX5, SX6, SX7, SX8, SU0, SY0, SY1, Nat.reduceAdd, Nat.reduceMul, Nat.reduceSub, Nat.reduceLeDiff, Nat.reduceEqDiff, Nat.reduceLT, Nat.reduceBEq, ↓reduceIte, Int.reduceLE, Int.reduceLT, Int.reduceToNat, Int.reduceNeg, reduceCtorEq, Int.reduceEq, SF0, SF1, SF2, DDc0, DCg0, DCe0, DCa0, DCa1, DDb0, DBc0, DBa0, SX0]) ?_
  rintro _ _ ⟨rfl, rfl⟩
  simp (disch := omega) only [SX0, SX1, SX2, SX3, SX4, SX5, SX6, SX7, SX8, SU0, SY0, SY1, Nat.reduceAdd, Nat.reduceMul, Nat.reduceSub, Nat.reduceLeDiff, Nat.reduceEqDiff, Nat.reduceLT, Nat.reduceBEq, ↓reduceIte, Int.reduceLE, Int.reduceLT, Int.reduceToNat, Int.reduceNeg, reduceCtorEq, Int.reduceEq, SF0, SF1, SF2, DDc0, DCg0, DCe0, DCa0, DCa1, DDb0, DBc0, DBa0]
  refine acall_own (anyPlan_c _ 0 hx' hl' (by omega)) [2] [] (by simp only [SX0, SX1, SX2, SX3, SX4, SX5, SX6, SX7, SX8, SU0, SY0, SY1, Nat.reduceAdd, Nat.reduceMul, Nat.reduceSub, Nat.reduceLeDiff, Nat.reduceEqDiff, Nat.reduceLT, Nat.reduceBEq, ↓reduceIte, Int.reduceLE, Int.reduceLT, Int.reduceToNat, Int.reduceNeg, reduceCtorEq, Int.reduceEq, SF0, SF1, SF2, DDc0, DCg0, DCe0, DCa0, DCa1, DDb0, DBc0, DBa0, SX0]) (by decide) (by decide) (by rfl) (by simp only [SX0, SX1, SX2, SX3, SX4, SX5, SX6, SX7, SX8, SU0, SY0, SY1, Nat.reduceAdd, Nat.reduceMul, Nat.reduceSub, Nat.reduceLeDiff, Nat.reduceEqDiff, Nat.reduceLT, Nat.reduceBEq, ↓reduceIte, Int.reduceLE, Int.reduceLT, Int.reduceToNat, Int.reduceNeg, reduceCtorEq, Int.reduceEq, SF0, SF1, SF2, DDc0, DCg0, DCe0, DCa0, DCa1, DDb0, DBc0, DBa0, SX0]) ?_
  rintro _ _ ⟨k, q, p1, rfl, rfl, hk, hq, hp1, hkw⟩
  simp (disch := omega) only [SX0, SX1, SX2, SX3, SX4, SX5, SX6, SX7, SX8, SU0, SY0, SY1, Nat.reduceAdd, Nat.reduceMul, Nat.reduceSub, Nat.reduceLeDiff, Nat.reduceEqDiff, Nat.reduceLT, Nat.reduceBEq, ↓reduceIte, Int.reduceLE, Int.reduceLT, Int.reduceToNat, Int.reduceNeg, reduceCtorEq, Int.reduceEq, SF0, SF1, SF2, DDc0, DCg0, DCe0, DCa0, DCa1, DDb0, DBc0, DBa0]
  refine awp_float (bl := []) T_tt mixed [0, 1, 2, 3, 4] [0, 1, 2, 3, 5] [(4, [(3, .f 18)]), (6, [(5, .f 20)]), (7, []), (8, [(2, .f 17)]), (9, [(0, .f 15)]), (10, [(1, .f 16)]), (11, [])] [] (by kernel_rfl) (by kernel_rfl) ?_
  simp (disch := omega) only [SX0, SX1, SX2, SX3, SX4, SX5, SX6, SX7, SX8, SU0, SY0, SY1, Nat.reduceAdd, Nat.reduceMul, Nat.reduceSub, Nat.reduceLeDiff, Nat.reduceEqDiff, Nat.reduceLT, Nat.reduceBEq, ↓reduceIte, Int.reduceLE, Int.reduceLT, Int.reduceToNat, Int.reduceNeg, reduceCtorEq, Int.reduceEq, SF0, SF1, SF2, DDc0, DCg0, DCe0, DCa0, DCa1, DDb0, DBc0, DBa0]
  refine pick_call hx' hl' (by omega) rfl fun u hu1 hu2 hu3 => ?_
  have hu2 := hu2 (by omega)
  simp (disch := omega) only [SX0, SX1, SX2, SX3, SX4, SX5, SX6, SX7, SX8, SU0, SY0, SY1, Nat.reduceAdd, Nat.reduceMul, Nat.reduceSub, Nat.reduceLeDiff, Nat.reduceEqDiff, Nat.reduceLT, Nat.reduceBEq, ↓reduceIte, Int.reduceLE, Int.reduceLT, Int.reduceToNat, Int.reduceNeg, reduceCtorEq, Int.reduceEq, SF0, SF1, SF2, DDc0, DCg0, DCe0, DCa0, DCa1, DDb0, DBc0, DBa0]
  refine pick_call hx' hl' (by omega) rfl fun v hv1 hv2 hv3 => ?_
  have hv2 := hv2 (by omega)
  simp (disch := omega) only [SX0, SX1, SX2, SX3, SX4, SX5, SX6, SX7, SX8, SU0, SY0, SY1, Nat.reduceAdd, Nat.reduceMul, Nat.reduceSub, Nat.reduceLeDiff, Nat.reduceEqDiff, Nat.reduceLT, Nat.reduceBEq, ↓reduceIte, Int.reduceLE, Int.reduceLT, Int.reduceToNat, Int.reduceNeg, reduceCtorEq, Int.reduceEq, SF0, SF1, SF2, DDc0, DCg0, DCe0, DCa0, DCa1, DDb0, DBc0, DBa0]
  refine one_call hx' hl' (by omega) (l := [0, 1, u, v, -1]) (by simp) rfl rfl fun n hn => ?_
  have hn' : -1 ≤ n ∧ n ≤ 100 := by simp at hn; omega
  simp (disch := omega) only [SX0, SX1, SX2, SX3, SX4, SX5, SX6, SX7, SX8, SU0, SY0, SY1, Nat.reduceAdd, Nat.reduceMul, Nat.reduceSub, Nat.reduceLeDiff, Nat.reduceEqDiff, Nat.reduceLT, Nat.reduceBEq, ↓reduceIte, Int.reduceLE, Int.reduceLT, Int.reduceToNat, Int.reduceNeg, reduceCtorEq, Int.reduceEq, SF0, SF1, SF2, DDc0, DCg0, DCe0, DCa0, DCa1, DDb0, DBc0, DBa0]
  exact fin_free (by simp [AV.free, freeL, Work.free, Plan.free]) ⟨rfl, k, q, n, rfl, hk, hq, hn'⟩
end Go.Pc
