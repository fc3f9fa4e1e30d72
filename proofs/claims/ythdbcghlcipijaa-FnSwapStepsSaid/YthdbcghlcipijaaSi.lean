/- The law of exchanged steps: exchanges are undone. -/
import Derived.Test.YthdbcghlcipijaaSg
import Derived.Test.YthdbcghlcipijaaSd
import Derived.Test.YthdbcghlcipijaaRow
set_option linter.unusedSimpArgs false
set_option linter.unusedVariables false
namespace Go.Pc
open Go Go.Proofs

theorem e_drawSwapSteps : Enters Try.prog 24 := enters_of Try.func24 (by kernel_rfl) (by kernel_rfl)
set_option maxHeartbeats 4000000 in
theorem drawSwapSteps_c (xs : List Int) (hx : ∀ x ∈ xs, 0 ≤ x ∧ x < 256) : ACalls Try.prog 24 [.sl (bys xs)] [] [] (fun r L => L = [] ∧ ∃ (p : Plan) (S : List Int) (a : Int), r = .tup [.agg p.cs, .sl (ints S), .val (.int .i64 a)] ∧ S.length ≤ 300 ∧ -1 ≤ a ∧ a ≤ 400) := by
  have hx' := take_byte hx
  have hl' : (xs.take 2000).length ≤ 2000 := by rw [List.length_take]; omega
  refine acalls_tm T_tt Try.func24 rfl e_drawSwapSteps 28 rfl (W8 _ .any .any .any .any .any .any .any (W8 .any .any .any .any .any .any .any .any (W8 .any .any .any .any .any .any .any .any [.any, .any, .any, .any, .any]))) rfl (rv := [.cell 2 35, .tmp 3, .tmp 4]) rfl (sx_sound (bl := []) T_tt _ _ _ ?_)
  simp (disch := omega) only [SX0, SX1, SX2, SX3, SX4, SX5, SX6, SX7, SX8, SU0, SY0, SY1, Nat.reduceAdd, Nat.reduceMul, Nat.reduceSub, Nat.reduceLeDiff, Nat.reduceEqDiff, Nat.reduceLT, Nat.reduceBEq, ↓reduceIte, Int.reduceLE, Int.reduceLT, Int.reduceToNat, Int.reduceNeg, reduceCtorEq, Int.reduceEq, SF0, SF1, SF2, DCg0, DCe0, DCa0, DCa1, DDb0, DBc0, DBa0, DHb0, DHb1, DHa0, DDc0]
  refine acall_own (newReader_c xs) [] [] (by simp only [SX0, SX1, SX2, SX3, SX4, SX5, SX6, SX7, SX8, SU0, SY0, SY1, Nat.reduceAdd, Nat.reduceMul, Nat.reduceSub, Nat.reduceLeDiff, Nat.reduceEqDiff, Nat.reduceLT, Nat.reduceBEq, ↓reduceIte, Int.reduceLE, Int.reduceLT, Int.reduceToNat, Int.reduceNeg, reduceCtorEq, Int.reduceEq, SF0, SF1, SF2, DCg0, DCe0, DCa0, DCa1, DDb0, DBc0, DBa0, DHb0, DHb1, DHa0, DDc0, SX0]) (by decide) (by decide) (by rfl) (by simp only [SX0, SX1, SX2, SX3, SX4, SX5, SX6, SX7, SX8, SU0, SY0, SY1, Nat.reduceAdd, Nat.reduceMul, Nat.reduceSub, Nat.reduceLeDiff, Nat.reduceEqDiff, Nat.reduceLT, Nat.reduceBEq, ↓reduceIte, Int.reduceLE, Int.reduceLT, Int.reduceToNat, Int.reduceNeg, reduceCtorEq, Int.reduceEq, SF0, SF1, SF2, DCg0, DCe0, DCa0, DCa1, DDb0, DBc0, DBa0, DHb0, DHb1, DHa0, DDc0, SX0]) ?_
  rintro _ _ ⟨rfl, rfl⟩
  simp (disch := omega) only [SX0, SX1, SX2, SX3, SX4, SX5, SX6, SX7, SX8, SU0, SY0, SY1, Nat.reduceAdd, Nat.reduceMul, Nat.reduceSub, Nat.reduceLeDiff, Nat.reduceEqDiff, Nat.reduceLT, Nat.reduceBEq, ↓reduceIte, Int.reduceLE, Int.reduceLT, Int.reduceToNat, Int.reduceNeg, reduceCtorEq, Int.reduceEq, SF0, SF1, SF2, DCg0, DCe0, DCa0, DCa1, DDb0, DBc0, DBa0, DHb0, DHb1, DHa0, DDc0]
  refine acall_own (cutsPlan_c _ 0 20 hx' hl' (by omega)) [1] [] (by simp only [SX0, SX1, SX2, SX3, SX4, SX5, SX6, SX7, SX8, SU0, SY0, SY1, Nat.reduceAdd, Nat.reduceMul, Nat.reduceSub, Nat.reduceLeDiff, Nat.reduceEqDiff, Nat.reduceLT, Nat.reduceBEq, ↓reduceIte, Int.reduceLE, Int.reduceLT, Int.reduceToNat, Int.reduceNeg, reduceCtorEq, Int.reduceEq, SF0, SF1, SF2, DCg0, DCe0, DCa0, DCa1, DDb0, DBc0, DBa0, DHb0, DHb1, DHa0, DDc0, SX0]) (by decide) (by decide) (by rfl) (by simp only [SX0, SX1, SX2, SX3, SX4, SX5, SX6, SX7, SX8, SU0, SY0, SY1, Nat.reduceAdd, Nat.reduceMul, Nat.reduceSub, Nat.reduceLeDiff, Nat.reduceEqDiff, Nat.reduceLT, Nat.reduceBEq, ↓reduceIte, Int.reduceLE, Int.reduceLT, Int.reduceToNat, Int.reduceNeg, reduceCtorEq, Int.reduceEq, SF0, SF1, SF2, DCg0, DCe0, DCa0, DCa1, DDb0, DBc0, DBa0, DHb0, DHb1, DHa0, DDc0, SX0]) ?_
  rintro _ _ ⟨k, q, p1, rfl, rfl, hk, hq, hp1, hkw⟩
  simp (disch := omega) only [SX0, SX1, SX2, SX3, SX4, SX5, SX6, SX7, SX8, SU0, SY0, SY1, Nat.reduceAdd, Nat.reduceMul, Nat.reduceSub, Nat.reduceLeDiff, Nat.reduceEqDiff, Nat.reduceLT, Nat.reduceBEq, ↓reduceIte, Int.reduceLE, Int.reduceLT, Int.reduceToNat, Int.reduceNeg, reduceCtorEq, Int.reduceEq, SF0, SF1, SF2, DCg0, DCe0, DCa0, DCa1, DDb0, DBc0, DBa0, DHb0, DHb1, DHa0, DDc0]
  refine acall_own (anySteps_c _ p1 hx' hl' (by omega) q) [1] [] (by simp only [SX0, SX1, SX2, SX3, SX4, SX5, SX6, SX7, SX8, SU0, SY0, SY1, Nat.reduceAdd, Nat.reduceMul, Nat.reduceSub, Nat.reduceLeDiff, Nat.reduceEqDiff, Nat.reduceLT, Nat.reduceBEq, ↓reduceIte, Int.reduceLE, Int.reduceLT, Int.reduceToNat, Int.reduceNeg, reduceCtorEq, Int.reduceEq, SF0, SF1, SF2, DCg0, DCe0, DCa0, DCa1, DDb0, DBc0, DBa0, DHb0, DHb1, DHa0, DDc0, SX0]) (by decide) (by decide) (by rfl) (by simp only [SX0, SX1, SX2, SX3, SX4, SX5, SX6, SX7, SX8, SU0, SY0, SY1, Nat.reduceAdd, Nat.reduceMul, Nat.reduceSub, Nat.reduceLeDiff, Nat.reduceEqDiff, Nat.reduceLT, Nat.reduceBEq, ↓reduceIte, Int.reduceLE, Int.reduceLT, Int.reduceToNat, Int.reduceNeg, reduceCtorEq, Int.reduceEq, SF0, SF1, SF2, DCg0, DCe0, DCa0, DCa1, DDb0, DBc0, DBa0, DHb0, DHb1, DHa0, DDc0, SX0]) ?_
  rintro _ _ ⟨S, p2, rfl, rfl, hS, hp2⟩
  simp (disch := omega) only [SX0, SX1, SX2, SX3, SX4, SX5, SX6, SX7, SX8, SU0, SY0, SY1, Nat.reduceAdd, Nat.reduceMul, Nat.reduceSub, Nat.reduceLeDiff, Nat.reduceEqDiff, Nat.reduceLT, Nat.reduceBEq, ↓reduceIte, Int.reduceLE, Int.reduceLT, Int.reduceToNat, Int.reduceNeg, reduceCtorEq, Int.reduceEq, SF0, SF1, SF2, DCg0, DCe0, DCa0, DCa1, DDb0, DBc0, DBa0, DHb0, DHb1, DHa0, DDc0]
  refine awp_float (bl := []) T_tt mixed [0, 1, 2, 3] [0, 1, 2, 3, 4, 5, 6] [(7, [(3, .f 22), (4, .f 23), (5, .f 24), (6, .f 25)]), (8, []), (9, [(2, .f 21)]), (10, [(0, .f 19)]), (11, [(1, .f 20)]), (12, [])] [] (by kernel_rfl) (by kernel_rfl) ?_
  simp (disch := omega) only [SX0, SX1, SX2, SX3, SX4, SX5, SX6, SX7, SX8, SU0, SY0, SY1, Nat.reduceAdd, Nat.reduceMul, Nat.reduceSub, Nat.reduceLeDiff, Nat.reduceEqDiff, Nat.reduceLT, Nat.reduceBEq, ↓reduceIte, Int.reduceLE, Int.reduceLT, Int.reduceToNat, Int.reduceNeg, reduceCtorEq, Int.reduceEq, SF0, SF1, SF2, DCg0, DCe0, DCa0, DCa1, DDb0, DBc0, DBa0, DHb0, DHb1, DHa0, DDc0]
  refine pick_call hx' hl' (by omega) rfl fun u hu1 hu2 hu3 => ?_
  have hu2 := hu2 (by omega)
  simp (disch := omega) only [SX0, SX1, SX2, SX3, SX4, SX5, SX6, SX7, SX8, SU0, SY0, SY1, Nat.reduceAdd, Nat.reduceMul, Nat.reduceSub, Nat.reduceLeDiff, Nat.reduceEqDiff, Nat.reduceLT, Nat.reduceBEq, ↓reduceIte, Int.reduceLE, Int.reduceLT, Int.reduceToNat, Int.reduceNeg, reduceCtorEq, Int.reduceEq, SF0, SF1, SF2, DCg0, DCe0, DCa0, DCa1, DDb0, DBc0, DBa0, DHb0, DHb1, DHa0, DDc0]
  refine one_call hx' hl' (by omega) (l := [u, 0, 1, -1]) (by simp) rfl rfl fun n hn => ?_
  have hn' : -1 ≤ n ∧ n ≤ 400 := by simp at hn; omega
  simp (disch := omega) only [SX0, SX1, SX2, SX3, SX4, SX5, SX6, SX7, SX8, SU0, SY0, SY1, Nat.reduceAdd, Nat.reduceMul, Nat.reduceSub, Nat.reduceLeDiff, Nat.reduceEqDiff, Nat.reduceLT, Nat.reduceBEq, ↓reduceIte, Int.reduceLE, Int.reduceLT, Int.reduceToNat, Int.reduceNeg, reduceCtorEq, Int.reduceEq, SF0, SF1, SF2, DCg0, DCe0, DCa0, DCa1, DDb0, DBc0, DBa0, DHb0, DHb1, DHa0, DDc0]
  exact fin_free (by simp [AV.free, freeL, Plan.free]) ⟨rfl, q, S, n, rfl, hS, hn'.1, hn'.2⟩

theorem equalInts_self2 (a : List Int) (ha : a.length < 2 ^ 40) : ACalls Try.prog 22 [.sl (ints a), .sl (ints a)] [] [] (fun r L => r = .val (.bool true) ∧ L = []) := (equalInts_c a a ha ha).mono fun r L ⟨h1, h2⟩ => ⟨by rw [h1, decide_eq_true rfl], h2⟩

theorem e_fnSwapSteps : Enters Try.prog 5 := enters_of Try.func5 (by kernel_rfl) (by kernel_rfl)
set_option maxRecDepth 8000 in
set_option maxHeartbeats 4000000 in
theorem fnSwapSteps_c : LawC 5 := by
  intro xs hx hl
  refine acalls_tm T_tt Try.func5 rfl e_fnSwapSteps 91 rfl (W8 _ .any .any .any .any .any .any .any (W8 .any .any .any .any .any .any .any .any (W8 .any .any .any .any .any .any .any .any (W8 .any .any .any .any .any .any .any .any (W8 .any .any .any .any .any .any .any .any (W8 .any .any .any .any .any .any .any .any (W8 .any .any .any .any .any .any .any .any (W8 .any .any .any .any .any .any .any .any (W8 .any .any .any .any .any .any .any .any (W8 .any .any .any .any .any .any .any .any (W8 .any .any .any .any .any .any .any .any [.any, .any, .any, .any]))))))))))) rfl (rv := [.tmp 2]) rfl (sx_sound (bl := []) T_tt _ _ _ ?_)
  simp (disch := omega) only [SX0, SX1, SX2, SX3, SX4, SX5, SX6, SX7, SX8, SU0, SY0, SY1, Nat.reduceAdd, Nat.reduceMul, Nat.reduceSub, Nat.reduceLeDiff, Nat.reduceEqDiff, Nat.reduceLT, Nat.reduceBEq, ↓reduceIte, Int.reduceLE, Int.reduceLT, Int.reduceToNat, Int.reduceNeg, reduceCtorEq, Int.reduceEq, SF0, SF1, SF2, DCg0, DCe0, DCa0, DCa1, DDb0, DBc0, DBa0, DHb0, DHb1, DHa0, DDc0, bysLen]
  refine br_dec (fun h1 => ?_) (fun h1 => ?_)
  · simp (disch := omega) only [SX0, SX1, SX2, SX3, SX4, SX5, SX6, SX7, SX8, SU0, SY0, SY1, Nat.reduceAdd, Nat.reduceMul, Nat.reduceSub, Nat.reduceLeDiff, Nat.reduceEqDiff, Nat.reduceLT, Nat.reduceBEq, ↓reduceIte, Int.reduceLE, Int.reduceLT, Int.reduceToNat, Int.reduceNeg, reduceCtorEq, Int.reduceEq, SF0, SF1, SF2, DCg0, DCe0, DCa0, DCa1, DDb0, DBc0, DBa0, DHb0, DHb1, DHa0, DDc0]
    exact fin_val ⟨rfl, rfl⟩
  simp (disch := omega) only [SX0, SX1, SX2, SX3, SX4, SX5, SX6, SX7, SX8, SU0, SY0, SY1, Nat.reduceAdd, Nat.reduceMul, Nat.reduceSub, Nat.reduceLeDiff, Nat.reduceEqDiff, Nat.reduceLT, Nat.reduceBEq, ↓reduceIte, Int.reduceLE, Int.reduceLT, Int.reduceToNat, Int.reduceNeg, reduceCtorEq, Int.reduceEq, SF0, SF1, SF2, DCg0, DCe0, DCa0, DCa1, DDb0, DBc0, DBa0, DHb0, DHb1, DHa0, DDc0]
  refine acall_own (drawSwapSteps_c xs hx) [] [] (by simp only [SX0, SX1, SX2, SX3, SX4, SX5, SX6, SX7, SX8, SU0, SY0, SY1, Nat.reduceAdd, Nat.reduceMul, Nat.reduceSub, Nat.reduceLeDiff, Nat.reduceEqDiff, Nat.reduceLT, Nat.reduceBEq, ↓reduceIte, Int.reduceLE, Int.reduceLT, Int.reduceToNat, Int.reduceNeg, reduceCtorEq, Int.reduceEq, SF0, SF1, SF2, DCg0, DCe0, DCa0, DCa1, DDb0, DBc0, DBa0, DHb0, DHb1, DHa0, DDc0, SX0]) (by decide) (by decide) (by rfl) (by simp only [SX0, SX1, SX2, SX3, SX4, SX5, SX6, SX7, SX8, SU0, SY0, SY1, Nat.reduceAdd, Nat.reduceMul, Nat.reduceSub, Nat.reduceLeDiff, Nat.reduceEqDiff, Nat.reduceLT, Nat.reduceBEq, ↓reduceIte, Int.reduceLE, Int.reduceLT, Int.reduceToNat, Int.reduceNeg, reduceCtorEq, Int.reduceEq, SF0, SF1, SF2, DCg0, DCe0, DCa0, DCa1, DDb0, DBc0, DBa0, DHb0, DHb1, DHa0, DDc0, SX0]) ?_
  rintro _ _ ⟨rfl, p, S, a, rfl, hS, ha1, ha2⟩
  have W1 := swapStepsI_c p S a (by omega) (by omega)
  have W2 := swapStepsS_c p S a (by omega) (by omega)
  have hlen : (swapL p S a).length ≤ 300 := by
    unfold swapL
    split
    · split
      · rw [swp_len]; omega
      · omega
    · simp
  have Q := equalInts_self2 (swapL p S a) (by omega)
  simp (disch := omega) only [SX0, SX1, SX2, SX3, SX4, SX5, SX6, SX7, SX8, SU0, SY0, SY1, Nat.reduceAdd, Nat.reduceMul, Nat.reduceSub, Nat.reduceLeDiff, Nat.reduceEqDiff, Nat.reduceLT, Nat.reduceBEq, ↓reduceIte, Int.reduceLE, Int.reduceLT, Int.reduceToNat, Int.reduceNeg, reduceCtorEq, Int.reduceEq, SF0, SF1, SF2, DCg0, DCe0, DCa0, DCa1, DDb0, DBc0, DBa0, DHb0, DHb1, DHa0, DDc0]
  refine acall_one W1 (by simp [freeL, AV.free, Plan.free]) rfl ?_
  simp (disch := omega) only [SX0, SX1, SX2, SX3, SX4, SX5, SX6, SX7, SX8, SU0, SY0, SY1, Nat.reduceAdd, Nat.reduceMul, Nat.reduceSub, Nat.reduceLeDiff, Nat.reduceEqDiff, Nat.reduceLT, Nat.reduceBEq, ↓reduceIte, Int.reduceLE, Int.reduceLT, Int.reduceToNat, Int.reduceNeg, reduceCtorEq, Int.reduceEq, SF0, SF1, SF2, DCg0, DCe0, DCa0, DCa1, DDb0, DBc0, DBa0, DHb0, DHb1, DHa0, DDc0]
  refine acall_one W2 (by simp [freeL, AV.free, Plan.free]) rfl ?_
  simp (disch := omega) only [SX0, SX1, SX2, SX3, SX4, SX5, SX6, SX7, SX8, SU0, SY0, SY1, Nat.reduceAdd, Nat.reduceMul, Nat.reduceSub, Nat.reduceLeDiff, Nat.reduceEqDiff, Nat.reduceLT, Nat.reduceBEq, ↓reduceIte, Int.reduceLE, Int.reduceLT, Int.reduceToNat, Int.reduceNeg, reduceCtorEq, Int.reduceEq, SF0, SF1, SF2, DCg0, DCe0, DCa0, DCa1, DDb0, DBc0, DBa0, DHb0, DHb1, DHa0, DDc0]
  refine acall_one Q rfl rfl ?_
  simp (disch := omega) only [SX0, SX1, SX2, SX3, SX4, SX5, SX6, SX7, SX8, SU0, SY0, SY1, Nat.reduceAdd, Nat.reduceMul, Nat.reduceSub, Nat.reduceLeDiff, Nat.reduceEqDiff, Nat.reduceLT, Nat.reduceBEq, ↓reduceIte, Int.reduceLE, Int.reduceLT, Int.reduceToNat, Int.reduceNeg, reduceCtorEq, Int.reduceEq, SF0, SF1, SF2, DCg0, DCe0, DCa0, DCa1, DDb0, DBc0, DBa0, DHb0, DHb1, DHa0, DDc0]
  refine br_dec (fun h2 => ?_) (fun h2 => ?_)
  · simp (disch := omega) only [SX0, SX1, SX2, SX3, SX4, SX5, SX6, SX7, SX8, SU0, SY0, SY1, Nat.reduceAdd, Nat.reduceMul, Nat.reduceSub, Nat.reduceLeDiff, Nat.reduceEqDiff, Nat.reduceLT, Nat.reduceBEq, ↓reduceIte, Int.reduceLE, Int.reduceLT, Int.reduceToNat, Int.reduceNeg, reduceCtorEq, Int.reduceEq, SF0, SF1, SF2, DCg0, DCe0, DCa0, DCa1, DDb0, DBc0, DBa0, DHb0, DHb1, DHa0, DDc0]
    refine acall_one Q rfl rfl ?_
    simp (disch := omega) only [SX0, SX1, SX2, SX3, SX4, SX5, SX6, SX7, SX8, SU0, SY0, SY1, Nat.reduceAdd, Nat.reduceMul, Nat.reduceSub, Nat.reduceLeDiff, Nat.reduceEqDiff, Nat.reduceLT, Nat.reduceBEq, ↓reduceIte, Int.reduceLE, Int.reduceLT, Int.reduceToNat, Int.reduceNeg, reduceCtorEq, Int.reduceEq, SF0, SF1, SF2, DCg0, DCe0, DCa0, DCa1, DDb0, DBc0, DBa0, DHb0, DHb1, DHa0, DDc0]
    exact fin_val ⟨rfl, rfl⟩
  have hok : swapOk p S a := Classical.byContradiction fun hn => h2 (by unfold swapL; rw [if_neg hn]; rfl)
  obtain ⟨hv, h0, hlt⟩ := id hok
  obtain ⟨i, rfl⟩ : ∃ n : Nat, a = n := ⟨a.toNat, by omega⟩
  obtain ⟨x, hx1⟩ := get_lt (l := S) (i := i) (by omega)
  obtain ⟨y, hy1⟩ := get_lt (l := S) (i := i + 1) (by omega)
  have hsv := Plan.swp_valid hv hx1 hy1
  have eL : swapL p S i = if p.vsteps (swp S i) then swp S i else S := by unfold swapL; rw [if_pos hok]; rfl
  have eB : swapB p S i = decide (p.vsteps (swp S i)) := by unfold swapB; simp only [hok, true_and]; rfl
  rw [eL, eB]
  clear eL eB W1 W2 Q hlen
  have ei : ((i : Int) + 1).toNat = i + 1 := by omega
  have hi0 : (0 ≤ (i : Int)) = True := eq_true (by omega)
  simp (disch := omega) only [SX0, SX1, SX2, SX3, SX4, SX5, SX6, SX7, SX8, SU0, SY0, SY1, Nat.reduceAdd, Nat.reduceMul, Nat.reduceSub, Nat.reduceLeDiff, Nat.reduceEqDiff, Nat.reduceLT, Nat.reduceBEq, ↓reduceIte, Int.reduceLE, Int.reduceLT, Int.reduceToNat, Int.reduceNeg, reduceCtorEq, Int.reduceEq, SF0, SF1, SF2, DCg0, DCe0, DCa0, DCa1, DDb0, DBc0, DBa0, DHb0, DHb1, DHa0, DDc0]
  refine awp_drawA T_tt mixed (by decide +kernel) (by kernel_rfl) (by kernel_rfl) ?_
  simp (disch := omega) only [SX0, SX1, SX2, SX3, SX4, SX5, SX6, SX7, SX8, SU0, SY0, SY1, Nat.reduceAdd, Nat.reduceMul, Nat.reduceSub, Nat.reduceLeDiff, Nat.reduceEqDiff, Nat.reduceLT, Nat.reduceBEq, ↓reduceIte, Int.reduceLE, Int.reduceLT, Int.reduceToNat, Int.reduceNeg, reduceCtorEq, Int.reduceEq, SF0, SF1, SF2, DCg0, DCe0, DCa0, DCa1, DDb0, DBc0, DBa0, DHb0, DHb1, DHa0, DDc0]
  refine req (by omega) ?_
  simp (disch := omega) only [SX0, SX1, SX2, SX3, SX4, SX5, SX6, SX7, SX8, SU0, SY0, SY1, Nat.reduceAdd, Nat.reduceMul, Nat.reduceSub, Nat.reduceLeDiff, Nat.reduceEqDiff, Nat.reduceLT, Nat.reduceBEq, ↓reduceIte, Int.reduceLE, Int.reduceLT, Int.reduceToNat, Int.reduceNeg, reduceCtorEq, Int.reduceEq, SF0, SF1, SF2, DCg0, DCe0, DCa0, DCa1, DDb0, DBc0, DBa0, DHb0, DHb1, DHa0, DDc0, hx1, hy1, ei]
  refine qc_one (aboveOf_c p y) (by simp [freeL, AV.free, Plan.free]) ?_
  simp (disch := omega) only [SX0, SX1, SX2, SX3, SX4, SX5, SX6, SX7, SX8, SU0, SY0, SY1, Nat.reduceAdd, Nat.reduceMul, Nat.reduceSub, Nat.reduceLeDiff, Nat.reduceEqDiff, Nat.reduceLT, Nat.reduceBEq, ↓reduceIte, Int.reduceLE, Int.reduceLT, Int.reduceToNat, Int.reduceNeg, reduceCtorEq, Int.reduceEq, SF0, SF1, SF2, DCg0, DCe0, DCa0, DCa1, DDb0, DBc0, DBa0, DHb0, DHb1, DHa0, DDc0, hx1, hy1, ei]
  refine br_dec (fun h3 => ?_) (fun h3 => ?_)
  · have hns : ¬ p.vsteps (swp S i) := fun h => hsv.1 h h3
    rw [if_neg hns, decide_eq_false hns]
    simp (disch := omega) only [SX0, SX1, SX2, SX3, SX4, SX5, SX6, SX7, SX8, SU0, SY0, SY1, Nat.reduceAdd, Nat.reduceMul, Nat.reduceSub, Nat.reduceLeDiff, Nat.reduceEqDiff, Nat.reduceLT, Nat.reduceBEq, ↓reduceIte, Int.reduceLE, Int.reduceLT, Int.reduceToNat, Int.reduceNeg, reduceCtorEq, Int.reduceEq, SF0, SF1, SF2, DCg0, DCe0, DCa0, DCa1, DDb0, DBc0, DBa0, DHb0, DHb1, DHa0, DDc0]
    refine acall_one (equalInts_self2 S (by omega)) rfl rfl ?_
    simp (disch := omega) only [SX0, SX1, SX2, SX3, SX4, SX5, SX6, SX7, SX8, SU0, SY0, SY1, Nat.reduceAdd, Nat.reduceMul, Nat.reduceSub, Nat.reduceLeDiff, Nat.reduceEqDiff, Nat.reduceLT, Nat.reduceBEq, ↓reduceIte, Int.reduceLE, Int.reduceLT, Int.reduceToNat, Int.reduceNeg, reduceCtorEq, Int.reduceEq, SF0, SF1, SF2, DCg0, DCe0, DCa0, DCa1, DDb0, DBc0, DBa0, DHb0, DHb1, DHa0, DDc0]
    exact fin_val ⟨rfl, rfl⟩
  · have hys : p.vsteps (swp S i) := hsv.2 h3
    have W3 := swapStepsI_c p (swp S i) i (by rw [swp_len]; omega) (by omega)
    have hok2 : swapOk p (swp S i) i := ⟨hys, h0, by rw [swp_len]; exact hlt⟩
    have hss := swp_swp (S := S) (i := i) (by omega)
    have eL2 : swapL p (swp S i) i = S := by
      unfold swapL
      rw [if_pos hok2]
      show (if p.vsteps (swp (swp S i) i) then swp (swp S i) i else swp S i) = S
      rw [hss, if_pos hv]
    have eB2 : swapB p (swp S i) i = true := by
      unfold swapB
      rw [decide_eq_true ⟨hok2, by show p.vsteps (swp (swp S i) i); rw [hss]; exact hv⟩]
    rw [eL2, eB2] at W3
    rw [if_pos hys, decide_eq_true hys]
    simp (disch := omega) only [SX0, SX1, SX2, SX3, SX4, SX5, SX6, SX7, SX8, SU0, SY0, SY1, Nat.reduceAdd, Nat.reduceMul, Nat.reduceSub, Nat.reduceLeDiff, Nat.reduceEqDiff, Nat.reduceLT, Nat.reduceBEq, ↓reduceIte, Int.reduceLE, Int.reduceLT, Int.reduceToNat, Int.reduceNeg, reduceCtorEq, Int.reduceEq, SF0, SF1, SF2, DCg0, DCe0, DCa0, DCa1, DDb0, DBc0, DBa0, DHb0, DHb1, DHa0, DDc0]
    refine acall_one W3 (by simp [freeL, AV.free, Plan.free]) rfl ?_
    simp (disch := omega) only [SX0, SX1, SX2, SX3, SX4, SX5, SX6, SX7, SX8, SU0, SY0, SY1, Nat.reduceAdd, Nat.reduceMul, Nat.reduceSub, Nat.reduceLeDiff, Nat.reduceEqDiff, Nat.reduceLT, Nat.reduceBEq, ↓reduceIte, Int.reduceLE, Int.reduceLT, Int.reduceToNat, Int.reduceNeg, reduceCtorEq, Int.reduceEq, SF0, SF1, SF2, DCg0, DCe0, DCa0, DCa1, DDb0, DBc0, DBa0, DHb0, DHb1, DHa0, DDc0]
    refine acall_one (equalInts_self2 S (by omega)) rfl rfl ?_
    simp (disch := omega) only [SX0, SX1, SX2, SX3, SX4, SX5, SX6, SX7, SX8, SU0, SY0, SY1, Nat.reduceAdd, Nat.reduceMul, Nat.reduceSub, Nat.reduceLeDiff, Nat.reduceEqDiff, Nat.reduceLT, Nat.reduceBEq, ↓reduceIte, Int.reduceLE, Int.reduceLT, Int.reduceToNat, Int.reduceNeg, reduceCtorEq, Int.reduceEq, SF0, SF1, SF2, DCg0, DCe0, DCa0, DCa1, DDb0, DBc0, DBa0, DHb0, DHb1, DHa0, DDc0]
    exact fin_val ⟨rfl, rfl⟩
end Go.Pc
