/- The law of waiting pieces: it holds of all bytes. -/
import Derived.Test.YthdbcghlcipijaaSd
import Derived.Test.YthdbcghlcipijaaSc
import Derived.Test.YthdbcghlcipijaaRow
set_option linter.unusedSimpArgs false
set_option linter.unusedVariables false
namespace Go.Pc
open Go Go.Proofs

theorem e_drawValidSteps : Enters Try.prog 87 := enters_of Try.func87 (by kernel_rfl) (by kernel_rfl)
set_option maxHeartbeats 4000000 in
theorem drawValidSteps_c (xs : List Int) (hx : ∀ x ∈ xs, 0 ≤ x ∧ x < 256) : ACalls Try.prog 87 [.sl (bys xs)] [] [] (fun r L => L = [] ∧ ∃ (p : Plan) (S : List Int), r = .tup [.agg p.cs, .sl (ints S)] ∧ S.length ≤ 300) := by
  have hx' := take_byte hx
  have hl' : (xs.take 2000).length ≤ 2000 := by rw [List.length_take]; omega
  refine acalls_tm T_tt Try.func87 rfl e_drawValidSteps 17 rfl (W8 _ .any .any .any .any .any .any .any (W8 .any .any .any .any .any .any .any .any [.any, .any])) rfl (rv := [.cell 2 35, .tmp 3]) rfl (sx_sound (bl := []) T_tt _ _ _ ?_)
  simp (disch := omega) only [SX0, SX1, SX2, SX3, SX4, SX5, SX6, SX7, SX8, SU0, SY0, SY1, Nat.reduceAdd, Nat.reduceMul, Nat.reduceSub, Nat.reduceLeDiff, Nat.reduceEqDiff, Nat.reduceLT, Nat.reduceBEq, ↓reduceIte, Int.reduceLE, Int.reduceLT, Int.reduceToNat, Int.reduceNeg, reduceCtorEq, Int.reduceEq, SF0, SF1, SF2, DCg0, DCe0, DCa0, DCa1, DDb0, DBc0, DBa0, DHb0, DHb1, DHa0, DDc0]
  refine acall_own (newReader_c xs) [] [] (by simp only [SX0, SX1, SX2, SX3, SX4, SX5, SX6, SX7, SX8, SU0, SY0, SY1, Nat.reduceAdd, Nat.reduceMul, Nat.reduceSub, Nat.reduceLeDiff, Nat.reduceEqDiff, Nat.reduceLT, Nat.reduceBEq, ↓reduceIte, Int.reduceLE, Int.reduceLT, Int.reduceToNat, Int.reduceNeg, reduceCtorEq, Int.reduceEq, SF0, SF1, SF2, DCg0, DCe0, DCa0, DCa1, DDb0, DBc0, DBa0, DHb0, DHb1, DHa0, DDc0, SX0]) (by decide) (by decide) (by rfl) (by simp only [SX0, SX1, SX2, SX3, SX4, SX5, SX6, SX7, SX8, SU0, SY0, SY1, Nat.reduceAdd, Nat.reduceMul, Nat.reduceSub, Nat.reduceLeDiff, Nat.reduceEqDiff, Nat.reduceLT, Nat.reduceBEq, ↓reduceIte, Int.reduceLE, Int.reduceLT, Int.reduceToNat, Int.reduceNeg, reduceCtorEq, Int.reduceEq, SF0, SF1, SF2, DCg0, DCe0, DCa0, DCa1, DDb0, DBc0, DBa0, DHb0, DHb1, DHa0, DDc0, SX0]) ?_
  rintro _ _ ⟨rfl, rfl⟩
  simp (disch := omega) only [SX0, SX1, SX2, SX3, SX4, SX5, SX6, SX7, SX8, SU0, SY0, SY1, Nat.reduceAdd, Nat.reduceMul, Nat.reduceSub, Nat.reduceLeDiff, Nat.reduceEqDiff, Nat.reduceLT, Nat.reduceBEq, ↓reduceIte, Int.reduceLE, Int.reduceLT, Int.reduceToNat, Int.reduceNeg, reduceCtorEq, Int.reduceEq, SF0, SF1, SF2, DCg0, DCe0, DCa0, DCa1, DDb0, DBc0, DBa0, DHb0, DHb1, DHa0, DDc0]
  refine acall_own (cutsPlan_c _ 0 20 hx' hl' (by omega)) [1] [] (by simp only [SX0, SX1, SX2, SX3, SX4, SX5, SX6, SX7, SX8, SU0, SY0, SY1, Nat.reduceAdd, Nat.reduceMul, Nat.reduceSub, Nat.reduceLeDiff, Nat.reduceEqDiff, Nat.reduceLT, Nat.reduceBEq, ↓reduceIte, Int.reduceLE, Int.reduceLT, Int.reduceToNat, Int.reduceNeg, reduceCtorEq, Int.reduceEq, SF0, SF1, SF2, DCg0, DCe0, DCa0, DCa1, DDb0, DBc0, DBa0, DHb0, DHb1, DHa0, DDc0, SX0]) (by decide) (by decide) (by rfl) (by simp only [SX0, SX1, SX2, SX3, SX4, SX5, SX6, SX7, SX8, SU0, SY0, SY1, Nat.reduceAdd, Nat.reduceMul, Nat.reduceSub, Nat.reduceLeDiff, Nat.reduceEqDiff, Nat.reduceLT, Nat.reduceBEq, ↓reduceIte, Int.reduceLE, Int.reduceLT, Int.reduceToNat, Int.reduceNeg, reduceCtorEq, Int.reduceEq, SF0, SF1, SF2, DCg0, DCe0, DCa0, DCa1, DDb0, DBc0, DBa0, DHb0, DHb1, DHa0, DDc0, SX0]) ?_
  rintro _ _ ⟨k, q, p1, rfl, rfl, hk, hq, hp1, hkw⟩
  simp (disch := omega) only [SX0, SX1, SX2, SX3, SX4, SX5, SX6, SX7, SX8, SU0, SY0, SY1, Nat.reduceAdd, Nat.reduceMul, Nat.reduceSub, Nat.reduceLeDiff, Nat.reduceEqDiff, Nat.reduceLT, Nat.reduceBEq, ↓reduceIte, Int.reduceLE, Int.reduceLT, Int.reduceToNat, Int.reduceNeg, reduceCtorEq, Int.reduceEq, SF0, SF1, SF2, DCg0, DCe0, DCa0, DCa1, DDb0, DBc0, DBa0, DHb0, DHb1, DHa0, DDc0]
  refine awp_float (bl := []) T_tt mixed [0, 1, 2, 3] [0, 1, 2] [(3, [(1, .f 15), (2, .f 16)]), (4, [(0, .f 14)]), (5, [])] [] (by kernel_rfl) (by kernel_rfl) ?_
  simp (disch := omega) only [SX0, SX1, SX2, SX3, SX4, SX5, SX6, SX7, SX8, SU0, SY0, SY1, Nat.reduceAdd, Nat.reduceMul, Nat.reduceSub, Nat.reduceLeDiff, Nat.reduceEqDiff, Nat.reduceLT, Nat.reduceBEq, ↓reduceIte, Int.reduceLE, Int.reduceLT, Int.reduceToNat, Int.reduceNeg, reduceCtorEq, Int.reduceEq, SF0, SF1, SF2, DCg0, DCe0, DCa0, DCa1, DDb0, DBc0, DBa0, DHb0, DHb1, DHa0, DDc0]
  refine acall_own (anySteps_c _ p1 hx' hl' (by omega) q) [1] [] (by simp only [SX0, SX1, SX2, SX3, SX4, SX5, SX6, SX7, SX8, SU0, SY0, SY1, Nat.reduceAdd, Nat.reduceMul, Nat.reduceSub, Nat.reduceLeDiff, Nat.reduceEqDiff, Nat.reduceLT, Nat.reduceBEq, ↓reduceIte, Int.reduceLE, Int.reduceLT, Int.reduceToNat, Int.reduceNeg, reduceCtorEq, Int.reduceEq, SF0, SF1, SF2, DCg0, DCe0, DCa0, DCa1, DDb0, DBc0, DBa0, DHb0, DHb1, DHa0, DDc0, SX0]) (by decide) (by decide) (by rfl) (by simp only [SX0, SX1, SX2, SX3, SX4, SX5, SX6, SX7, SX8, SU0, SY0, SY1, Nat.reduceAdd, Nat.reduceMul, Nat.reduceSub, Nat.reduceLeDiff, Nat.reduceEqDiff, Nat.reduceLT, Nat.reduceBEq, ↓reduceIte, Int.reduceLE, Int.reduceLT, Int.reduceToNat, Int.reduceNeg, reduceCtorEq, Int.reduceEq, SF0, SF1, SF2, DCg0, DCe0, DCa0, DCa1, DDb0, DBc0, DBa0, DHb0, DHb1, DHa0, DDc0, SX0]) ?_
  rintro _ _ ⟨S, p2, rfl, rfl, hS, _⟩
  simp (disch := omega) only [SX0, SX1, SX2, SX3, SX4, SX5, SX6, SX7, SX8, SU0, SY0, SY1, Nat.reduceAdd, Nat.reduceMul, Nat.reduceSub, Nat.reduceLeDiff, Nat.reduceEqDiff, Nat.reduceLT, Nat.reduceBEq, ↓reduceIte, Int.reduceLE, Int.reduceLT, Int.reduceToNat, Int.reduceNeg, reduceCtorEq, Int.reduceEq, SF0, SF1, SF2, DCg0, DCe0, DCa0, DCa1, DDb0, DBc0, DBa0, DHb0, DHb1, DHa0, DDc0]
  exact fin_free (by simp [AV.free, freeL, Plan.free]) ⟨rfl, q, S, rfl, hS⟩

theorem e_drawWaitingOf : Enters Try.prog 20 := enters_of Try.func20 (by kernel_rfl) (by kernel_rfl)
theorem drawWaitingOf_c (xs : List Int) (hx : ∀ x ∈ xs, 0 ≤ x ∧ x < 256) : ACalls Try.prog 20 [.sl (bys xs)] [] [] (fun r L => L = [] ∧ ∃ (p : Plan) (S : List Int), r = .tup [.agg p.cs, .sl (ints S)] ∧ S.length ≤ 300) := by
  refine acalls_tm T_tt Try.func20 rfl e_drawWaitingOf 7 rfl (W8 _ .any .any .any .any .any .any .any []) rfl (rv := [.cell 2 35, .tmp 3]) rfl (sx_sound (bl := []) T_tt _ _ _ ?_)
  simp (disch := omega) only [SX0, SX1, SX2, SX3, SX4, SX5, SX6, SX7, SX8, SU0, SY0, SY1, Nat.reduceAdd, Nat.reduceMul, Nat.reduceSub, Nat.reduceLeDiff, Nat.reduceEqDiff, Nat.reduceLT, Nat.reduceBEq, ↓reduceIte, Int.reduceLE, Int.reduceLT, Int.reduceToNat, Int.reduceNeg, reduceCtorEq, Int.reduceEq, SF0, SF1, SF2, DCg0, DCe0, DCa0, DCa1, DDb0, DBc0, DBa0, DHb0, DHb1, DHa0, DDc0]
  refine acall_own (drawValidSteps_c xs hx) [] [] (by simp only [SX0, SX1, SX2, SX3, SX4, SX5, SX6, SX7, SX8, SU0, SY0, SY1, Nat.reduceAdd, Nat.reduceMul, Nat.reduceSub, Nat.reduceLeDiff, Nat.reduceEqDiff, Nat.reduceLT, Nat.reduceBEq, ↓reduceIte, Int.reduceLE, Int.reduceLT, Int.reduceToNat, Int.reduceNeg, reduceCtorEq, Int.reduceEq, SF0, SF1, SF2, DCg0, DCe0, DCa0, DCa1, DDb0, DBc0, DBa0, DHb0, DHb1, DHa0, DDc0, SX0]) (by decide) (by decide) (by rfl) (by simp only [SX0, SX1, SX2, SX3, SX4, SX5, SX6, SX7, SX8, SU0, SY0, SY1, Nat.reduceAdd, Nat.reduceMul, Nat.reduceSub, Nat.reduceLeDiff, Nat.reduceEqDiff, Nat.reduceLT, Nat.reduceBEq, ↓reduceIte, Int.reduceLE, Int.reduceLT, Int.reduceToNat, Int.reduceNeg, reduceCtorEq, Int.reduceEq, SF0, SF1, SF2, DCg0, DCe0, DCa0, DCa1, DDb0, DBc0, DBa0, DHb0, DHb1, DHa0, DDc0, SX0]) ?_
  rintro _ _ ⟨rfl, q, S, rfl, hS⟩
  simp (disch := omega) only [SX0, SX1, SX2, SX3, SX4, SX5, SX6, SX7, SX8, SU0, SY0, SY1, Nat.reduceAdd, Nat.reduceMul, Nat.reduceSub, Nat.reduceLeDiff, Nat.reduceEqDiff, Nat.reduceLT, Nat.reduceBEq, ↓reduceIte, Int.reduceLE, Int.reduceLT, Int.reduceToNat, Int.reduceNeg, reduceCtorEq, Int.reduceEq, SF0, SF1, SF2, DCg0, DCe0, DCa0, DCa1, DDb0, DBc0, DBa0, DHb0, DHb1, DHa0, DDc0]
  exact fin_free (by simp [AV.free, freeL, Plan.free]) ⟨rfl, q, S, rfl, hS⟩

theorem equalInts_self (a : List Int) (ha : a.length < 2 ^ 40) : ACalls Try.prog 22 [.sl (ints a), .sl (ints a)] [] [] (fun r L => r = .val (.bool true) ∧ L = []) := (equalInts_c a a ha ha).mono fun r L ⟨h1, h2⟩ => ⟨by rw [h1, decide_eq_true rfl], h2⟩

/-- What waits changes by one at most, and begins and ends with one. -/
theorem waits_facts {p : Plan} {S : List Int} (hl : (p.waits S).length ≠ 0) : p.vsteps S ∧ (p.waits S).length = S.length ∧ S.length ≤ 255 ∧ (∀ (i : Nat) a, (p.waits S)[i]? = some a → 1 ≤ a ∧ a ≤ 1000) ∧ (∀ (i : Nat) a b, (p.waits S)[i]? = some a → (p.waits S)[i + 1]? = some b → b - a ≤ 1 ∧ a - b ≤ 1) ∧ (p.waits S)[0]? = some 1 ∧ (p.waits S)[S.length - 1]? = some 1 := by
  have hv : p.vsteps S := Classical.byContradiction fun hv => hl (by unfold Plan.waits; rw [if_neg hv]; rfl)
  have e : p.waits S = waitL (p.knots 0 (-1)) S S.length := by unfold Plan.waits; rw [if_pos hv]
  rw [e] at hl ⊢
  rw [waitL_len] at hl
  have hkl := Plan.knots_le p hv.1.1 0 (-1)
  obtain ⟨f1, f2⟩ := Plan.knots_facts hv.1.1
  refine ⟨hv, waitL_len _ _ _, by have := hv.2.1; have := hv.1.2; omega, fun i a ha => ?_, fun i a b ha hb => ?_, ?_, ?_⟩
  · have hi := (List.getElem?_eq_some_iff.1 ha).1
    rw [waitL_len] at hi
    rw [waitL_get hi] at ha
    cases ha
    obtain ⟨n, hn⟩ := get_lt (l := S) (i := i) hi
    have := (wt_next hv hn).2.2.1
    have := wt_le (p.knots 0 (-1)) (S.take i)
    have := hv.1.2
    omega
  · have hi := (List.getElem?_eq_some_iff.1 hb).1
    rw [waitL_len] at hi
    rw [waitL_get (by omega)] at ha
    rw [waitL_get hi] at hb
    cases ha
    cases hb
    obtain ⟨n, hn⟩ := get_lt (l := S) (i := i) (by omega)
    obtain ⟨w1, w2, w3, _⟩ := wt_next hv hn
    omega
  · rw [waitL_get (by omega), List.take_zero, Plan.knots_root hv.1.1 (fun h => hl (by rw [hv.2.1, h]; rfl))]
    rfl
  · rw [waitL_get (by omega)]
    obtain ⟨n, hn⟩ := get_lt (l := S) (i := S.length - 1) (by omega)
    have h1 := (wt_next hv hn).2.2.1
    have h2 := wt_last f1 hv.2.2 hv.2.1
    have : wt (p.knots 0 (-1)) (S.take (S.length - 1)) = 1 := by omega
    rw [this]
    rfl

theorem e_fnWaitingOf : Enters Try.prog 4 := enters_of Try.func4 (by kernel_rfl) (by kernel_rfl)
set_option maxRecDepth 8000 in
set_option maxHeartbeats 4000000 in
theorem fnWaitingOf_c : LawC 4 := by
  intro xs hx hl
  refine acalls_tm T_tt Try.func4 rfl e_fnWaitingOf 90 rfl (W8 _ .any .any .any .any .any .any .any (W8 .any .any .any .any .any .any .any .any (W8 .any .any .any .any .any .any .any .any (W8 .any .any .any .any .any .any .any .any (W8 .any .any .any .any .any .any .any .any (W8 .any .any .any .any .any .any .any .any (W8 .any .any .any .any .any .any .any .any (W8 .any .any .any .any .any .any .any .any (W8 .any .any .any .any .any .any .any .any (W8 .any .any .any .any .any .any .any .any (W8 .any .any .any .any .any .any .any .any [.any, .any, .any]))))))))))) rfl (rv := [.tmp 2]) rfl (sx_sound (bl := []) T_tt _ _ _ ?_)
  simp (disch := omega) only [SX0, SX1, SX2, SX3, SX4, SX5, SX6, SX7, SX8, SU0, SY0, SY1, Nat.reduceAdd, Nat.reduceMul, Nat.reduceSub, Nat.reduceLeDiff, Nat.reduceEqDiff, Nat.reduceLT, Nat.reduceBEq, ↓reduceIte, Int.reduceLE, Int.reduceLT, Int.reduceToNat, Int.reduceNeg, reduceCtorEq, Int.reduceEq, SF0, SF1, SF2, DCg0, DCe0, DCa0, DCa1, DDb0, DBc0, DBa0, DHb0, DHb1, DHa0, DDc0, bysLen]
  refine br_dec (fun h1 => ?_) (fun h1 => ?_)
  · simp (disch := omega) only [SX0, SX1, SX2, SX3, SX4, SX5, SX6, SX7, SX8, SU0, SY0, SY1, Nat.reduceAdd, Nat.reduceMul, Nat.reduceSub, Nat.reduceLeDiff, Nat.reduceEqDiff, Nat.reduceLT, Nat.reduceBEq, ↓reduceIte, Int.reduceLE, Int.reduceLT, Int.reduceToNat, Int.reduceNeg, reduceCtorEq, Int.reduceEq, SF0, SF1, SF2, DCg0, DCe0, DCa0, DCa1, DDb0, DBc0, DBa0, DHb0, DHb1, DHa0, DDc0]
    exact fin_val ⟨rfl, rfl⟩
  simp (disch := omega) only [SX0, SX1, SX2, SX3, SX4, SX5, SX6, SX7, SX8, SU0, SY0, SY1, Nat.reduceAdd, Nat.reduceMul, Nat.reduceSub, Nat.reduceLeDiff, Nat.reduceEqDiff, Nat.reduceLT, Nat.reduceBEq, ↓reduceIte, Int.reduceLE, Int.reduceLT, Int.reduceToNat, Int.reduceNeg, reduceCtorEq, Int.reduceEq, SF0, SF1, SF2, DCg0, DCe0, DCa0, DCa1, DDb0, DBc0, DBa0, DHb0, DHb1, DHa0, DDc0]
  refine acall_own (drawWaitingOf_c xs hx) [] [] (by simp only [SX0, SX1, SX2, SX3, SX4, SX5, SX6, SX7, SX8, SU0, SY0, SY1, Nat.reduceAdd, Nat.reduceMul, Nat.reduceSub, Nat.reduceLeDiff, Nat.reduceEqDiff, Nat.reduceLT, Nat.reduceBEq, ↓reduceIte, Int.reduceLE, Int.reduceLT, Int.reduceToNat, Int.reduceNeg, reduceCtorEq, Int.reduceEq, SF0, SF1, SF2, DCg0, DCe0, DCa0, DCa1, DDb0, DBc0, DBa0, DHb0, DHb1, DHa0, DDc0, SX0]) (by decide) (by decide) (by rfl) (by simp only [SX0, SX1, SX2, SX3, SX4, SX5, SX6, SX7, SX8, SU0, SY0, SY1, Nat.reduceAdd, Nat.reduceMul, Nat.reduceSub, Nat.reduceLeDiff, Nat.reduceEqDiff, Nat.reduceLT, Nat.reduceBEq, ↓reduceIte, Int.reduceLE, Int.reduceLT, Int.reduceToNat, Int.reduceNeg, reduceCtorEq, Int.reduceEq, SF0, SF1, SF2, DCg0, DCe0, DCa0, DCa1, DDb0, DBc0, DBa0, DHb0, DHb1, DHa0, DDc0, SX0]) ?_
  rintro _ _ ⟨rfl, p, S, rfl, hS⟩
  have W1 := waitingOfI_c p S (by omega)
  have W2 := waitingOfS_c p S (by omega)
  have hwf := waits_facts (p := p) (S := S)
  generalize p.waits S = w at *
  have hwl : w.length < 2 ^ 40 := Classical.byContradiction fun hn => by
    have := hwf (by omega)
    omega
  have Q := equalInts_self w hwl
  simp (disch := omega) only [SX0, SX1, SX2, SX3, SX4, SX5, SX6, SX7, SX8, SU0, SY0, SY1, Nat.reduceAdd, Nat.reduceMul, Nat.reduceSub, Nat.reduceLeDiff, Nat.reduceEqDiff, Nat.reduceLT, Nat.reduceBEq, ↓reduceIte, Int.reduceLE, Int.reduceLT, Int.reduceToNat, Int.reduceNeg, reduceCtorEq, Int.reduceEq, SF0, SF1, SF2, DCg0, DCe0, DCa0, DCa1, DDb0, DBc0, DBa0, DHb0, DHb1, DHa0, DDc0]
  refine acall_one W1 (by simp [freeL, AV.free, Plan.free]) rfl ?_
  simp (disch := omega) only [SX0, SX1, SX2, SX3, SX4, SX5, SX6, SX7, SX8, SU0, SY0, SY1, Nat.reduceAdd, Nat.reduceMul, Nat.reduceSub, Nat.reduceLeDiff, Nat.reduceEqDiff, Nat.reduceLT, Nat.reduceBEq, ↓reduceIte, Int.reduceLE, Int.reduceLT, Int.reduceToNat, Int.reduceNeg, reduceCtorEq, Int.reduceEq, SF0, SF1, SF2, DCg0, DCe0, DCa0, DCa1, DDb0, DBc0, DBa0, DHb0, DHb1, DHa0, DDc0]
  refine acall_one W2 (by simp [freeL, AV.free, Plan.free]) rfl ?_
  simp (disch := omega) only [SX0, SX1, SX2, SX3, SX4, SX5, SX6, SX7, SX8, SU0, SY0, SY1, Nat.reduceAdd, Nat.reduceMul, Nat.reduceSub, Nat.reduceLeDiff, Nat.reduceEqDiff, Nat.reduceLT, Nat.reduceBEq, ↓reduceIte, Int.reduceLE, Int.reduceLT, Int.reduceToNat, Int.reduceNeg, reduceCtorEq, Int.reduceEq, SF0, SF1, SF2, DCg0, DCe0, DCa0, DCa1, DDb0, DBc0, DBa0, DHb0, DHb1, DHa0, DDc0]
  refine acall_one Q rfl rfl ?_
  simp (disch := omega) only [SX0, SX1, SX2, SX3, SX4, SX5, SX6, SX7, SX8, SU0, SY0, SY1, Nat.reduceAdd, Nat.reduceMul, Nat.reduceSub, Nat.reduceLeDiff, Nat.reduceEqDiff, Nat.reduceLT, Nat.reduceBEq, ↓reduceIte, Int.reduceLE, Int.reduceLT, Int.reduceToNat, Int.reduceNeg, reduceCtorEq, Int.reduceEq, SF0, SF1, SF2, DCg0, DCe0, DCa0, DCa1, DDb0, DBc0, DBa0, DHb0, DHb1, DHa0, DDc0]
  refine br_dec (fun h2 => ?_) (fun h2 => ?_)
  · simp (disch := omega) only [SX0, SX1, SX2, SX3, SX4, SX5, SX6, SX7, SX8, SU0, SY0, SY1, Nat.reduceAdd, Nat.reduceMul, Nat.reduceSub, Nat.reduceLeDiff, Nat.reduceEqDiff, Nat.reduceLT, Nat.reduceBEq, ↓reduceIte, Int.reduceLE, Int.reduceLT, Int.reduceToNat, Int.reduceNeg, reduceCtorEq, Int.reduceEq, SF0, SF1, SF2, DCg0, DCe0, DCa0, DCa1, DDb0, DBc0, DBa0, DHb0, DHb1, DHa0, DDc0]
    refine acall_one W2 (by simp [freeL, AV.free, Plan.free]) rfl ?_
    simp (disch := omega) only [SX0, SX1, SX2, SX3, SX4, SX5, SX6, SX7, SX8, SU0, SY0, SY1, Nat.reduceAdd, Nat.reduceMul, Nat.reduceSub, Nat.reduceLeDiff, Nat.reduceEqDiff, Nat.reduceLT, Nat.reduceBEq, ↓reduceIte, Int.reduceLE, Int.reduceLT, Int.reduceToNat, Int.reduceNeg, reduceCtorEq, Int.reduceEq, SF0, SF1, SF2, DCg0, DCe0, DCa0, DCa1, DDb0, DBc0, DBa0, DHb0, DHb1, DHa0, DDc0]
    refine acall_one Q rfl rfl ?_
    simp (disch := omega) only [SX0, SX1, SX2, SX3, SX4, SX5, SX6, SX7, SX8, SU0, SY0, SY1, Nat.reduceAdd, Nat.reduceMul, Nat.reduceSub, Nat.reduceLeDiff, Nat.reduceEqDiff, Nat.reduceLT, Nat.reduceBEq, ↓reduceIte, Int.reduceLE, Int.reduceLT, Int.reduceToNat, Int.reduceNeg, reduceCtorEq, Int.reduceEq, SF0, SF1, SF2, DCg0, DCe0, DCa0, DCa1, DDb0, DBc0, DBa0, DHb0, DHb1, DHa0, DDc0]
    exact fin_val ⟨rfl, rfl⟩
  obtain ⟨hv, hlen, h255, hb, hstep, hfst, hlst⟩ := hwf (by omega)
  simp (disch := omega) only [SX0, SX1, SX2, SX3, SX4, SX5, SX6, SX7, SX8, SU0, SY0, SY1, Nat.reduceAdd, Nat.reduceMul, Nat.reduceSub, Nat.reduceLeDiff, Nat.reduceEqDiff, Nat.reduceLT, Nat.reduceBEq, ↓reduceIte, Int.reduceLE, Int.reduceLT, Int.reduceToNat, Int.reduceNeg, reduceCtorEq, Int.reduceEq, SF0, SF1, SF2, DCg0, DCe0, DCa0, DCa1, DDb0, DBc0, DBa0, DHb0, DHb1, DHa0, DDc0]
  with_reducible refine awp_loop_h 7 84 (fun (i : Nat) => [(6, .val (.int .i64 i))]) (fun _ => [.cells p.cs]) (fun i => 1 ≤ i ∧ i ≤ w.length) (fun i => w.length - i) 1 ⟨Nat.le_refl _, by omega⟩ ?_ (fun i hi => sx_sound (bl := []) T_tt _ _ _ ?_)
  · simp (disch := omega) only [SX0, SX1, SX2, SX3, SX4, SX5, SX6, SX7, SX8, SU0, SY0, SY1, Nat.reduceAdd, Nat.reduceMul, Nat.reduceSub, Nat.reduceLeDiff, Nat.reduceEqDiff, Nat.reduceLT, Nat.reduceBEq, ↓reduceIte, Int.reduceLE, Int.reduceLT, Int.reduceToNat, Int.reduceNeg, reduceCtorEq, Int.reduceEq, SF0, SF1, SF2, DCg0, DCe0, DCa0, DCa1, DDb0, DBc0, DBa0, DHb0, DHb1, DHa0, DDc0]
    (refine wk_le ?_ ?_ ?_; (focus (simp [W8, leTm, leAV, AV.under, underL, Plan.under]; done)); (focus (simp [leL, OB.under, underL, AV.under, Plan.under]; done)); (focus (simp; done)))
  simp (disch := omega) only [SX0, SX1, SX2, SX3, SX4, SX5, SX6, SX7, SX8, SU0, SY0, SY1, Nat.reduceAdd, Nat.reduceMul, Nat.reduceSub, Nat.reduceLeDiff, Nat.reduceEqDiff, Nat.reduceLT, Nat.reduceBEq, ↓reduceIte, Int.reduceLE, Int.reduceLT, Int.reduceToNat, Int.reduceNeg, reduceCtorEq, Int.reduceEq, SF0, SF1, SF2, DCg0, DCe0, DCa0, DCa1, DDb0, DBc0, DBa0, DHb0, DHb1, DHa0, DDc0]
  refine br_dec (fun h3 => ?_) (fun h3 => ?_)
  · obtain ⟨b, hb1⟩ := get_lt (l := w) (i := i) (by omega)
    obtain ⟨a, ha1⟩ := get_lt (l := w) (i := i - 1) (by omega)
    have hs := hstep (i - 1) a b ha1 (by rw [show i - 1 + 1 = i by omega]; exact hb1)
    have hab := hb _ _ ha1
    have hbb := hb _ _ hb1
    have e1 : ((i : Int) - 1).toNat = i - 1 := by omega
    have h0 : (0 ≤ (i : Int) - 1) = True := eq_true (by omega)
    simp (disch := omega) only [SX0, SX1, SX2, SX3, SX4, SX5, SX6, SX7, SX8, SU0, SY0, SY1, Nat.reduceAdd, Nat.reduceMul, Nat.reduceSub, Nat.reduceLeDiff, Nat.reduceEqDiff, Nat.reduceLT, Nat.reduceBEq, ↓reduceIte, Int.reduceLE, Int.reduceLT, Int.reduceToNat, Int.reduceNeg, reduceCtorEq, Int.reduceEq, SF0, SF1, SF2, DCg0, DCe0, DCa0, DCa1, DDb0, DBc0, DBa0, DHb0, DHb1, DHa0, DDc0]
    refine awp_drawA T_tt mixed (by decide +kernel) (by kernel_rfl) (by kernel_rfl) ?_
    simp (disch := omega) only [SX0, SX1, SX2, SX3, SX4, SX5, SX6, SX7, SX8, SU0, SY0, SY1, Nat.reduceAdd, Nat.reduceMul, Nat.reduceSub, Nat.reduceLeDiff, Nat.reduceEqDiff, Nat.reduceLT, Nat.reduceBEq, ↓reduceIte, Int.reduceLE, Int.reduceLT, Int.reduceToNat, Int.reduceNeg, reduceCtorEq, Int.reduceEq, SF0, SF1, SF2, DCg0, DCe0, DCa0, DCa1, DDb0, DBc0, DBa0, DHb0, DHb1, DHa0, DDc0, hb1, ha1, e1, h0]
    refine br_dec (fun h4 => ?_) (fun h4 => ?_)
    · exfalso; omega
    simp (disch := omega) only [SX0, SX1, SX2, SX3, SX4, SX5, SX6, SX7, SX8, SU0, SY0, SY1, Nat.reduceAdd, Nat.reduceMul, Nat.reduceSub, Nat.reduceLeDiff, Nat.reduceEqDiff, Nat.reduceLT, Nat.reduceBEq, ↓reduceIte, Int.reduceLE, Int.reduceLT, Int.reduceToNat, Int.reduceNeg, reduceCtorEq, Int.reduceEq, SF0, SF1, SF2, DCg0, DCe0, DCa0, DCa1, DDb0, DBc0, DBa0, DHb0, DHb1, DHa0, DDc0, hb1, ha1, e1, h0]
    refine br_dec (fun h5 => ?_) (fun h5 => ?_)
    · exfalso; omega
    simp (disch := omega) only [SX0, SX1, SX2, SX3, SX4, SX5, SX6, SX7, SX8, SU0, SY0, SY1, Nat.reduceAdd, Nat.reduceMul, Nat.reduceSub, Nat.reduceLeDiff, Nat.reduceEqDiff, Nat.reduceLT, Nat.reduceBEq, ↓reduceIte, Int.reduceLE, Int.reduceLT, Int.reduceToNat, Int.reduceNeg, reduceCtorEq, Int.reduceEq, SF0, SF1, SF2, DCg0, DCe0, DCa0, DCa1, DDb0, DBc0, DBa0, DHb0, DHb1, DHa0, DDc0, hb1]
    refine br_dec (fun h6 => ?_) (fun h6 => ?_)
    · exfalso; omega
    simp (disch := omega) only [SX0, SX1, SX2, SX3, SX4, SX5, SX6, SX7, SX8, SU0, SY0, SY1, Nat.reduceAdd, Nat.reduceMul, Nat.reduceSub, Nat.reduceLeDiff, Nat.reduceEqDiff, Nat.reduceLT, Nat.reduceBEq, ↓reduceIte, Int.reduceLE, Int.reduceLT, Int.reduceToNat, Int.reduceNeg, reduceCtorEq, Int.reduceEq, SF0, SF1, SF2, DCg0, DCe0, DCa0, DCa1, DDb0, DBc0, DBa0, DHb0, DHb1, DHa0, DDc0]
    refine ⟨i + 1, ⟨by omega, by omega⟩, by omega, ?_⟩
    (refine wk_le ?_ ?_ ?_; (focus (simp [W8, leTm, leAV, AV.under, underL, Plan.under]; done)); (focus (simp [leL, OB.under, underL, AV.under, Plan.under]; done)); (focus (simp; done)))
  · have e1 : ((w.length : Int) - 1).toNat = S.length - 1 := by omega
    have h0 : (0 ≤ (w.length : Int) - 1) = True := eq_true (by omega)
    have hlw : ((w.length : Nat) : Int) = ((S.length : Nat) : Int) := by omega
    have e2 : ((S.length : Int) - 1).toNat = S.length - 1 := by omega
    simp (disch := omega) only [SX0, SX1, SX2, SX3, SX4, SX5, SX6, SX7, SX8, SU0, SY0, SY1, Nat.reduceAdd, Nat.reduceMul, Nat.reduceSub, Nat.reduceLeDiff, Nat.reduceEqDiff, Nat.reduceLT, Nat.reduceBEq, ↓reduceIte, Int.reduceLE, Int.reduceLT, Int.reduceToNat, Int.reduceNeg, reduceCtorEq, Int.reduceEq, SF0, SF1, SF2, DCg0, DCe0, DCa0, DCa1, DDb0, DBc0, DBa0, DHb0, DHb1, DHa0, DDc0, hfst, hlst, e1, h0, hlw]
    refine req (by omega) ?_
    simp (disch := omega) only [SX0, SX1, SX2, SX3, SX4, SX5, SX6, SX7, SX8, SU0, SY0, SY1, Nat.reduceAdd, Nat.reduceMul, Nat.reduceSub, Nat.reduceLeDiff, Nat.reduceEqDiff, Nat.reduceLT, Nat.reduceBEq, ↓reduceIte, Int.reduceLE, Int.reduceLT, Int.reduceToNat, Int.reduceNeg, reduceCtorEq, Int.reduceEq, SF0, SF1, SF2, DCg0, DCe0, DCa0, DCa1, DDb0, DBc0, DBa0, DHb0, DHb1, DHa0, DDc0, hlst, e2, hlw]
    exact fin_val ⟨rfl, rfl⟩
end Go.Pc
