/- Contracts of small functions of the reference. -/
import Derived.Test.YtjeabpbpoomlmaaAlg
set_option linter.unusedSimpArgs false
set_option linter.unusedVariables false
namespace Go.Pc
open Go Go.Proofs

theorem e_inRange : Enters Try.prog 143 := enters_of Try.func143 (by kernel_rfl) (by kernel_rfl)

theorem inRange_c (a b c : Int) : ACalls Try.prog 143 [.val (.int .i64 a), .val (.int .i64 b), .val (.int .i64 c)] [] [] (fun r L => r = .val (.bool (decide (b ≤ a ∧ a ≤ c))) ∧ L = []) := by
  refine acalls_tm T_tt Try.func143 rfl e_inRange 12 rfl (W8 _ _ _ .any .any .any .any .any [.any, .any, .any, .any, .any, .any, .any]) rfl (rv := [.tmp 6]) rfl (sx_sound (bl := []) T_tt _ _ _ ?_)
  simp only [SX0, SX1, SX2, SX3, SX4, SX5, SX6, SX7, SX8, SU0, SY0, SY1, Nat.reduceAdd, Nat.reduceMul, Nat.reduceSub, Nat.reduceLeDiff, Nat.reduceEqDiff, Nat.reduceLT, Nat.reduceBEq, ↓reduceIte, Int.reduceLE, Int.reduceLT, Int.reduceToNat, Int.reduceNeg, reduceCtorEq, Int.reduceEq, SF0, SF1, SF2]
  refine br_dec (fun h => ?_) (fun h => ?_)
  all_goals simp only [SX0, SX1, SX2, SX3, SX4, SX5, SX6, SX7, SX8, SU0, SY0, SY1, Nat.reduceAdd, Nat.reduceMul, Nat.reduceSub, Nat.reduceLeDiff, Nat.reduceEqDiff, Nat.reduceLT, Nat.reduceBEq, ↓reduceIte, Int.reduceLE, Int.reduceLT, Int.reduceToNat, Int.reduceNeg, reduceCtorEq, Int.reduceEq, SF0, SF1, SF2]
  all_goals refine fin_free rfl ⟨?_, rfl⟩
  all_goals simp [h]

/-- A pane. -/
structure Pane where
  W : Int
  H : Int
  Tu : Bool
  Ki : Int

def Pane.cs (p : Pane) : List AV := [.val (.int .i64 p.W), .val (.int .i64 p.H), .val (.bool p.Tu), .val (.int .i64 p.Ki)]
theorem Pane.len (p : Pane) : p.cs.length = 4 := rfl
theorem Pane.take (p : Pane) : p.cs.take 4 = p.cs := rfl
theorem Pane.g0 (p : Pane) : p.cs[0]? = some (.val (.int .i64 p.W)) := rfl
theorem Pane.g1 (p : Pane) : p.cs[1]? = some (.val (.int .i64 p.H)) := rfl
theorem Pane.g2 (p : Pane) : p.cs[2]? = some (.val (.bool p.Tu)) := rfl
theorem Pane.g3 (p : Pane) : p.cs[3]? = some (.val (.int .i64 p.Ki)) := rfl
theorem Pane.one (p : Pane) : p.cs.all AV.one = true := rfl
theorem Pane.pure (p : Pane) : p.cs.all AV.pure = true := rfl
theorem Pane.free (p : Pane) : freeL p.cs = true := rfl
theorem Pane.filtd (f : Nat → Bool) (p : Pane) : filtL f p.cs = p.cs := (free_filt_aux f).2 _ p.free
theorem Pane.rend (f : Nat → Nat) (p : Pane) : renL f p.cs = p.cs := freeL_rend f p.free
theorem DBa0 : type_of% @Pane.rend ∧ type_of% @Pane.filtd ∧ type_of% @Pane.len ∧ type_of% @Pane.take ∧ type_of% @Pane.g0 ∧ type_of% @Pane.g1 ∧ type_of% @Pane.g2 ∧ type_of% @Pane.g3 ∧ type_of% @Pane.one ∧ type_of% @Pane.pure := ⟨@Pane.rend, @Pane.filtd, @Pane.len, @Pane.take, @Pane.g0, @Pane.g1, @Pane.g2, @Pane.g3, @Pane.one, @Pane.pure⟩
def Pane.ok (p : Pane) : Prop := (1 ≤ p.W ∧ p.W ≤ 200) ∧ (1 ≤ p.H ∧ p.H ≤ 200) ∧ (0 ≤ p.Ki ∧ p.Ki ≤ 9)
instance (p : Pane) : Decidable p.ok := inferInstanceAs (Decidable (_ ∧ _))

theorem e_validPane : Enters Try.prog 160 := enters_of Try.func160 (by kernel_rfl) (by kernel_rfl)

theorem validPane_c (p : Pane) : ACalls Try.prog 160 [.agg p.cs] [] [] (fun r L => r = .val (.bool (decide p.ok)) ∧ L = []) := by
  refine acalls_tm T_tt Try.func160 rfl e_validPane 15 rfl (W8 _ .any .any .any .any .any .any .any (W8 .any .any .any .any .any .any .any .any [])) rfl (rv := [.tmp 2]) rfl (sx_sound (bl := []) T_tt _ _ _ ?_)
  simp only [Pane.cs]
  simp only [SX0, SX1, SX2, SX3, SX4, SX5, SX6, SX7, SX8, SU0, SY0, SY1, Nat.reduceAdd, Nat.reduceMul, Nat.reduceSub, Nat.reduceLeDiff, Nat.reduceEqDiff, Nat.reduceLT, Nat.reduceBEq, ↓reduceIte, Int.reduceLE, Int.reduceLT, Int.reduceToNat, Int.reduceNeg, reduceCtorEq, Int.reduceEq, SF0, SF1, SF2, DBa0]
  refine acall_one (inRange_c _ _ _) rfl rfl ?_
  simp only [SX0, SX1, SX2, SX3, SX4, SX5, SX6, SX7, SX8, SU0, SY0, SY1, Nat.reduceAdd, Nat.reduceMul, Nat.reduceSub, Nat.reduceLeDiff, Nat.reduceEqDiff, Nat.reduceLT, Nat.reduceBEq, ↓reduceIte, Int.reduceLE, Int.reduceLT, Int.reduceToNat, Int.reduceNeg, reduceCtorEq, Int.reduceEq, SF0, SF1, SF2, DBa0]
  refine br_dec (fun h1 => ?_) (fun h1 => ?_)
  all_goals simp only [SX0, SX1, SX2, SX3, SX4, SX5, SX6, SX7, SX8, SU0, SY0, SY1, Nat.reduceAdd, Nat.reduceMul, Nat.reduceSub, Nat.reduceLeDiff, Nat.reduceEqDiff, Nat.reduceLT, Nat.reduceBEq, ↓reduceIte, Int.reduceLE, Int.reduceLT, Int.reduceToNat, Int.reduceNeg, reduceCtorEq, Int.reduceEq, SF0, SF1, SF2, DBa0]
  · refine acall_one (inRange_c _ _ _) rfl rfl ?_
    simp only [SX0, SX1, SX2, SX3, SX4, SX5, SX6, SX7, SX8, SU0, SY0, SY1, Nat.reduceAdd, Nat.reduceMul, Nat.reduceSub, Nat.reduceLeDiff, Nat.reduceEqDiff, Nat.reduceLT, Nat.reduceBEq, ↓reduceIte, Int.reduceLE, Int.reduceLT, Int.reduceToNat, Int.reduceNeg, reduceCtorEq, Int.reduceEq, SF0, SF1, SF2, DBa0]
    refine br_dec (fun h2 => ?_) (fun h2 => ?_)
    all_goals simp only [SX0, SX1, SX2, SX3, SX4, SX5, SX6, SX7, SX8, SU0, SY0, SY1, Nat.reduceAdd, Nat.reduceMul, Nat.reduceSub, Nat.reduceLeDiff, Nat.reduceEqDiff, Nat.reduceLT, Nat.reduceBEq, ↓reduceIte, Int.reduceLE, Int.reduceLT, Int.reduceToNat, Int.reduceNeg, reduceCtorEq, Int.reduceEq, SF0, SF1, SF2, DBa0]
    · refine acall_one (inRange_c _ _ _) rfl rfl ?_
      simp only [SX0, SX1, SX2, SX3, SX4, SX5, SX6, SX7, SX8, SU0, SY0, SY1, Nat.reduceAdd, Nat.reduceMul, Nat.reduceSub, Nat.reduceLeDiff, Nat.reduceEqDiff, Nat.reduceLT, Nat.reduceBEq, ↓reduceIte, Int.reduceLE, Int.reduceLT, Int.reduceToNat, Int.reduceNeg, reduceCtorEq, Int.reduceEq, SF0, SF1, SF2, DBa0]
      refine fin_free rfl ⟨?_, rfl⟩
      simp only [Pane.ok, h1, h2, true_and]
    · refine fin_free rfl ⟨?_, rfl⟩
      simp only [Pane.ok, h2, false_and, and_false, decide_false]
  · refine fin_free rfl ⟨?_, rfl⟩
    simp only [Pane.ok, h1, false_and, decide_false]
end Go.Pc
