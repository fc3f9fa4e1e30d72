/- Contracts of small functions of the reference. -/
import Derived.Test.YtajkeegikligcaaDoorAlf
set_option linter.unusedSimpArgs false
set_option linter.unusedVariables false
namespace Go.Pc
open Go Go.Proofs

theorem e_inRange : Enters Tryd.prog 43 := enters_of Tryd.func43 (by kernel_rfl) (by kernel_rfl)

theorem inRange_c (a b c : Int) : ACalls Tryd.prog 43 [.val (.int .i64 a), .val (.int .i64 b), .val (.int .i64 c)] [] [] (fun r L => r = .val (.bool (decide (b ≤ a ∧ a ≤ c))) ∧ L = []) := by
  refine acalls_tm T_tt Tryd.func43 rfl e_inRange 12 rfl (W8 _ _ _ .any .any .any .any .any [.any, .any, .any, .any, .any, .any, .any]) rfl (rv := [.tmp 6]) rfl (sx_sound (bl := []) T_tt _ _ _ ?_)
  simp only [SX0, SX1, SX2, SX3, SX4, SX5, SX6, SX7, SX8, SU0, SY0, SY1, Nat.reduceAdd, Nat.reduceMul, Nat.reduceSub, Nat.reduceLeDiff, Nat.reduceEqDiff, Nat.reduceLT, Nat.reduceBEq, ↓reduceIte, Int.reduceLE, Int.reduceLT, Int.reduceToNat, Int.reduceNeg, reduceCtorEq, Int.reduceEq, SF0, SF1, SF2]
  refine br_dec (fun h => ?_) (fun h => ?_)
  all_goals simp only [SX0, SX1, SX2, SX3, SX4, SX5, SX6, SX7, SX8, SU0, SY0, SY1, Nat.reduceAdd, Nat.reduceMul, Nat.reduceSub, Nat.reduceLeDiff, Nat.reduceEqDiff, Nat.reduceLT, Nat.reduceBEq, ↓reduceIte, Int.reduceLE, Int.reduceLT, Int.reduceToNat, Int.reduceNeg, reduceCtorEq, Int.reduceEq, SF0, SF1, SF2]
  all_goals refine fin_free rfl ⟨?_, rfl⟩
  all_goals simp [h]

/-- A pane. -/
structure Pane where
  W : Int
  H : Int
  Tu : Bool
  Ki : Int

def Pane.cs (p : Pane) : List AV := [.val (.int .i64 p.W), .val (.int .i64 p.H), .val (.bool p.Tu), .val (.int .i64 p.Ki)]
theorem Pane.len (p : Pane) : p.cs.length = 4 := rfl
theorem Pane.take (p : Pane) : p.cs.take 4 = p.cs := rfl
theorem Pane.g0 (p : Pane) : p.cs[0]? = some (.val (.int .i64 p.W)) := rfl
theorem Pane.g1 (p : Pane) : p.cs[1]? = some (.val (.int .i64 p.H)) := rfl
theorem Pane.g2 (p : Pane) : p.cs[2]? = some (.val (.bool p.Tu)) := rfl
theorem Pane.g3 (p : Pane) : p.cs[3]? = some (.val (.int .i64 p.Ki)) := rfl
theorem Pane.one (p : Pane) : p.cs.all AV.one = true := rfl
theorem Pane.pure (p : Pane) : p.cs.all AV.pure = true := rfl
theorem Pane.free (p : Pane) : freeL p.cs = true := rfl
theorem Pane.filtd (f : Nat → Bool) (p : Pane) : filtL f p.cs = p.cs := (free_filt_aux f).2 _ p.free
theorem Pane.rend (f : Nat → Nat) (p : Pane) : renL f p.cs = p.cs := freeL_rend f p.free
theorem DBc0 : type_of% @Pane.rend ∧ type_of% @Pane.filtd ∧ type_of% @Pane.len ∧ type_of% @Pane.take ∧ type_of% @Pane.g0 ∧ type_of% @Pane.g1 ∧ type_of% @Pane.g2 ∧ type_of% @Pane.g3 ∧ type_of% @Pane.one ∧ type_of% @Pane.pure := ⟨@Pane.rend, @Pane.filtd, @Pane.len, @Pane.take, @Pane.g0, @Pane.g1, @Pane.g2, @Pane.g3, @Pane.one, @Pane.pure⟩
def Pane.ok (p : Pane) : Prop := (1 ≤ p.W ∧ p.W ≤ 200) ∧ (1 ≤ p.H ∧ p.H ≤ 200) ∧ (0 ≤ p.Ki ∧ p.Ki ≤ 9)
instance (p : Pane) : Decidable p.ok := inferInstanceAs (Decidable (_ ∧ _))

theorem e_validPane : Enters Tryd.prog 47 := enters_of Tryd.func47 (by kernel_rfl) (by kernel_rfl)

theorem validPane_c (p : Pane) : ACalls Tryd.prog 47 [.agg p.cs] [] [] (fun r L => r = .val (.bool (decide p.ok)) ∧ L = []) := by
  refine acalls_tm T_tt Tryd.func47 rfl e_validPane 15 rfl (W8 _ .any .any .any .any .any .any .any (W8 .any .any .any .any .any .any .any .any [])) rfl (rv := [.tmp 2]) rfl (sx_sound (bl := []) T_tt _ _ _ ?_)
  simp only [Pane.cs]
  simp only [SX0, SX1, SX2, SX3, SX4, SX5, SX6, SX7, SX8, SU0, SY0, SY1, Nat.reduceAdd, Nat.reduceMul, Nat.reduceSub, Nat.reduceLeDiff, Nat.reduceEqDiff, Nat.reduceLT, Nat.reduceBEq, ↓reduceIte, Int.reduceLE, Int.reduceLT, Int.reduceToNat, Int.reduceNeg, reduceCtorEq, Int.reduceEq, SF0, SF1, SF2, DBc0]
  refine acall_one (inRange_c _ _ _) rfl rfl ?_
  simp only [SX0, SX1, SX2, SX3, SX4, SX5, SX6, SX7, SX8, SU0, SY0, SY1, Nat.reduceAdd, Nat.reduceMul, Nat.reduceSub, Nat.reduceLeDiff, Nat.reduceEqDiff, Nat.reduceLT, Nat.reduceBEq, ↓reduceIte, Int.reduceLE, Int.reduceLT, Int.reduceToNat, Int.reduceNeg, reduceCtorEq, Int.reduceEq, SF0, SF1, SF2, DBc0]
  refine br_dec (fun h1 => ?_) (fun h1 => ?_)
  all_goals simp only [SX0, SX1, SX2, SX3, SX4, SX5, SX6, SX7, SX8, SU0, SY0, SY1, Nat.reduceAdd, Nat.reduceMul, Nat.reduceSub, Nat.reduceLeDiff, Nat.reduceEqDiff, Nat.reduceLT, Nat.reduceBEq, ↓reduceIte, Int.reduceLE, Int.reduceLT, Int.reduceToNat, Int.reduceNeg, reduceCtorEq, Int.reduceEq, SF0, SF1, SF2, DBc0]
  · refine acall_one (inRange_c _ _ _) rfl rfl ?_
    simp only [SX0, SX1, SX2, SX3, SX4, SX5, SX6, SX7, SX8, SU0, SY0, SY1, Nat.reduceAdd, Nat.reduceMul, Nat.reduceSub, Nat.reduceLeDiff, Nat.reduceEqDiff, Nat.reduceLT, Nat.reduceBEq, ↓reduceIte, Int.reduceLE, Int.reduceLT, Int.reduceToNat, Int.reduceNeg, reduceCtorEq, Int.reduceEq, SF0, SF1, SF2, DBc0]
    refine br_dec (fun h2 => ?_) (fun h2 => ?_)
    all_goals simp only [SX0, SX1, SX2, SX3, SX4, SX5, SX6, SX7, SX8, SU0, SY0, SY1, Nat.reduceAdd, Nat.reduceMul, Nat.reduceSub, Nat.reduceLeDiff, Nat.reduceEqDiff, Nat.reduceLT, Nat.reduceBEq, ↓reduceIte, Int.reduceLE, Int.reduceLT, Int.reduceToNat, Int.reduceNeg, reduceCtorEq, Int.reduceEq, SF0, SF1, SF2, DBc0]
    · refine acall_one (inRange_c _ _ _) rfl rfl ?_
      simp only [SX0, SX1, SX2, SX3, SX4, SX5, SX6, SX7, SX8, SU0, SY0, SY1, Nat.reduceAdd, Nat.reduceMul, Nat.reduceSub, Nat.reduceLeDiff, Nat.reduceEqDiff, Nat.reduceLT, Nat.reduceBEq, ↓reduceIte, Int.reduceLE, Int.reduceLT, Int.reduceToNat, Int.reduceNeg, reduceCtorEq, Int.reduceEq, SF0, SF1, SF2, DBc0]
      refine fin_free rfl ⟨?_, rfl⟩
      simp only [Pane.ok, h1, h2, true_and]
    · refine fin_free rfl ⟨?_, rfl⟩
      simp only [Pane.ok, h2, false_and, and_false, decide_false]
  · refine fin_free rfl ⟨?_, rfl⟩
    simp only [Pane.ok, h1, false_and, decide_false]

end Go.Pc

/- Contracts. -/
namespace Go.Pc
open Go Go.Proofs

end Go.Pc

/- Plans: the data, their size in the reference and in the program. -/
namespace Go.Pc
open Go Go.Proofs

inductive Plan where
  | mk (op at_ pa : Int) (tu : Bool) (ks : List Plan)

namespace Plan
def op : Plan → Int | .mk o _ _ _ _ => o
def at_ : Plan → Int | .mk _ a _ _ _ => a
def pa : Plan → Int | .mk _ _ p _ _ => p
def tu : Plan → Bool | .mk _ _ _ t _ => t
def ks : Plan → List Plan | .mk _ _ _ _ k => k

mutual
def cs : Plan → List AV
  | .mk o a p t k => [.val (.int .i64 o), .val (.int .i64 a), .val (.int .i64 p), .val (.bool t), .sl (csL k)]
def csL : List Plan → List (List AV)
  | [] => []
  | p :: l => p.cs :: csL l
end
theorem csL_map (l : List Plan) : csL l = l.map cs := by
  induction l with
  | nil => simp [csL]
  | cons p l ih => simp [csL, ih]
theorem cs_eq (p : Plan) : p.cs = [.val (.int .i64 p.op), .val (.int .i64 p.at_), .val (.int .i64 p.pa), .val (.bool p.tu), .sl (p.ks.map cs)] := by
  cases p
  simp [cs, csL_map, op, at_, pa, tu, ks]
theorem len (p : Plan) : p.cs.length = 5 := by simp [cs_eq]
theorem take (p : Plan) : p.cs.take 5 = p.cs := by simp [cs_eq]

theorem g0 (p : Plan) : p.cs[0]? = some (.val (.int .i64 p.op)) := by simp [cs_eq]
theorem g1 (p : Plan) : p.cs[1]? = some (.val (.int .i64 p.at_)) := by simp [cs_eq]
theorem g2 (p : Plan) : p.cs[2]? = some (.val (.int .i64 p.pa)) := by simp [cs_eq]
theorem g3 (p : Plan) : p.cs[3]? = some (.val (.bool p.tu)) := by simp [cs_eq]
theorem g4 (p : Plan) : p.cs[4]? = some (.sl (p.ks.map cs)) := by simp [cs_eq]

theorem one (p : Plan) : p.cs.all AV.one = true := by simp [cs_eq, AV.one, Value.oneCell']
theorem pure (p : Plan) : p.cs.all AV.pure = true := by simp [cs_eq, AV.pure]
theorem free (p : Plan) : freeL p.cs = true := by simp [cs_eq, freeL, AV.free]

mutual
def nodes : Plan → Nat
  | .mk _ _ _ _ k => 1 + nodesL k
def nodesL : List Plan → Nat
  | [] => 0
  | p :: l => p.nodes + nodesL l
end
/-- A cut. -/
def cut (p : Plan) : Prop := p.op = 2 ∨ p.op = 3
instance (p : Plan) : Decidable p.cut := inferInstanceAs (Decidable (_ ∨ _))

/-- What holds of a part by itself. -/
def good (p : Plan) : Prop :=
  if p.cut then p.ks.length = 2 ∧ p.pa = 0 ∧ p.tu = false
  else p.ks.length = 0 ∧ p.at_ = 0 ∧ (p.op = 1 ∨ (p.op = 0 ∧ p.pa = 0 ∧ p.tu = false))
instance (p : Plan) : Decidable p.good := by unfold good; infer_instance

mutual
/-- Well formed. -/
def wf : Plan → Bool
  | .mk o a p t k => decide (good (.mk o a p t k)) && wfL k
def wfL : List Plan → Bool
  | [] => true
  | p :: l => p.wf && wfL l
end
/-- The number of parts, -1 if there is none. -/
def size (p : Plan) : Int := if p.wf = true ∧ p.nodes ≤ 255 then p.nodes else -1

end Plan

theorem Plan.filtd (f : Nat → Bool) (p : Plan) : filtL f p.cs = p.cs := (free_filt_aux f).2 _ p.free
theorem Plan.rend (f : Nat → Nat) (p : Plan) : renL f p.cs = p.cs := freeL_rend f p.free
theorem DBc1 : type_of% @Plan.rend ∧ type_of% @Plan.filtd ∧ type_of% @Plan.len ∧ type_of% @Plan.take ∧ type_of% @Plan.g0 ∧ type_of% @Plan.g1 ∧ type_of% @Plan.g2 ∧ type_of% @Plan.g3 ∧ type_of% @Plan.g4 ∧ type_of% @Plan.one ∧ type_of% @Plan.pure := ⟨@Plan.rend, @Plan.filtd, @Plan.len, @Plan.take, @Plan.g0, @Plan.g1, @Plan.g2, @Plan.g3, @Plan.g4, @Plan.one, @Plan.pure⟩

theorem Plan.under (p : Plan) (m : Nat) : underL m p.cs = true := by simp [Plan.cs_eq, underL, AV.under]
end Go.Pc
