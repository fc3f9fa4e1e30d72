/- Boxes apart, valid places, in how many ways a pane fits. -/
import Derived.Test.YtkcpcmobmalijaaHb
set_option linter.unusedSimpArgs false
set_option linter.unusedVariables false
namespace Go.Pc
open Go Go.Proofs

theorem Box.under (b : Box) (m : Nat) : underL m b.cs = true := rfl
theorem Place.under (b : Place) (m : Nat) : underL m b.cs = true := rfl
def ways (p : Pane) (w h : Int) : Int := (if p.W ≤ w ∧ p.H ≤ h then 1 else 0) + (if p.Tu = true ∧ p.W ≠ p.H ∧ p.H ≤ w ∧ p.W ≤ h then 1 else 0)
def waysOk (p : Pane) (w h : Int) : Prop := p.ok ∧ (0 ≤ w ∧ w ≤ 200) ∧ (0 ≤ h ∧ h ≤ 200)
instance (p : Pane) (w h : Int) : Decidable (waysOk p w h) := inferInstanceAs (Decidable (_ ∧ _))

theorem e_waysIn : Enters Try.prog 137 := enters_of Try.func137 (by kernel_rfl) (by kernel_rfl)
set_option maxHeartbeats 4000000 in
theorem waysIn_c (p : Pane) (w h : Int) : ACalls Try.prog 137 [.agg p.cs, .val (.int .i64 w), .val (.int .i64 h)] [] [] (fun r L => r = .val (.int .i64 (if waysOk p w h then ways p w h else -1)) ∧ L = []) := by
  refine acalls_tm T_tt Try.func137 rfl e_waysIn 60 rfl (W8 _ _ _ .any .any .any .any .any (W8 .any .any .any .any .any .any .any .any (W8 .any .any .any .any .any .any .any .any (W8 .any .any .any .any .any .any .any .any (W8 .any .any .any .any .any .any .any .any (W8 .any .any .any .any .any .any .any .any (W8 .any .any .any .any .any .any .any .any [.any, .any, .any, .any, .any, .any, .any]))))))) rfl (rv := [.tmp 6]) rfl (sx_sound (bl := []) T_tt _ _ _ ?_)
  simp (disch := omega) only [SX0, SX1, SX2, SX3, SX4, SX5, SX6, SX7, SX8, SU0, SY0, SY1, Nat.reduceAdd, Nat.reduceMul, Nat.reduceSub, Nat.reduceLeDiff, Nat.reduceEqDiff, Nat.reduceLT, Nat.reduceBEq, ↓reduceIte, Int.reduceLE, Int.reduceLT, Int.reduceToNat, Int.reduceNeg, reduceCtorEq, Int.reduceEq, SF0, SF1, SF2, DHb0, DHb1, DHa0, DCg0, DCe0, DCe1, DCe2, DDb0, DBc0, DBc1]
  refine acall_one (validPaneI_c p) rfl rfl ?_
  simp (disch := omega) only [SX0, SX1, SX2, SX3, SX4, SX5, SX6, SX7, SX8, SU0, SY0, SY1, Nat.reduceAdd, Nat.reduceMul, Nat.reduceSub, Nat.reduceLeDiff, Nat.reduceEqDiff, Nat.reduceLT, Nat.reduceBEq, ↓reduceIte, Int.reduceLE, Int.reduceLT, Int.reduceToNat, Int.reduceNeg, reduceCtorEq, Int.reduceEq, SF0, SF1, SF2, DHb0, DHb1, DHa0, DCg0, DCe0, DCe1, DCe2, DDb0, DBc0, DBc1]
  repeat' first | with_reducible refine fin_val ⟨?_, rfl⟩ | with_reducible refine br_dec (fun hb => ?_) (fun hb => ?_) | with_reducible refine br_ndec (fun hb => ?_) (fun hb => ?_) | with_reducible refine br_bool (fun hb => ?_) (fun hb => ?_) | with_reducible refine pk_dec (fun hb => ?_) (fun hb => ?_) | with_reducible refine pk_ndec (fun hb => ?_) (fun hb => ?_) | with_reducible refine awp_drawA T_tt mixed (by decide +kernel) (by kernel_rfl) (by kernel_rfl) ?_ | simp (disch := omega) only [SX0, SX1, SX2, SX3, SX4, SX5, SX6, SX7, SX8, SU0, SY0, SY1, Nat.reduceAdd, Nat.reduceMul, Nat.reduceSub, Nat.reduceLeDiff, Nat.reduceEqDiff, Nat.reduceLT, Nat.reduceBEq, ↓reduceIte, Int.reduceLE, Int.reduceLT, Int.reduceToNat, Int.reduceNeg, reduceCtorEq, Int.reduceEq, SF0, SF1, SF2, DHb0, DHb1, DHa0, DCg0, DCe0, DCe1, DCe2, DDb0, DBc0, DBc1]
  all_goals (congr 2; unfold waysOk ways; first | (simp_all; done) | (simp_all; omega) | skip)

end Go.Pc
