/- Works that are drawn for the bounds. -/
import Derived.Test.YtkcpcmobmalijaaDe
import Derived.Test.YtkcpcmobmalijaaAlg
set_option linter.unusedSimpArgs false
set_option linter.unusedVariables false
namespace Go.Pc
open Go Go.Proofs

/-- A drawn work whose panes lie in a row of their own. -/
def DrawnS (xs : List Int) (p m : Int) (r : AV) (L : List OB) : Prop :=
  ∃ (k : Work) (p' : Int), r = .agg [.val (.int .i64 k.W), .val (.int .i64 k.H), .os 1 4 0 k.Ps.length] ∧ L = [rdr xs p', .vec 4 (k.Ps.map Pane.cs)] ∧ (0 ≤ k.W ∧ k.W ≤ 201) ∧ (1 ≤ k.H ∧ k.H ≤ 16) ∧ k.Ps.length ≤ 7 ∧ (∀ q ∈ k.Ps, q.Small) ∧ p ≤ p' ∧ p' ≤ p + m

theorem e_sheetWork : Enters Try.prog 129 := enters_of Try.func129 (by kernel_rfl) (by kernel_rfl)
set_option maxRecDepth 8000 in
set_option maxHeartbeats 4000000 in
theorem sheetWork_c (xs : List Int) (p : Int) (b : Bool) (hx : ∀ x ∈ xs, 0 ≤ x ∧ x < 256) (hl : xs.length ≤ 2000) (hp : 0 ≤ p ∧ p ≤ 900000000) : ACalls Try.prog 129 [.ptr 0 0, .val (.bool b)] [rdr xs p] [0] (DrawnS xs p 40) := by
  refine acalls_tm T_tt Try.func129 rfl e_sheetWork 44 rfl (W8 _ _ .any .any .any .any .any .any (W8 .any .any .any .any .any .any .any .any (W8 .any .any .any .any .any .any .any .any (W8 .any .any .any .any .any .any .any .any (W8 .any .any .any .any .any .any .any .any [.any, .any, .any, .any, .any, .any]))))) rfl (rv := [.cell 4 25]) rfl (sx_sound (bl := []) T_tt _ _ _ ?_)
  simp (disch := omega) only [SX0, SX1, SX2, SX3, SX4, SX5, SX6, SX7, SX8, SU0, SY0, SY1, Nat.reduceAdd, Nat.reduceMul, Nat.reduceSub, Nat.reduceLeDiff, Nat.reduceEqDiff, Nat.reduceLT, Nat.reduceBEq, ↓reduceIte, Int.reduceLE, Int.reduceLT, Int.reduceToNat, Int.reduceNeg, reduceCtorEq, Int.reduceEq, SF0, SF1, SF2, DDe0, DCg0, DCe0, DCe1, DCe2, DDb0, DBc0, DBc1, DAlg0, DAlh0]
  refine one_call hx hl (by omega) (l := [10, 8, 12, 16, 6]) (by simp) rfl rfl fun W hW => ?_
  simp (disch := omega) only [SX0, SX1, SX2, SX3, SX4, SX5, SX6, SX7, SX8, SU0, SY0, SY1, Nat.reduceAdd, Nat.reduceMul, Nat.reduceSub, Nat.reduceLeDiff, Nat.reduceEqDiff, Nat.reduceLT, Nat.reduceBEq, ↓reduceIte, Int.reduceLE, Int.reduceLT, Int.reduceToNat, Int.reduceNeg, reduceCtorEq, Int.reduceEq, SF0, SF1, SF2, DDe0, DCg0, DCe0, DCe1, DCe2, DDb0, DBc0, DBc1, DAlg0, DAlh0]
  refine one_call hx hl (by omega) (l := [8, 10, 6, 16, 12]) (by simp) rfl rfl fun H hH => ?_
  have hW' : 6 ≤ W ∧ W ≤ 16 := by simp at hW; omega
  have hH' : 6 ≤ H ∧ H ≤ 16 := by simp at hH; omega
  simp (disch := omega) only [SX0, SX1, SX2, SX3, SX4, SX5, SX6, SX7, SX8, SU0, SY0, SY1, Nat.reduceAdd, Nat.reduceMul, Nat.reduceSub, Nat.reduceLeDiff, Nat.reduceEqDiff, Nat.reduceLT, Nat.reduceBEq, ↓reduceIte, Int.reduceLE, Int.reduceLT, Int.reduceToNat, Int.reduceNeg, reduceCtorEq, Int.reduceEq, SF0, SF1, SF2, DDe0, DCg0, DCe0, DCe1, DCe2, DDb0, DBc0, DBc1, DAlg0, DAlh0]
  refine one_call hx hl (by omega) (l := [3, 4, 2, 5, 1, 0, 7]) (by simp) rfl rfl fun n hn => ?_
  have hn' : 0 ≤ n ∧ n ≤ 7 := by simp at hn; omega
  simp (disch := omega) only [SX0, SX1, SX2, SX3, SX4, SX5, SX6, SX7, SX8, SU0, SY0, SY1, Nat.reduceAdd, Nat.reduceMul, Nat.reduceSub, Nat.reduceLeDiff, Nat.reduceEqDiff, Nat.reduceLT, Nat.reduceBEq, ↓reduceIte, Int.reduceLE, Int.reduceLT, Int.reduceToNat, Int.reduceNeg, reduceCtorEq, Int.reduceEq, SF0, SF1, SF2, DDe0, DCg0, DCe0, DCe1, DCe2, DDb0, DBc0, DBc1, DAlg0, DAlh0]
  refine awp_wk (wk_nilc 2 2 4 _ (by decide) rfl rfl) ?_
  simp (disch := omega) only [SX0, SX1, SX2, SX3, SX4, SX5, SX6, SX7, SX8, SU0, SY0, SY1, Nat.reduceAdd, Nat.reduceMul, Nat.reduceSub, Nat.reduceLeDiff, Nat.reduceEqDiff, Nat.reduceLT, Nat.reduceBEq, ↓reduceIte, Int.reduceLE, Int.reduceLT, Int.reduceToNat, Int.reduceNeg, reduceCtorEq, Int.reduceEq, SF0, SF1, SF2, DDe0, DCg0, DCe0, DCe1, DCe2, DDb0, DBc0, DBc1, DAlg0, DAlh0]
  with_reducible refine awp_loop_h (G := List Pane × Int × Int) 7 39 (fun g => [(6, .val (.int .i64 g.2.1))]) (fun g => [rdr xs g.2.2, .cells [.val (.int .i64 0), .val (.int .i64 0), .val (.slice none 0 0)], .cells [.val (.int .i64 W), .val (.int .i64 H), .os 3 4 0 g.1.length], .vec 4 (g.1.map Pane.cs)]) (fun g => (0 ≤ g.2.1 ∧ g.1.length + g.2.1 ≤ 7) ∧ (p ≤ g.2.2 ∧ g.2.2 + 4 * g.2.1 ≤ p + 40) ∧ ∀ q ∈ g.1, q.Small) (fun g => g.2.1.toNat) ([], n, p + 1 + 1 + 1) ⟨by simp only [List.length_nil]; omega, by simp only []; omega, by simp⟩ ?_ (fun g hg => ?_)
  · simp (disch := omega) only [SX0, SX1, SX2, SX3, SX4, SX5, SX6, SX7, SX8, SU0, SY0, SY1, Nat.reduceAdd, Nat.reduceMul, Nat.reduceSub, Nat.reduceLeDiff, Nat.reduceEqDiff, Nat.reduceLT, Nat.reduceBEq, ↓reduceIte, Int.reduceLE, Int.reduceLT, Int.reduceToNat, Int.reduceNeg, reduceCtorEq, Int.reduceEq, SF0, SF1, SF2, DDe0, DCg0, DCe0, DCe1, DCe2, DDb0, DBc0, DBc1, DAlg0, DAlh0]
    (refine wk_le ?_ ?_ ?_; (focus (simp [W8, leTm, leAV, AV.under, underL, rdr]; done)); (focus (simp [leL, OB.under, underL, AV.under, rdr]; done)); (focus (simp; done)))
  obtain ⟨Ps, m, p'⟩ := g
  simp only at hg
  obtain ⟨h1, h2, h3⟩ := hg
  refine sx_sound (bl := []) T_tt _ _ _ ?_
  simp (disch := omega) only [SX0, SX1, SX2, SX3, SX4, SX5, SX6, SX7, SX8, SU0, SY0, SY1, Nat.reduceAdd, Nat.reduceMul, Nat.reduceSub, Nat.reduceLeDiff, Nat.reduceEqDiff, Nat.reduceLT, Nat.reduceBEq, ↓reduceIte, Int.reduceLE, Int.reduceLT, Int.reduceToNat, Int.reduceNeg, reduceCtorEq, Int.reduceEq, SF0, SF1, SF2, DDe0, DCg0, DCe0, DCe1, DCe2, DDb0, DBc0, DBc1, DAlg0, DAlh0]
  refine br_dec (fun h4 => ?_) (fun h4 => ?_)
  · cases b
    · simp (disch := omega) only [SX0, SX1, SX2, SX3, SX4, SX5, SX6, SX7, SX8, SU0, SY0, SY1, Nat.reduceAdd, Nat.reduceMul, Nat.reduceSub, Nat.reduceLeDiff, Nat.reduceEqDiff, Nat.reduceLT, Nat.reduceBEq, ↓reduceIte, Int.reduceLE, Int.reduceLT, Int.reduceToNat, Int.reduceNeg, reduceCtorEq, Int.reduceEq, SF0, SF1, SF2, DDe0, DCg0, DCe0, DCe1, DCe2, DDb0, DBc0, DBc1, DAlg0, DAlh0]
      refine awp_floatU (bl := []) T_tt mixed 1 false [(12, 33), (13, 34)] rfl (by kernel_rfl) rfl [0, 1, 2, 3] [0, 1, 2, 3, 4, 6, 7, 8, 9, 11, 12, 13, 14, 15, 16, 17, 18, 20, 21, 23] [0, 1, 2, 3, 4, 7, 8, 9, 12, 18] [⟨5, [0, 1, 2, 3], [(2, .f 23), (3, .f 24), (4, .f 25)], [6], [(0, .f 21), (1, .f 22), (7, .f 28), (8, .f 29), (9, .f 30), (12, .f 33), (18, .f 39)]⟩, ⟨10, [0, 1, 2, 3], [(7, .f 28), (8, .f 29), (9, .f 30)], [11, 13, 14, 15, 16, 17], [(0, .f 21), (1, .f 22), (6, .f 27), (12, .f 33), (18, .f 39)]⟩, ⟨19, [0, 1, 2, 3], [(12, .f 33), (13, .f 34), (14, .f 35), (15, .f 36), (18, .f 39)], [20, 21], [(0, .f 21), (1, .f 22), (6, .f 27), (11, .f 32), (16, .f 37), (17, .f 38)]⟩, ⟨22, [0, 1, 2], [(0, .f 21), (1, .f 22), (6, .f 27), (11, .f 32), (16, .f 37), (17, .f 38), (20, .f 41), (21, .f 42)], [23], []⟩, ⟨24, [0, 1, 2], [(23, .f 44)], [], []⟩] [] (by kernel_rfl) (by kernel_rfl) ?_
      simp only [ungL_nil, ungL_none, ungL_some, List.any_cons, List.any_nil, Nat.reduceBEq, Bool.or_true, Bool.true_or, Bool.or_false, if_true, if_false, Bool.false_eq_true, reduceCtorEq, Bool.false_or]
      simp (disch := omega) only [SX0, SX1, SX2, SX3, SX4, SX5, SX6, SX7, SX8, SU0, SY0, SY1, Nat.reduceAdd, Nat.reduceMul, Nat.reduceSub, Nat.reduceLeDiff, Nat.reduceEqDiff, Nat.reduceLT, Nat.reduceBEq, ↓reduceIte, Int.reduceLE, Int.reduceLT, Int.reduceToNat, Int.reduceNeg, reduceCtorEq, Int.reduceEq, SF0, SF1, SF2, DDe0, DCg0, DCe0, DCe1, DCe2, DDb0, DBc0, DBc1, DAlg0, DAlh0, SX0]
      refine pick_call hx hl (by omega) rfl fun v1 hv1 hv1' _ => ?_
      have hv1' := hv1' (by omega)
      simp (disch := omega) only [SX0, SX1, SX2, SX3, SX4, SX5, SX6, SX7, SX8, SU0, SY0, SY1, Nat.reduceAdd, Nat.reduceMul, Nat.reduceSub, Nat.reduceLeDiff, Nat.reduceEqDiff, Nat.reduceLT, Nat.reduceBEq, ↓reduceIte, Int.reduceLE, Int.reduceLT, Int.reduceToNat, Int.reduceNeg, reduceCtorEq, Int.reduceEq, SF0, SF1, SF2, DDe0, DCg0, DCe0, DCe1, DCe2, DDb0, DBc0, DBc1, DAlg0, DAlh0, SX0]
      refine pick_call hx hl (by omega) rfl fun v2 hv2 hv2' _ => ?_
      have hv2' := hv2' (by omega)
      simp (disch := omega) only [SX0, SX1, SX2, SX3, SX4, SX5, SX6, SX7, SX8, SU0, SY0, SY1, Nat.reduceAdd, Nat.reduceMul, Nat.reduceSub, Nat.reduceLeDiff, Nat.reduceEqDiff, Nat.reduceLT, Nat.reduceBEq, ↓reduceIte, Int.reduceLE, Int.reduceLT, Int.reduceToNat, Int.reduceNeg, reduceCtorEq, Int.reduceEq, SF0, SF1, SF2, DDe0, DCg0, DCe0, DCe1, DCe2, DDb0, DBc0, DBc1, DAlg0, DAlh0, SX0]
      refine pick_call hx hl (by omega) rfl fun v4 hv4 hv4' _ => ?_
      have hv4' := hv4' (by omega)
      simp (disch := omega) only [SX0, SX1, SX2, SX3, SX4, SX5, SX6, SX7, SX8, SU0, SY0, SY1, Nat.reduceAdd, Nat.reduceMul, Nat.reduceSub, Nat.reduceLeDiff, Nat.reduceEqDiff, Nat.reduceLT, Nat.reduceBEq, ↓reduceIte, Int.reduceLE, Int.reduceLT, Int.reduceToNat, Int.reduceNeg, reduceCtorEq, Int.reduceEq, SF0, SF1, SF2, DDe0, DCg0, DCe0, DCe1, DCe2, DDb0, DBc0, DBc1, DAlg0, DAlh0, SX0]
      refine req (by decide) ?_
      simp (disch := omega) only [SX0, SX1, SX2, SX3, SX4, SX5, SX6, SX7, SX8, SU0, SY0, SY1, Nat.reduceAdd, Nat.reduceMul, Nat.reduceSub, Nat.reduceLeDiff, Nat.reduceEqDiff, Nat.reduceLT, Nat.reduceBEq, ↓reduceIte, Int.reduceLE, Int.reduceLT, Int.reduceToNat, Int.reduceNeg, reduceCtorEq, Int.reduceEq, SF0, SF1, SF2, DDe0, DCg0, DCe0, DCe1, DCe2, DDb0, DBc0, DBc1, DAlg0, DAlh0, SX0]
      refine req (by omega) ?_
      simp (disch := omega) only [SX0, SX1, SX2, SX3, SX4, SX5, SX6, SX7, SX8, SU0, SY0, SY1, Nat.reduceAdd, Nat.reduceMul, Nat.reduceSub, Nat.reduceLeDiff, Nat.reduceEqDiff, Nat.reduceLT, Nat.reduceBEq, ↓reduceIte, Int.reduceLE, Int.reduceLT, Int.reduceToNat, Int.reduceNeg, reduceCtorEq, Int.reduceEq, SF0, SF1, SF2, DDe0, DCg0, DCe0, DCe1, DCe2, DDb0, DBc0, DBc1, DAlg0, DAlh0, SX0]
      refine ⟨(Ps ++ [⟨1 + v1, 1 + v2, false, v4⟩], m - 1, p' + 1 + 1 + 1), ⟨⟨by simp only []; omega, by simp only [List.length_append, List.length_singleton]; omega⟩, ⟨by simp only []; omega, by simp only []; omega⟩, fun q hq => ?_⟩, by simp only []; omega, ?_⟩
      · rcases List.mem_append.1 hq with hq | hq
        · exact h3 q hq
        · rw [List.mem_singleton.1 hq]
          exact ⟨⟨by simp only []; omega, by simp only []; omega⟩, ⟨by simp only []; omega, by simp only []; omega⟩, ⟨by simp only []; omega, by simp only []; omega⟩⟩
      (refine wk_le ?_ ?_ ?_; (focus (simp [W8, leTm, leAV, AV.under, underL, rdr, Pane.cs]; done)); (focus (simp [leL, OB.under, underL, AV.under, rdr, Pane.cs]; done)); (focus (simp; done)))
    · simp (disch := omega) only [SX0, SX1, SX2, SX3, SX4, SX5, SX6, SX7, SX8, SU0, SY0, SY1, Nat.reduceAdd, Nat.reduceMul, Nat.reduceSub, Nat.reduceLeDiff, Nat.reduceEqDiff, Nat.reduceLT, Nat.reduceBEq, ↓reduceIte, Int.reduceLE, Int.reduceLT, Int.reduceToNat, Int.reduceNeg, reduceCtorEq, Int.reduceEq, SF0, SF1, SF2, DDe0, DCg0, DCe0, DCe1, DCe2, DDb0, DBc0, DBc1, DAlg0, DAlh0]
      refine awp_floatU (bl := []) T_tt mixed 1 true [(12, 33), (13, 34)] rfl (by kernel_rfl) rfl [0, 1, 2, 3] [0, 1, 2, 3, 4, 6, 7, 8, 9, 11, 12, 13, 14, 16, 17, 18, 20, 21, 23] [0, 1, 2, 3, 4, 7, 8, 9, 12, 18] [⟨5, [0, 1, 2, 3], [(2, .f 23), (3, .f 24), (4, .f 25)], [6], [(0, .f 21), (1, .f 22), (7, .f 28), (8, .f 29), (9, .f 30), (12, .f 33), (18, .f 39)]⟩, ⟨10, [0, 1, 2, 3], [(7, .f 28), (8, .f 29), (9, .f 30)], [11, 13, 14], [(0, .f 21), (1, .f 22), (6, .f 27), (12, .f 33), (18, .f 39)]⟩, ⟨15, [0, 1, 2, 3], [(12, .f 33), (13, .f 34), (14, .f 35)], [16, 17], [(0, .f 21), (1, .f 22), (6, .f 27), (11, .f 32), (18, .f 39)]⟩, ⟨19, [0, 1, 2, 3], [(18, .f 39)], [20, 21], [(0, .f 21), (1, .f 22), (6, .f 27), (11, .f 32), (16, .f 37), (17, .f 38)]⟩, ⟨22, [0, 1, 2], [(0, .f 21), (1, .f 22), (6, .f 27), (11, .f 32), (16, .f 37), (17, .f 38), (20, .f 41), (21, .f 42)], [23], []⟩, ⟨24, [0, 1, 2], [(23, .f 44)], [], []⟩] [] (by kernel_rfl) (by kernel_rfl) ?_
      simp only [ungL_nil, ungL_none, ungL_some, List.any_cons, List.any_nil, Nat.reduceBEq, Bool.or_true, Bool.true_or, Bool.or_false, if_true, if_false, Bool.false_eq_true, reduceCtorEq, Bool.false_or]
      simp (disch := omega) only [SX0, SX1, SX2, SX3, SX4, SX5, SX6, SX7, SX8, SU0, SY0, SY1, Nat.reduceAdd, Nat.reduceMul, Nat.reduceSub, Nat.reduceLeDiff, Nat.reduceEqDiff, Nat.reduceLT, Nat.reduceBEq, ↓reduceIte, Int.reduceLE, Int.reduceLT, Int.reduceToNat, Int.reduceNeg, reduceCtorEq, Int.reduceEq, SF0, SF1, SF2, DDe0, DCg0, DCe0, DCe1, DCe2, DDb0, DBc0, DBc1, DAlg0, DAlh0, SX0]
      refine pick_call hx hl (by omega) rfl fun v1 hv1 hv1' _ => ?_
      have hv1' := hv1' (by omega)
      simp (disch := omega) only [SX0, SX1, SX2, SX3, SX4, SX5, SX6, SX7, SX8, SU0, SY0, SY1, Nat.reduceAdd, Nat.reduceMul, Nat.reduceSub, Nat.reduceLeDiff, Nat.reduceEqDiff, Nat.reduceLT, Nat.reduceBEq, ↓reduceIte, Int.reduceLE, Int.reduceLT, Int.reduceToNat, Int.reduceNeg, reduceCtorEq, Int.reduceEq, SF0, SF1, SF2, DDe0, DCg0, DCe0, DCe1, DCe2, DDb0, DBc0, DBc1, DAlg0, DAlh0, SX0]
      refine pick_call hx hl (by omega) rfl fun v2 hv2 hv2' _ => ?_
      have hv2' := hv2' (by omega)
      simp (disch := omega) only [SX0, SX1, SX2, SX3, SX4, SX5, SX6, SX7, SX8, SU0, SY0, SY1, Nat.reduceAdd, Nat.reduceMul, Nat.reduceSub, Nat.reduceLeDiff, Nat.reduceEqDiff, Nat.reduceLT, Nat.reduceBEq, ↓reduceIte, Int.reduceLE, Int.reduceLT, Int.reduceToNat, Int.reduceNeg, reduceCtorEq, Int.reduceEq, SF0, SF1, SF2, DDe0, DCg0, DCe0, DCe1, DCe2, DDb0, DBc0, DBc1, DAlg0, DAlh0, SX0]
      refine pick_call hx hl (by omega) rfl fun v3 hv3 hv3' _ => ?_
      have hv3' := hv3' (by omega)
      simp (disch := omega) only [SX0, SX1, SX2, SX3, SX4, SX5, SX6, SX7, SX8, SU0, SY0, SY1, Nat.reduceAdd, Nat.reduceMul, Nat.reduceSub, Nat.reduceLeDiff, Nat.reduceEqDiff, Nat.reduceLT, Nat.reduceBEq, ↓reduceIte, Int.reduceLE, Int.reduceLT, Int.reduceToNat, Int.reduceNeg, reduceCtorEq, Int.reduceEq, SF0, SF1, SF2, DDe0, DCg0, DCe0, DCe1, DCe2, DDb0, DBc0, DBc1, DAlg0, DAlh0, SX0]
      refine pick_call hx hl (by omega) rfl fun v4 hv4 hv4' _ => ?_
      have hv4' := hv4' (by omega)
      simp (disch := omega) only [SX0, SX1, SX2, SX3, SX4, SX5, SX6, SX7, SX8, SU0, SY0, SY1, Nat.reduceAdd, Nat.reduceMul, Nat.reduceSub, Nat.reduceLeDiff, Nat.reduceEqDiff, Nat.reduceLT, Nat.reduceBEq, ↓reduceIte, Int.reduceLE, Int.reduceLT, Int.reduceToNat, Int.reduceNeg, reduceCtorEq, Int.reduceEq, SF0, SF1, SF2, DDe0, DCg0, DCe0, DCe1, DCe2, DDb0, DBc0, DBc1, DAlg0, DAlh0, SX0]
      refine req (by decide) ?_
      simp (disch := omega) only [SX0, SX1, SX2, SX3, SX4, SX5, SX6, SX7, SX8, SU0, SY0, SY1, Nat.reduceAdd, Nat.reduceMul, Nat.reduceSub, Nat.reduceLeDiff, Nat.reduceEqDiff, Nat.reduceLT, Nat.reduceBEq, ↓reduceIte, Int.reduceLE, Int.reduceLT, Int.reduceToNat, Int.reduceNeg, reduceCtorEq, Int.reduceEq, SF0, SF1, SF2, DDe0, DCg0, DCe0, DCe1, DCe2, DDb0, DBc0, DBc1, DAlg0, DAlh0, SX0]
      refine req (by omega) ?_
      simp (disch := omega) only [SX0, SX1, SX2, SX3, SX4, SX5, SX6, SX7, SX8, SU0, SY0, SY1, Nat.reduceAdd, Nat.reduceMul, Nat.reduceSub, Nat.reduceLeDiff, Nat.reduceEqDiff, Nat.reduceLT, Nat.reduceBEq, ↓reduceIte, Int.reduceLE, Int.reduceLT, Int.reduceToNat, Int.reduceNeg, reduceCtorEq, Int.reduceEq, SF0, SF1, SF2, DDe0, DCg0, DCe0, DCe1, DCe2, DDb0, DBc0, DBc1, DAlg0, DAlh0, SX0]
      refine ⟨(Ps ++ [⟨1 + v1, 1 + v2, decide (v3 = 0), v4⟩], m - 1, p' + 1 + 1 + 1 + 1), ⟨⟨by simp only []; omega, by simp only [List.length_append, List.length_singleton]; omega⟩, ⟨by simp only []; omega, by simp only []; omega⟩, fun q hq => ?_⟩, by simp only []; omega, ?_⟩
      · rcases List.mem_append.1 hq with hq | hq
        · exact h3 q hq
        · rw [List.mem_singleton.1 hq]
          exact ⟨⟨by simp only []; omega, by simp only []; omega⟩, ⟨by simp only []; omega, by simp only []; omega⟩, ⟨by simp only []; omega, by simp only []; omega⟩⟩
      (refine wk_le ?_ ?_ ?_; (focus (simp [W8, leTm, leAV, AV.under, underL, rdr, Pane.cs]; done)); (focus (simp [leL, OB.under, underL, AV.under, rdr, Pane.cs]; done)); (focus (simp; done)))
  · simp (disch := omega) only [SX0, SX1, SX2, SX3, SX4, SX5, SX6, SX7, SX8, SU0, SY0, SY1, Nat.reduceAdd, Nat.reduceMul, Nat.reduceSub, Nat.reduceLeDiff, Nat.reduceEqDiff, Nat.reduceLT, Nat.reduceBEq, ↓reduceIte, Int.reduceLE, Int.reduceLT, Int.reduceToNat, Int.reduceNeg, reduceCtorEq, Int.reduceEq, SF0, SF1, SF2, DDe0, DCg0, DCe0, DCe1, DCe2, DDb0, DBc0, DBc1, DAlg0, DAlh0]
    refine fin_ks [0, 3] (.agg [.val (.int .i64 W), .val (.int .i64 H), .os 1 4 0 Ps.length]) [rdr xs p', .vec 4 (Ps.map Pane.cs)] ⟨⟨W, H, Ps⟩, p', rfl, rfl, by simp only []; omega, by simp only []; omega, by simp only []; omega, h3, by omega, by omega⟩ (by simp [AV.ren, renL, nameK]) (by simp [keepL, nameK, rdr, OB.ren, AV.ren]) (by simp) (by simp) (by simp)

theorem e_anySheetWork : Enters Try.prog 77 := enters_of Try.func77 (by kernel_rfl) (by kernel_rfl)
set_option maxRecDepth 8000 in
set_option maxHeartbeats 4000000 in
theorem anySheetWork_c (xs : List Int) (p : Int) (b : Bool) (hx : ∀ x ∈ xs, 0 ≤ x ∧ x < 256) (hl : xs.length ≤ 2000) (hp : 0 ≤ p ∧ p ≤ 900000000) : ACalls Try.prog 77 [.ptr 0 0, .val (.bool b)] [rdr xs p] [0] (DrawnS xs p 50) := by
  refine acalls_tm T_tt Try.func77 rfl e_anySheetWork 29 rfl (W8 _ _ .any .any .any .any .any .any (W8 .any .any .any .any .any .any .any .any (W8 .any .any .any .any .any .any .any .any [.any, .any, .any, .any, .any, .any, .any]))) rfl (rv := [.cell 4 25]) rfl (sx_sound (bl := []) T_tt _ _ _ ?_)
  simp (disch := omega) only [SX0, SX1, SX2, SX3, SX4, SX5, SX6, SX7, SX8, SU0, SY0, SY1, Nat.reduceAdd, Nat.reduceMul, Nat.reduceSub, Nat.reduceLeDiff, Nat.reduceEqDiff, Nat.reduceLT, Nat.reduceBEq, ↓reduceIte, Int.reduceLE, Int.reduceLT, Int.reduceToNat, Int.reduceNeg, reduceCtorEq, Int.reduceEq, SF0, SF1, SF2, DDe0, DCg0, DCe0, DCe1, DCe2, DDb0, DBc0, DBc1, DAlg0, DAlh0]
  refine acall_own (sheetWork_c xs p b hx hl hp) [0] [] (by simp only [SX0, SX1, SX2, SX3, SX4, SX5, SX6, SX7, SX8, SU0, SY0, SY1, Nat.reduceAdd, Nat.reduceMul, Nat.reduceSub, Nat.reduceLeDiff, Nat.reduceEqDiff, Nat.reduceLT, Nat.reduceBEq, ↓reduceIte, Int.reduceLE, Int.reduceLT, Int.reduceToNat, Int.reduceNeg, reduceCtorEq, Int.reduceEq, SF0, SF1, SF2, DDe0, DCg0, DCe0, DCe1, DCe2, DDb0, DBc0, DBc1, DAlg0, DAlh0, SX0]) (by decide) (by decide) (by rfl) (by simp only [SX0, SX1, SX2, SX3, SX4, SX5, SX6, SX7, SX8, SU0, SY0, SY1, Nat.reduceAdd, Nat.reduceMul, Nat.reduceSub, Nat.reduceLeDiff, Nat.reduceEqDiff, Nat.reduceLT, Nat.reduceBEq, ↓reduceIte, Int.reduceLE, Int.reduceLT, Int.reduceToNat, Int.reduceNeg, reduceCtorEq, Int.reduceEq, SF0, SF1, SF2, DDe0, DCg0, DCe0, DCe1, DCe2, DDb0, DBc0, DBc1, DAlg0, DAlh0, SX0]) ?_
  rintro _ _ ⟨k, p1, rfl, rfl, h1, h2, h3, h4, h5, h6⟩
  simp (disch := omega) only [SX0, SX1, SX2, SX3, SX4, SX5, SX6, SX7, SX8, SU0, SY0, SY1, Nat.reduceAdd, Nat.reduceMul, Nat.reduceSub, Nat.reduceLeDiff, Nat.reduceEqDiff, Nat.reduceLT, Nat.reduceBEq, ↓reduceIte, Int.reduceLE, Int.reduceLT, Int.reduceToNat, Int.reduceNeg, reduceCtorEq, Int.reduceEq, SF0, SF1, SF2, DDe0, DCg0, DCe0, DCe1, DCe2, DDb0, DBc0, DBc1, DAlg0, DAlh0]
  refine pick_call hx hl (by omega) rfl fun c hc1 hc2 hc3 => ?_
  simp (disch := omega) only [SX0, SX1, SX2, SX3, SX4, SX5, SX6, SX7, SX8, SU0, SY0, SY1, Nat.reduceAdd, Nat.reduceMul, Nat.reduceSub, Nat.reduceLeDiff, Nat.reduceEqDiff, Nat.reduceLT, Nat.reduceBEq, ↓reduceIte, Int.reduceLE, Int.reduceLT, Int.reduceToNat, Int.reduceNeg, reduceCtorEq, Int.reduceEq, SF0, SF1, SF2, DDe0, DCg0, DCe0, DCe1, DCe2, DDb0, DBc0, DBc1, DAlg0, DAlh0]
  refine br_dec (fun h7 => ?_) (fun h7 => ?_)
  · simp (disch := omega) only [SX0, SX1, SX2, SX3, SX4, SX5, SX6, SX7, SX8, SU0, SY0, SY1, Nat.reduceAdd, Nat.reduceMul, Nat.reduceSub, Nat.reduceLeDiff, Nat.reduceEqDiff, Nat.reduceLT, Nat.reduceBEq, ↓reduceIte, Int.reduceLE, Int.reduceLT, Int.reduceToNat, Int.reduceNeg, reduceCtorEq, Int.reduceEq, SF0, SF1, SF2, DDe0, DCg0, DCe0, DCe1, DCe2, DDb0, DBc0, DBc1, DAlg0, DAlh0]
    refine one_call hx hl (by omega) (l := [0, 17, 201]) (by simp) rfl rfl fun v hv => ?_
    have hv' : 0 ≤ v ∧ v ≤ 201 := by simp at hv; omega
    simp (disch := omega) only [SX0, SX1, SX2, SX3, SX4, SX5, SX6, SX7, SX8, SU0, SY0, SY1, Nat.reduceAdd, Nat.reduceMul, Nat.reduceSub, Nat.reduceLeDiff, Nat.reduceEqDiff, Nat.reduceLT, Nat.reduceBEq, ↓reduceIte, Int.reduceLE, Int.reduceLT, Int.reduceToNat, Int.reduceNeg, reduceCtorEq, Int.reduceEq, SF0, SF1, SF2, DDe0, DCg0, DCe0, DCe1, DCe2, DDb0, DBc0, DBc1, DAlg0, DAlh0]
    exact fin_ks [0, 2] (.agg [.val (.int .i64 v), .val (.int .i64 k.H), .os 1 4 0 k.Ps.length]) [rdr xs (p1 + 1 + 1), .vec 4 (k.Ps.map Pane.cs)] ⟨⟨v, k.H, k.Ps⟩, (p1 + 1 + 1), rfl, rfl, by simp only []; omega, h2, by simp only []; omega, h4, by omega, by omega⟩ (by simp [AV.ren, renL, nameK]) (by simp [keepL, nameK, rdr, OB.ren, AV.ren]) (by simp) (by simp) (by simp)
  simp (disch := omega) only [SX0, SX1, SX2, SX3, SX4, SX5, SX6, SX7, SX8, SU0, SY0, SY1, Nat.reduceAdd, Nat.reduceMul, Nat.reduceSub, Nat.reduceLeDiff, Nat.reduceEqDiff, Nat.reduceLT, Nat.reduceBEq, ↓reduceIte, Int.reduceLE, Int.reduceLT, Int.reduceToNat, Int.reduceNeg, reduceCtorEq, Int.reduceEq, SF0, SF1, SF2, DDe0, DCg0, DCe0, DCe1, DCe2, DDb0, DBc0, DBc1, DAlg0, DAlh0]
  refine br_dec (fun h8 => ?_) (fun h8 => ?_)
  · simp (disch := omega) only [SX0, SX1, SX2, SX3, SX4, SX5, SX6, SX7, SX8, SU0, SY0, SY1, Nat.reduceAdd, Nat.reduceMul, Nat.reduceSub, Nat.reduceLeDiff, Nat.reduceEqDiff, Nat.reduceLT, Nat.reduceBEq, ↓reduceIte, Int.reduceLE, Int.reduceLT, Int.reduceToNat, Int.reduceNeg, reduceCtorEq, Int.reduceEq, SF0, SF1, SF2, DDe0, DCg0, DCe0, DCe1, DCe2, DDb0, DBc0, DBc1, DAlg0, DAlh0]
    refine br_dec (fun h9 => ?_) (fun h9 => ?_)
    · obtain ⟨W, H, Ps⟩ := k
      cases Ps with
      | nil => simp at h9
      | cons q Ps =>
      simp only at h1 h2 h3 h4
      repeat' first | simp (disch := omega) only [SX0, SX1, SX2, SX3, SX4, SX5, SX6, SX7, SX8, SU0, SY0, SY1, Nat.reduceAdd, Nat.reduceMul, Nat.reduceSub, Nat.reduceLeDiff, Nat.reduceEqDiff, Nat.reduceLT, Nat.reduceBEq, ↓reduceIte, Int.reduceLE, Int.reduceLT, Int.reduceToNat, Int.reduceNeg, reduceCtorEq, Int.reduceEq, SF0, SF1, SF2, DDe0, DCg0, DCe0, DCe1, DCe2, DDb0, DBc0, DBc1, DAlg0, DAlh0, List.map_cons, List.set_cons_zero, Pane.cs] | refine req (by omega) ?_ | refine req (by simp) ?_
      exact fin_ks [0, 2] (.agg [.val (.int .i64 W), .val (.int .i64 H), .os 1 4 0 (Ps.length + 1)]) [rdr xs (p1 + 1), .vec 4 ((⟨W + 1, q.H, q.Tu, q.Ki⟩ :: Ps : List Pane).map Pane.cs)] ⟨⟨W, H, ⟨W + 1, q.H, q.Tu, q.Ki⟩ :: Ps⟩, p1 + 1, rfl, rfl, by simp only []; omega, h2, h3, fun q' hq' => (by
        have hq0 := h4 q (by simp)
        rcases List.mem_cons.1 hq' with rfl | hq'
        · exact ⟨⟨by simp only []; omega, by simp only []; omega⟩, hq0.2.1, hq0.2.2⟩
        · exact h4 q' (by simp [hq'])), by omega, by omega⟩ (by simp [AV.ren, renL, nameK]) (by simp [keepL, nameK, rdr, OB.ren, AV.ren, Pane.cs]) (by simp) (by simp) (by simp)
    · simp (disch := omega) only [SX0, SX1, SX2, SX3, SX4, SX5, SX6, SX7, SX8, SU0, SY0, SY1, Nat.reduceAdd, Nat.reduceMul, Nat.reduceSub, Nat.reduceLeDiff, Nat.reduceEqDiff, Nat.reduceLT, Nat.reduceBEq, ↓reduceIte, Int.reduceLE, Int.reduceLT, Int.reduceToNat, Int.reduceNeg, reduceCtorEq, Int.reduceEq, SF0, SF1, SF2, DDe0, DCg0, DCe0, DCe1, DCe2, DDb0, DBc0, DBc1, DAlg0, DAlh0]
      exact fin_ks [0, 2] (.agg [.val (.int .i64 k.W), .val (.int .i64 k.H), .os 1 4 0 k.Ps.length]) [rdr xs (p1 + 1), .vec 4 (k.Ps.map Pane.cs)] ⟨⟨k.W, k.H, k.Ps⟩, (p1 + 1), rfl, rfl, by simp only []; omega, h2, by simp only []; omega, h4, by omega, by omega⟩ (by simp [AV.ren, renL, nameK]) (by simp [keepL, nameK, rdr, OB.ren, AV.ren]) (by simp) (by simp) (by simp)
  · simp (disch := omega) only [SX0, SX1, SX2, SX3, SX4, SX5, SX6, SX7, SX8, SU0, SY0, SY1, Nat.reduceAdd, Nat.reduceMul, Nat.reduceSub, Nat.reduceLeDiff, Nat.reduceEqDiff, Nat.reduceLT, Nat.reduceBEq, ↓reduceIte, Int.reduceLE, Int.reduceLT, Int.reduceToNat, Int.reduceNeg, reduceCtorEq, Int.reduceEq, SF0, SF1, SF2, DDe0, DCg0, DCe0, DCe1, DCe2, DDb0, DBc0, DBc1, DAlg0, DAlh0]
    exact fin_ks [0, 2] (.agg [.val (.int .i64 k.W), .val (.int .i64 k.H), .os 1 4 0 k.Ps.length]) [rdr xs (p1 + 1), .vec 4 (k.Ps.map Pane.cs)] ⟨⟨k.W, k.H, k.Ps⟩, (p1 + 1), rfl, rfl, by simp only []; omega, h2, by simp only []; omega, h4, by omega, by omega⟩ (by simp [AV.ren, renL, nameK]) (by simp [keepL, nameK, rdr, OB.ren, AV.ren]) (by simp) (by simp) (by simp)

/-- A drawn work. -/
def Work.SmallS (k : Work) : Prop := (0 ≤ k.W ∧ k.W ≤ 201) ∧ (1 ≤ k.H ∧ k.H ≤ 16) ∧ k.Ps.length ≤ 7 ∧ ∀ q ∈ k.Ps, q.Small

end Go.Pc
