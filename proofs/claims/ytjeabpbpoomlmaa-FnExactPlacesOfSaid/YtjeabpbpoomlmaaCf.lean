/- The reference's parts. -/
import Derived.Test.YtjeabpbpoomlmaaCe
set_option linter.unusedSimpArgs false
set_option linter.unusedVariables false
namespace Go.Pc
open Go Go.Proofs

theorem e_partAt : Enters Try.prog 123 := enters_of Try.func123 (by kernel_rfl) (by kernel_rfl)
set_option maxHeartbeats 4000000 in
theorem partAt_n (k : Work) : ∀ (n : Nat) (p : Plan) (b : Box) (i : Int) (q : Plan × Box), p.nodes ≤ n → p.wf = true → b.sane → p.fits k b.W b.H = true → p.nodes ≤ 255 → 0 ≤ i → (p.parts b)[i.toNat]? = some q →
    ACalls Try.prog 123 [.agg p.cs, .agg b.cs, .val (.int .i64 i)] [] [] (fun r L => r = .tup [.agg q.1.cs, .agg q.2.cs] ∧ L = []) := by
  intro n
  induction n with
  | zero => intro p b i q h; have := p.nodes_pos; omega
  | succ n ih =>
  intro p b i q hn hw hb hf h255 hi hq
  refine acalls_tm T_tt Try.func123 rfl e_partAt 93 rfl (W8 _ _ _ .any .any .any .any .any (W8 .any .any .any .any .any .any .any .any (W8 .any .any .any .any .any .any .any .any (W8 .any .any .any .any .any .any .any .any (W8 .any .any .any .any .any .any .any .any (W8 .any .any .any .any .any .any .any .any (W8 .any .any .any .any .any .any .any .any (W8 .any .any .any .any .any .any .any .any (W8 .any .any .any .any .any .any .any .any (W8 .any .any .any .any .any .any .any .any (W8 .any .any .any .any .any .any .any .any (W8 .any .any .any .any .any .any .any .any [])))))))))))) rfl (rv := [.cell 6 38, .cell 7 84]) rfl (sx_sound (bl := []) T_tt _ _ _ ?_)
  simp (disch := omega) only [SX0, SX1, SX2, SX3, SX4, SX5, SX6, SX7, SX8, SU0, SY0, SY1, Nat.reduceAdd, Nat.reduceMul, Nat.reduceSub, Nat.reduceLeDiff, Nat.reduceEqDiff, Nat.reduceLT, Nat.reduceBEq, ↓reduceIte, Int.reduceLE, Int.reduceLT, Int.reduceToNat, Int.reduceNeg, reduceCtorEq, Int.reduceEq, SF0, SF1, SF2, DCe0, DCa0, DCa1, DDb0, DBc0, DBa0]
  refine br_dec (fun h => ?_) (fun h => ?_)
  · simp (disch := omega) only [SX0, SX1, SX2, SX3, SX4, SX5, SX6, SX7, SX8, SU0, SY0, SY1, Nat.reduceAdd, Nat.reduceMul, Nat.reduceSub, Nat.reduceLeDiff, Nat.reduceEqDiff, Nat.reduceLT, Nat.reduceBEq, ↓reduceIte, Int.reduceLE, Int.reduceLT, Int.reduceToNat, Int.reduceNeg, reduceCtorEq, Int.reduceEq, SF0, SF1, SF2, DCe0, DCa0, DCa1, DDb0, DBc0, DBa0]
    refine awp_float (bl := []) T_tt mixed [0, 1, 2, 3] [0, 1] [(2, [(0, .f 13)]), (3, [(1, .f 14)])] [] (by kernel_rfl) (by kernel_rfl) ?_
    simp (disch := omega) only [SX0, SX1, SX2, SX3, SX4, SX5, SX6, SX7, SX8, SU0, SY0, SY1, Nat.reduceAdd, Nat.reduceMul, Nat.reduceSub, Nat.reduceLeDiff, Nat.reduceEqDiff, Nat.reduceLT, Nat.reduceBEq, ↓reduceIte, Int.reduceLE, Int.reduceLT, Int.reduceToNat, Int.reduceNeg, reduceCtorEq, Int.reduceEq, SF0, SF1, SF2, DCe0, DCa0, DCa1, DDb0, DBc0, DBa0]
    subst h
    have hq0 : q = (p, b) := by
      by_cases hc : p.cut
      · obtain ⟨x, y, hk, _⟩ := Plan.two hw hc
        rw [Plan.parts_cut hc hk] at hq
        simpa using hq.symm
      · rw [Plan.parts_leaf hc] at hq
        simpa using hq.symm
    subst hq0
    exact fin_free (by simp [AV.free, freeL, Plan.free, Box.free]) ⟨rfl, rfl⟩
  · have hc : p.cut := by
      refine Classical.byContradiction fun hc => ?_
      rw [Plan.parts_leaf hc] at hq
      have := (List.getElem?_eq_some_iff.1 hq).1
      simp at this; omega
    obtain ⟨x, y, hk, hx, hy, nx, ny⟩ := Plan.two hw hc
    obtain ⟨f1, f2, g1, g2, g3⟩ := Plan.fits_cut hc hk hf
    obtain ⟨s1, s2, _⟩ := Plan.split_sane hc hk hb hf
    have hbb := hb
    unfold Box.sane at hbb
    have hnn := Plan.nodes_two hk
    have hil : i < p.nodes := by
      have := (List.getElem?_eq_some_iff.1 hq).1
      rw [Plan.parts_len p hw] at this
      omega
    repeat' first | with_reducible refine fin_val ⟨?_, rfl⟩ | with_reducible refine br_dec (fun hb => ?_) (fun hb => ?_) | with_reducible refine br_ndec (fun hb => ?_) (fun hb => ?_) | with_reducible refine br_bool (fun hb => ?_) (fun hb => ?_) | with_reducible refine pk_dec (fun hb => ?_) (fun hb => ?_) | with_reducible refine pk_ndec (fun hb => ?_) (fun hb => ?_) | with_reducible refine awp_drawA T_tt mixed (by decide +kernel) (by kernel_rfl) (by kernel_rfl) ?_ | simp (disch := omega) only [SX0, SX1, SX2, SX3, SX4, SX5, SX6, SX7, SX8, SU0, SY0, SY1, Nat.reduceAdd, Nat.reduceMul, Nat.reduceSub, Nat.reduceLeDiff, Nat.reduceEqDiff, Nat.reduceLT, Nat.reduceBEq, ↓reduceIte, Int.reduceLE, Int.reduceLT, Int.reduceToNat, Int.reduceNeg, reduceCtorEq, Int.reduceEq, SF0, SF1, SF2, DCe0, DCa0, DCa1, DDb0, DBc0, DBa0]
    all_goals
      have hsz : x.size = x.nodes := by unfold Plan.size; rw [if_pos ⟨hx, by omega⟩]
      have e1 : (p.split b).1.cs = if p.op = 3 then [.val (.int .i64 b.X), .val (.int .i64 b.Y), .val (.int .i64 b.W), .val (.int .i64 p.at_)] else [.val (.int .i64 b.X), .val (.int .i64 b.Y), .val (.int .i64 p.at_), .val (.int .i64 b.H)] := by
        unfold Plan.split
        rcases hc with h | h
        · rw [if_pos h, if_neg (by omega)]; rfl
        · rw [if_neg (by omega), if_pos h]; rfl
      have e2 : (p.split b).2.cs = if p.op = 3 then [.val (.int .i64 b.X), .val (.int .i64 (b.Y + p.at_)), .val (.int .i64 b.W), .val (.int .i64 (b.H - p.at_))] else [.val (.int .i64 (b.X + p.at_)), .val (.int .i64 b.Y), .val (.int .i64 (b.W - p.at_)), .val (.int .i64 b.H)] := by
        unfold Plan.split
        rcases hc with h | h
        · rw [if_pos h, if_neg (by omega)]; rfl
        · rw [if_neg (by omega), if_pos h]; rfl
      first | rw [if_pos hb] at e1 e2 | rw [if_neg hb] at e1 e2
      simp (disch := omega) only [SX0, SX1, SX2, SX3, SX4, SX5, SX6, SX7, SX8, SU0, SY0, SY1, Nat.reduceAdd, Nat.reduceMul, Nat.reduceSub, Nat.reduceLeDiff, Nat.reduceEqDiff, Nat.reduceLT, Nat.reduceBEq, ↓reduceIte, Int.reduceLE, Int.reduceLT, Int.reduceToNat, Int.reduceNeg, reduceCtorEq, Int.reduceEq, SF0, SF1, SF2, DCe0, DCa0, DCa1, DDb0, DBc0, DBa0, hk]
      refine acall_one (planSizeS_c x) (by simp [freeL, AV.free, Plan.free]) rfl ?_
      simp (disch := omega) only [SX0, SX1, SX2, SX3, SX4, SX5, SX6, SX7, SX8, SU0, SY0, SY1, Nat.reduceAdd, Nat.reduceMul, Nat.reduceSub, Nat.reduceLeDiff, Nat.reduceEqDiff, Nat.reduceLT, Nat.reduceBEq, ↓reduceIte, Int.reduceLE, Int.reduceLT, Int.reduceToNat, Int.reduceNeg, reduceCtorEq, Int.reduceEq, SF0, SF1, SF2, DCe0, DCa0, DCa1, DDb0, DBc0, DBa0, hsz]
      refine br_dec (fun h1 => ?_) (fun h1 => ?_)
      · simp (disch := omega) only [SX0, SX1, SX2, SX3, SX4, SX5, SX6, SX7, SX8, SU0, SY0, SY1, Nat.reduceAdd, Nat.reduceMul, Nat.reduceSub, Nat.reduceLeDiff, Nat.reduceEqDiff, Nat.reduceLT, Nat.reduceBEq, ↓reduceIte, Int.reduceLE, Int.reduceLT, Int.reduceToNat, Int.reduceNeg, reduceCtorEq, Int.reduceEq, SF0, SF1, SF2, DCe0, DCa0, DCa1, DDb0, DBc0, DBa0]
        refine awp_float (bl := []) T_tt mixed [0, 1, 2, 3, 4, 5] [0, 1, 2, 3, 4, 5, 6, 7, 8, 9] [(10, [(0, .f 74), (1, .f 75), (2, .f 76), (3, .f 77), (4, .f 78), (5, .f 79), (6, .f 80), (7, .f 81), (8, .f 82), (9, .f 83)]), (11, [])] [] (by kernel_rfl) (by kernel_rfl) ?_
        simp (disch := omega) only [SX0, SX1, SX2, SX3, SX4, SX5, SX6, SX7, SX8, SU0, SY0, SY1, Nat.reduceAdd, Nat.reduceMul, Nat.reduceSub, Nat.reduceLeDiff, Nat.reduceEqDiff, Nat.reduceLT, Nat.reduceBEq, ↓reduceIte, Int.reduceLE, Int.reduceLT, Int.reduceToNat, Int.reduceNeg, reduceCtorEq, Int.reduceEq, SF0, SF1, SF2, DCe0, DCa0, DCa1, DDb0, DBc0, DBa0, hk]
        have hq1 : (x.parts (p.split b).1)[(i - 1).toNat]? = some q := by
          rw [Plan.parts_cut hc hk, show i.toNat = (i - 1).toNat + 1 by omega, List.getElem?_cons_succ, List.getElem?_append_left (by rw [Plan.parts_len x hx]; omega)] at hq
          exact hq
        have hi1 := ih x (p.split b).1 (i - 1) q (by omega) hx s1 f1 (by omega) (by omega) hq1
        rw [e1] at hi1
        refine qc_one hi1 (by simp [freeL, AV.free, Plan.free]) ?_
        simp (disch := omega) only [SX0, SX1, SX2, SX3, SX4, SX5, SX6, SX7, SX8, SU0, SY0, SY1, Nat.reduceAdd, Nat.reduceMul, Nat.reduceSub, Nat.reduceLeDiff, Nat.reduceEqDiff, Nat.reduceLT, Nat.reduceBEq, ↓reduceIte, Int.reduceLE, Int.reduceLT, Int.reduceToNat, Int.reduceNeg, reduceCtorEq, Int.reduceEq, SF0, SF1, SF2, DCe0, DCa0, DCa1, DDb0, DBc0, DBa0]
        exact fin_free (by simp [AV.free, freeL, Plan.free, Box.free]) ⟨rfl, rfl⟩
      · simp (disch := omega) only [SX0, SX1, SX2, SX3, SX4, SX5, SX6, SX7, SX8, SU0, SY0, SY1, Nat.reduceAdd, Nat.reduceMul, Nat.reduceSub, Nat.reduceLeDiff, Nat.reduceEqDiff, Nat.reduceLT, Nat.reduceBEq, ↓reduceIte, Int.reduceLE, Int.reduceLT, Int.reduceToNat, Int.reduceNeg, reduceCtorEq, Int.reduceEq, SF0, SF1, SF2, DCe0, DCa0, DCa1, DDb0, DBc0, DBa0]
        refine awp_float (bl := []) T_tt mixed [0, 1, 2, 3, 4, 5, 6] [0, 1, 2, 3, 4, 5, 6, 7, 8, 9, 10, 11] [(12, [(0, .f 84), (1, .f 85), (2, .f 86), (3, .f 87), (4, .f 88), (5, .f 89), (6, .f 90), (7, .f 91), (8, .f 92), (9, .f 93), (10, .f 94), (11, .f 95)]), (13, [])] [] (by kernel_rfl) (by kernel_rfl) ?_
        simp (disch := omega) only [SX0, SX1, SX2, SX3, SX4, SX5, SX6, SX7, SX8, SU0, SY0, SY1, Nat.reduceAdd, Nat.reduceMul, Nat.reduceSub, Nat.reduceLeDiff, Nat.reduceEqDiff, Nat.reduceLT, Nat.reduceBEq, ↓reduceIte, Int.reduceLE, Int.reduceLT, Int.reduceToNat, Int.reduceNeg, reduceCtorEq, Int.reduceEq, SF0, SF1, SF2, DCe0, DCa0, DCa1, DDb0, DBc0, DBa0, hk]
        have hq1 : (y.parts (p.split b).2)[(i - 1 - x.nodes).toNat]? = some q := by
          rw [Plan.parts_cut hc hk, show i.toNat = (x.nodes + (i - 1 - x.nodes).toNat) + 1 by omega, List.getElem?_cons_succ, List.getElem?_append_right (by rw [Plan.parts_len x hx]; omega), Plan.parts_len x hx, Nat.add_sub_cancel_left] at hq
          exact hq
        have hi1 := ih y (p.split b).2 (i - 1 - x.nodes) q (by omega) hy s2 f2 (by omega) (by omega) hq1
        rw [e2] at hi1
        refine qc_one hi1 (by simp [freeL, AV.free, Plan.free]) ?_
        simp (disch := omega) only [SX0, SX1, SX2, SX3, SX4, SX5, SX6, SX7, SX8, SU0, SY0, SY1, Nat.reduceAdd, Nat.reduceMul, Nat.reduceSub, Nat.reduceLeDiff, Nat.reduceEqDiff, Nat.reduceLT, Nat.reduceBEq, ↓reduceIte, Int.reduceLE, Int.reduceLT, Int.reduceToNat, Int.reduceNeg, reduceCtorEq, Int.reduceEq, SF0, SF1, SF2, DCe0, DCa0, DCa1, DDb0, DBc0, DBa0]
        exact fin_free (by simp [AV.free, freeL, Plan.free, Box.free]) ⟨rfl, rfl⟩
