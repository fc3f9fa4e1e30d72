/- TransposePlan of the program: its results have memory of their own; and for all arguments it is that of the reference. -/
import Derived.Test.YtjeabpbpoomlmaaVa
import Derived.Test.YtjeabpbpoomlmaaJb
set_option linter.unusedSimpArgs false
set_option linter.unusedVariables false
namespace Go.Pc
open Go Go.Proofs

theorem e_transposedF : Enters Try.prog 95 := enters_of Try.func95 (by kernel_rfl) (by kernel_rfl)
set_option maxHeartbeats 4000000 in
theorem transposed_f : ∀ (n : Nat) (p : Plan), p.nodes ≤ n → p.wf = true → ACalls Try.prog 95 [.agg p.cs] [] [] (TreeR p.trans) := by
  intro n
  induction n with
  | zero => intro p h; have := p.nodes_pos; omega
  | succ n ih =>
  intro p hn hw
  refine acalls_tm T_tt Try.func95 rfl e_transposedF 31 rfl (W8 _ .any .any .any .any .any .any .any (W8 .any .any .any .any .any .any .any .any (W8 .any .any .any .any .any .any .any .any (W8 .any .any .any .any .any .any .any .any [])))) rfl (rv := [.cell 2 38]) rfl (sx_sound (bl := [30]) T_tt _ _ _ ?_)
  simp (disch := omega) only [SX0, SX1, SX2, SX3, SX4, SX5, SX6, SX7, SX8, SU0, SY0, SY1, Nat.reduceAdd, Nat.reduceMul, Nat.reduceSub, Nat.reduceLeDiff, Nat.reduceEqDiff, Nat.reduceLT, Nat.reduceBEq, ↓reduceIte, Int.reduceLE, Int.reduceLT, Int.reduceToNat, Int.reduceNeg, reduceCtorEq, Int.reduceEq, SF0, SF1, SF2, DLa0, DCg0, DCe0, DCe1, DCe2, DDb0, DBc0, DBc1, DHa0, DHb0, DHb1, DDe0]
  refine acall_one (isCutI_c p) (by simp [freeL, AV.free, Plan.free]) rfl ?_
  simp (disch := omega) only [SX0, SX1, SX2, SX3, SX4, SX5, SX6, SX7, SX8, SU0, SY0, SY1, Nat.reduceAdd, Nat.reduceMul, Nat.reduceSub, Nat.reduceLeDiff, Nat.reduceEqDiff, Nat.reduceLT, Nat.reduceBEq, ↓reduceIte, Int.reduceLE, Int.reduceLT, Int.reduceToNat, Int.reduceNeg, reduceCtorEq, Int.reduceEq, SF0, SF1, SF2, DLa0, DCg0, DCe0, DCe1, DCe2, DDb0, DBc0, DBc1, DHa0, DHb0, DHb1, DDe0]
  refine br_ndec (fun hc => ?_) (fun hc => ?_)
  · have hl := Plan.leaf_eq hw hc
    have F := fun s => fin_leaf (R := TreeR p) (s := s) hl.2 fun S => ⟨S, _, rfl, rfl, by rw [hl.2]; rfl⟩
    rw [hl.1] at F
    rw [Plan.trans_leaf hc]
    simp (disch := omega) only [SX0, SX1, SX2, SX3, SX4, SX5, SX6, SX7, SX8, SU0, SY0, SY1, Nat.reduceAdd, Nat.reduceMul, Nat.reduceSub, Nat.reduceLeDiff, Nat.reduceEqDiff, Nat.reduceLT, Nat.reduceBEq, ↓reduceIte, Int.reduceLE, Int.reduceLT, Int.reduceToNat, Int.reduceNeg, reduceCtorEq, Int.reduceEq, SF0, SF1, SF2, DLa0, DCg0, DCe0, DCe1, DCe2, DDb0, DBc0, DBc1, DHa0, DHb0, DHb1, DDe0]
    exact F _
  obtain ⟨x, y, hk, hx, hy, nx, ny⟩ := Plan.two hw hc
  have em := Plan.trans_cut hc hk
  have i1 := ih x (by omega) hx
  have i2 := ih y (by omega) hy
  generalize x.trans = x' at *
  generalize y.trans = y' at *
  simp (disch := omega) only [SX0, SX1, SX2, SX3, SX4, SX5, SX6, SX7, SX8, SU0, SY0, SY1, Nat.reduceAdd, Nat.reduceMul, Nat.reduceSub, Nat.reduceLeDiff, Nat.reduceEqDiff, Nat.reduceLT, Nat.reduceBEq, ↓reduceIte, Int.reduceLE, Int.reduceLT, Int.reduceToNat, Int.reduceNeg, reduceCtorEq, Int.reduceEq, SF0, SF1, SF2, DLa0, DCg0, DCe0, DCe1, DCe2, DDb0, DBc0, DBc1, DHa0, DHb0, DHb1, DDe0]
  refine br_dec (fun h2 => ?_) (fun h2 => ?_)
  · rw [if_pos h2] at em
    simp (disch := omega) only [SX0, SX1, SX2, SX3, SX4, SX5, SX6, SX7, SX8, SU0, SY0, SY1, Nat.reduceAdd, Nat.reduceMul, Nat.reduceSub, Nat.reduceLeDiff, Nat.reduceEqDiff, Nat.reduceLT, Nat.reduceBEq, ↓reduceIte, Int.reduceLE, Int.reduceLT, Int.reduceToNat, Int.reduceNeg, reduceCtorEq, Int.reduceEq, SF0, SF1, SF2, DLa0, DCg0, DCe0, DCe1, DCe2, DDb0, DBc0, DBc1, DHa0, DHb0, DHb1, DDe0]
    refine awp_float (bl := [30]) T_tt mixed [0, 1] [0, 1, 2, 3, 4, 5, 6, 8, 9, 10, 11] [(7, [(3, .f 20), (4, .f 21), (5, .f 22), (6, .f 23)]), (12, [(8, .f 25), (9, .f 26), (10, .f 27), (11, .f 28)]), (13, []), (14, [(0, .f 17), (1, .f 18), (2, .f 19)]), (15, [])] [] (by kernel_rfl) (by kernel_rfl) ?_
    simp (disch := omega) only [SX0, SX1, SX2, SX3, SX4, SX5, SX6, SX7, SX8, SU0, SY0, SY1, Nat.reduceAdd, Nat.reduceMul, Nat.reduceSub, Nat.reduceLeDiff, Nat.reduceEqDiff, Nat.reduceLT, Nat.reduceBEq, ↓reduceIte, Int.reduceLE, Int.reduceLT, Int.reduceToNat, Int.reduceNeg, reduceCtorEq, Int.reduceEq, SF0, SF1, SF2, DLa0, DCg0, DCe0, DCe1, DCe2, DDb0, DBc0, DBc1, DHa0, DHb0, DHb1, DDe0, hk]
    refine acall_own i1 [] [] (by simp only [SX0, SX1, SX2, SX3, SX4, SX5, SX6, SX7, SX8, SU0, SY0, SY1, Nat.reduceAdd, Nat.reduceMul, Nat.reduceSub, Nat.reduceLeDiff, Nat.reduceEqDiff, Nat.reduceLT, Nat.reduceBEq, ↓reduceIte, Int.reduceLE, Int.reduceLT, Int.reduceToNat, Int.reduceNeg, reduceCtorEq, Int.reduceEq, SF0, SF1, SF2, DLa0, DCg0, DCe0, DCe1, DCe2, DDb0, DBc0, DBc1, DHa0, DHb0, DHb1, DDe0, SX0]) (by decide) (by decide) (by rfl) (by simp only [SX0, SX1, SX2, SX3, SX4, SX5, SX6, SX7, SX8, SU0, SY0, SY1, Nat.reduceAdd, Nat.reduceMul, Nat.reduceSub, Nat.reduceLeDiff, Nat.reduceEqDiff, Nat.reduceLT, Nat.reduceBEq, ↓reduceIte, Int.reduceLE, Int.reduceLT, Int.reduceToNat, Int.reduceNeg, reduceCtorEq, Int.reduceEq, SF0, SF1, SF2, DLa0, DCg0, DCe0, DCe1, DCe2, DDb0, DBc0, DBc1, DHa0, DHb0, DHb1, DDe0, SX0]) ?_
    rintro _ _ ⟨Sx, vx, hvx, rfl, rfl⟩
    simp (disch := omega) only [SX0, SX1, SX2, SX3, SX4, SX5, SX6, SX7, SX8, SU0, SY0, SY1, Nat.reduceAdd, Nat.reduceMul, Nat.reduceSub, Nat.reduceLeDiff, Nat.reduceEqDiff, Nat.reduceLT, Nat.reduceBEq, ↓reduceIte, Int.reduceLE, Int.reduceLT, Int.reduceToNat, Int.reduceNeg, reduceCtorEq, Int.reduceEq, SF0, SF1, SF2, DLa0, DCg0, DCe0, DCe1, DCe2, DDb0, DBc0, DBc1, DHa0, DHb0, DHb1, DDe0, SX0, hk, hvx, if_true, Plan.csV]
    refine acall_own i2 [] [] (by simp only [SX0, SX1, SX2, SX3, SX4, SX5, SX6, SX7, SX8, SU0, SY0, SY1, Nat.reduceAdd, Nat.reduceMul, Nat.reduceSub, Nat.reduceLeDiff, Nat.reduceEqDiff, Nat.reduceLT, Nat.reduceBEq, ↓reduceIte, Int.reduceLE, Int.reduceLT, Int.reduceToNat, Int.reduceNeg, reduceCtorEq, Int.reduceEq, SF0, SF1, SF2, DLa0, DCg0, DCe0, DCe1, DCe2, DDb0, DBc0, DBc1, DHa0, DHb0, DHb1, DDe0, SX0]) (by decide) (by decide) (by rfl) (by simp only [SX0, SX1, SX2, SX3, SX4, SX5, SX6, SX7, SX8, SU0, SY0, SY1, Nat.reduceAdd, Nat.reduceMul, Nat.reduceSub, Nat.reduceLeDiff, Nat.reduceEqDiff, Nat.reduceLT, Nat.reduceBEq, ↓reduceIte, Int.reduceLE, Int.reduceLT, Int.reduceToNat, Int.reduceNeg, reduceCtorEq, Int.reduceEq, SF0, SF1, SF2, DLa0, DCg0, DCe0, DCe1, DCe2, DDb0, DBc0, DBc1, DHa0, DHb0, DHb1, DDe0, SX0]) ?_
    rintro _ _ ⟨Sy, vy, hvy, rfl, rfl⟩
    simp (disch := omega) only [SX0, SX1, SX2, SX3, SX4, SX5, SX6, SX7, SX8, SU0, SY0, SY1, Nat.reduceAdd, Nat.reduceMul, Nat.reduceSub, Nat.reduceLeDiff, Nat.reduceEqDiff, Nat.reduceLT, Nat.reduceBEq, ↓reduceIte, Int.reduceLE, Int.reduceLT, Int.reduceToNat, Int.reduceNeg, reduceCtorEq, Int.reduceEq, SF0, SF1, SF2, DLa0, DCg0, DCe0, DCe1, DCe2, DDb0, DBc0, DBc1, DHa0, DHb0, DHb1, DDe0, SX0, hk, hvx, hvy, if_true, Plan.csV]
    exact fin_two (r := 4) (rx := 2) (ry := 3) (x := x') (y := y') (by decide) (by decide) (by decide) rfl rfl rfl fun S v hv => by rw [em]; exact ⟨S, v, hv, rfl, rfl⟩
  · rw [if_neg h2] at em
    simp (disch := omega) only [SX0, SX1, SX2, SX3, SX4, SX5, SX6, SX7, SX8, SU0, SY0, SY1, Nat.reduceAdd, Nat.reduceMul, Nat.reduceSub, Nat.reduceLeDiff, Nat.reduceEqDiff, Nat.reduceLT, Nat.reduceBEq, ↓reduceIte, Int.reduceLE, Int.reduceLT, Int.reduceToNat, Int.reduceNeg, reduceCtorEq, Int.reduceEq, SF0, SF1, SF2, DLa0, DCg0, DCe0, DCe1, DCe2, DDb0, DBc0, DBc1, DHa0, DHb0, DHb1, DDe0]
    refine awp_float (bl := [30]) T_tt mixed [0, 1] [0, 1, 2, 3, 4, 5, 6, 8, 9, 10, 11] [(7, [(3, .f 20), (4, .f 21), (5, .f 22), (6, .f 23)]), (12, [(8, .f 25), (9, .f 26), (10, .f 27), (11, .f 28)]), (13, []), (14, [(0, .f 17), (1, .f 18), (2, .f 19)]), (15, [])] [] (by kernel_rfl) (by kernel_rfl) ?_
    simp (disch := omega) only [SX0, SX1, SX2, SX3, SX4, SX5, SX6, SX7, SX8, SU0, SY0, SY1, Nat.reduceAdd, Nat.reduceMul, Nat.reduceSub, Nat.reduceLeDiff, Nat.reduceEqDiff, Nat.reduceLT, Nat.reduceBEq, ↓reduceIte, Int.reduceLE, Int.reduceLT, Int.reduceToNat, Int.reduceNeg, reduceCtorEq, Int.reduceEq, SF0, SF1, SF2, DLa0, DCg0, DCe0, DCe1, DCe2, DDb0, DBc0, DBc1, DHa0, DHb0, DHb1, DDe0, hk]
    refine acall_own i1 [] [] (by simp only [SX0, SX1, SX2, SX3, SX4, SX5, SX6, SX7, SX8, SU0, SY0, SY1, Nat.reduceAdd, Nat.reduceMul, Nat.reduceSub, Nat.reduceLeDiff, Nat.reduceEqDiff, Nat.reduceLT, Nat.reduceBEq, ↓reduceIte, Int.reduceLE, Int.reduceLT, Int.reduceToNat, Int.reduceNeg, reduceCtorEq, Int.reduceEq, SF0, SF1, SF2, DLa0, DCg0, DCe0, DCe1, DCe2, DDb0, DBc0, DBc1, DHa0, DHb0, DHb1, DDe0, SX0]) (by decide) (by decide) (by rfl) (by simp only [SX0, SX1, SX2, SX3, SX4, SX5, SX6, SX7, SX8, SU0, SY0, SY1, Nat.reduceAdd, Nat.reduceMul, Nat.reduceSub, Nat.reduceLeDiff, Nat.reduceEqDiff, Nat.reduceLT, Nat.reduceBEq, ↓reduceIte, Int.reduceLE, Int.reduceLT, Int.reduceToNat, Int.reduceNeg, reduceCtorEq, Int.reduceEq, SF0, SF1, SF2, DLa0, DCg0, DCe0, DCe1, DCe2, DDb0, DBc0, DBc1, DHa0, DHb0, DHb1, DDe0, SX0]) ?_
    rintro _ _ ⟨Sx, vx, hvx, rfl, rfl⟩
    simp (disch := omega) only [SX0, SX1, SX2, SX3, SX4, SX5, SX6, SX7, SX8, SU0, SY0, SY1, Nat.reduceAdd, Nat.reduceMul, Nat.reduceSub, Nat.reduceLeDiff, Nat.reduceEqDiff, Nat.reduceLT, Nat.reduceBEq, ↓reduceIte, Int.reduceLE, Int.reduceLT, Int.reduceToNat, Int.reduceNeg, reduceCtorEq, Int.reduceEq, SF0, SF1, SF2, DLa0, DCg0, DCe0, DCe1, DCe2, DDb0, DBc0, DBc1, DHa0, DHb0, DHb1, DDe0, SX0, hk, hvx, if_true, Plan.csV]
    refine acall_own i2 [] [] (by simp only [SX0, SX1, SX2, SX3, SX4, SX5, SX6, SX7, SX8, SU0, SY0, SY1, Nat.reduceAdd, Nat.reduceMul, Nat.reduceSub, Nat.reduceLeDiff, Nat.reduceEqDiff, Nat.reduceLT, Nat.reduceBEq, ↓reduceIte, Int.reduceLE, Int.reduceLT, Int.reduceToNat, Int.reduceNeg, reduceCtorEq, Int.reduceEq, SF0, SF1, SF2, DLa0, DCg0, DCe0, DCe1, DCe2, DDb0, DBc0, DBc1, DHa0, DHb0, DHb1, DDe0, SX0]) (by decide) (by decide) (by rfl) (by simp only [SX0, SX1, SX2, SX3, SX4, SX5, SX6, SX7, SX8, SU0, SY0, SY1, Nat.reduceAdd, Nat.reduceMul, Nat.reduceSub, Nat.reduceLeDiff, Nat.reduceEqDiff, Nat.reduceLT, Nat.reduceBEq, ↓reduceIte, Int.reduceLE, Int.reduceLT, Int.reduceToNat, Int.reduceNeg, reduceCtorEq, Int.reduceEq, SF0, SF1, SF2, DLa0, DCg0, DCe0, DCe1, DCe2, DDb0, DBc0, DBc1, DHa0, DHb0, DHb1, DDe0, SX0]) ?_
    rintro _ _ ⟨Sy, vy, hvy, rfl, rfl⟩
    simp (disch := omega) only [SX0, SX1, SX2, SX3, SX4, SX5, SX6, SX7, SX8, SU0, SY0, SY1, Nat.reduceAdd, Nat.reduceMul, Nat.reduceSub, Nat.reduceLeDiff, Nat.reduceEqDiff, Nat.reduceLT, Nat.reduceBEq, ↓reduceIte, Int.reduceLE, Int.reduceLT, Int.reduceToNat, Int.reduceNeg, reduceCtorEq, Int.reduceEq, SF0, SF1, SF2, DLa0, DCg0, DCe0, DCe1, DCe2, DDb0, DBc0, DBc1, DHa0, DHb0, DHb1, DDe0, SX0, hk, hvx, hvy, if_true, Plan.csV]
    exact fin_two (r := 4) (rx := 2) (ry := 3) (x := x') (y := y') (by decide) (by decide) (by decide) rfl rfl rfl fun S v hv => by rw [em]; exact ⟨S, v, hv, rfl, rfl⟩

/-- The results are this work and this plan, with memory of their own. -/
def TreeWP (w : Work) (q : Plan) (r : AV) (L : List OB) : Prop := ∃ S0 v0 S v, v0.oneCell' = true ∧ v.oneCell' = true ∧ r = .tup [.agg (w.csV v0), .agg (q.csV v)] ∧ L = [.forest S0 [(v0, .sl (w.Ps.map Pane.cs))], .forest S [(v, .sl (q.ks.map Plan.cs))]]

theorem fin_zeroWP {s : AS} : Fin [] 0 (TreeWP ⟨0, 0, []⟩ .zero) s (.tup [.agg [.val (.int .i64 0), .val (.int .i64 0), .val (.slice none 0 0)], .agg [.val (.int .i64 0), .val (.int .i64 0), .val (.int .i64 0), .val (.bool false), .val (.slice none 0 0)]]) := by
  refine fin_pushf [(.slice none 0 0, .sl [])] (fun w => Forest.one.2 (.nil _ _ _)) ?_
  refine fin_pushf [(.slice none 0 0, .sl [])] (fun w => Forest.one.2 (.nil _ _ _)) ?_
  exact fin_ks [s.L.length, s.L.length + 1] (.tup [.agg ((Work.mk 0 0 []).csV (.slice none 0 0)), .agg (Plan.zero.csV (.slice none 0 0))]) [.forest (fun _ => False) [(.slice none 0 0, .sl [])], .forest (fun _ => False) [(.slice none 0 0, .sl [])]]
    ⟨_, _, _, _, rfl, rfl, rfl, rfl⟩ rfl ⟨by simp [AS.push]; rfl, by simp [AS.push]; rfl, trivial⟩ (by simp) (by simp) (by simp)

theorem e_transposePlanF : Enters Try.prog 47 := enters_of Try.func47 (by kernel_rfl) (by kernel_rfl)
set_option maxRecDepth 8000 in
set_option maxHeartbeats 4000000 in
theorem transposePlan_f (k : Work) (p : Plan) (hk : k.Ps.length < 2 ^ 40) : ACalls Try.prog 47 [.agg k.cs, .agg p.cs] [] [] (TreeWP (p.trW k) (p.trP k)) := by
  refine acalls_tm T_tt Try.func47 rfl e_transposePlanF 36 rfl (W8 _ _ .any .any .any .any .any .any (W8 .any .any .any .any .any .any .any .any (W8 .any .any .any .any .any .any .any .any (W8 .any .any .any .any .any .any .any .any [.any, .any, .any, .any, .any, .any])))) rfl (rv := [.cell 4 34, .cell 5 38]) rfl (sx_sound (bl := []) T_tt _ _ _ ?_)
  simp (disch := omega) only [SX0, SX1, SX2, SX3, SX4, SX5, SX6, SX7, SX8, SU0, SY0, SY1, Nat.reduceAdd, Nat.reduceMul, Nat.reduceSub, Nat.reduceLeDiff, Nat.reduceEqDiff, Nat.reduceLT, Nat.reduceBEq, ↓reduceIte, Int.reduceLE, Int.reduceLT, Int.reduceToNat, Int.reduceNeg, reduceCtorEq, Int.reduceEq, SF0, SF1, SF2, DLa0, DCg0, DCe0, DCe1, DCe2, DDb0, DBc0, DBc1, DHa0, DHb0, DHb1, DDe0]
  refine acall_one (validPlanI_c k p hk) (by simp [freeL, AV.free, Plan.free, Work.free]) rfl ?_
  simp (disch := omega) only [SX0, SX1, SX2, SX3, SX4, SX5, SX6, SX7, SX8, SU0, SY0, SY1, Nat.reduceAdd, Nat.reduceMul, Nat.reduceSub, Nat.reduceLeDiff, Nat.reduceEqDiff, Nat.reduceLT, Nat.reduceBEq, ↓reduceIte, Int.reduceLE, Int.reduceLT, Int.reduceToNat, Int.reduceNeg, reduceCtorEq, Int.reduceEq, SF0, SF1, SF2, DLa0, DCg0, DCe0, DCe1, DCe2, DDb0, DBc0, DBc1, DHa0, DHb0, DHb1, DDe0]
  refine br_ndec (fun hv => ?_) (fun hv => ?_)
  · have e : p.trW k = ⟨0, 0, []⟩ ∧ p.trP k = .zero := by unfold Plan.trW Plan.trP; rw [if_neg hv, if_neg hv]; exact ⟨rfl, rfl⟩
    rw [e.1, e.2]
    simp (disch := omega) only [SX0, SX1, SX2, SX3, SX4, SX5, SX6, SX7, SX8, SU0, SY0, SY1, Nat.reduceAdd, Nat.reduceMul, Nat.reduceSub, Nat.reduceLeDiff, Nat.reduceEqDiff, Nat.reduceLT, Nat.reduceBEq, ↓reduceIte, Int.reduceLE, Int.reduceLT, Int.reduceToNat, Int.reduceNeg, reduceCtorEq, Int.reduceEq, SF0, SF1, SF2, DLa0, DCg0, DCe0, DCe1, DCe2, DDb0, DBc0, DBc1, DHa0, DHb0, DHb1, DDe0]
    exact fin_zeroWP
  simp (disch := omega) only [SX0, SX1, SX2, SX3, SX4, SX5, SX6, SX7, SX8, SU0, SY0, SY1, Nat.reduceAdd, Nat.reduceMul, Nat.reduceSub, Nat.reduceLeDiff, Nat.reduceEqDiff, Nat.reduceLT, Nat.reduceBEq, ↓reduceIte, Int.reduceLE, Int.reduceLT, Int.reduceToNat, Int.reduceNeg, reduceCtorEq, Int.reduceEq, SF0, SF1, SF2, DLa0, DCg0, DCe0, DCe1, DCe2, DDb0, DBc0, DBc1, DHa0, DHb0, DHb1, DDe0]
  refine awp_wk (wk_nilc 4 2 4 _ (by decide) rfl rfl) ?_
  simp (disch := omega) only [SX0, SX1, SX2, SX3, SX4, SX5, SX6, SX7, SX8, SU0, SY0, SY1, Nat.reduceAdd, Nat.reduceMul, Nat.reduceSub, Nat.reduceLeDiff, Nat.reduceEqDiff, Nat.reduceLT, Nat.reduceBEq, ↓reduceIte, Int.reduceLE, Int.reduceLT, Int.reduceToNat, Int.reduceNeg, reduceCtorEq, Int.reduceEq, SF0, SF1, SF2, DLa0, DCg0, DCe0, DCe1, DCe2, DDb0, DBc0, DBc1, DHa0, DHb0, DHb1, DDe0]
  with_reducible refine awp_loop_h 7 31 (fun (i : Nat) => [(21, .sl (k.Ps.map Pane.cs)), (22, .val (.int .i64 k.Ps.length)), (23, .val (.int .i64 i))]) (fun i => [.cells k.cs, .cells p.cs, .cells [.val (.int .i64 0), .val (.int .i64 0), .val (.slice none 0 0)], .cells [.val (.int .i64 0), .val (.int .i64 0), .val (.int .i64 0), .val (.bool false), .val (.slice none 0 0)], .cells [.val (.int .i64 k.H), .val (.int .i64 k.W), .os 5 4 0 i], .vec 4 (((k.Ps.take i).map Pane.swap).map Pane.cs)]) (fun i => i ≤ k.Ps.length) (fun i => k.Ps.length - i) 0 (Nat.zero_le _) ?_ (fun i hi => sx_sound (bl := []) T_tt _ _ _ ?_)
  · simp (disch := omega) only [SX0, SX1, SX2, SX3, SX4, SX5, SX6, SX7, SX8, SU0, SY0, SY1, Nat.reduceAdd, Nat.reduceMul, Nat.reduceSub, Nat.reduceLeDiff, Nat.reduceEqDiff, Nat.reduceLT, Nat.reduceBEq, ↓reduceIte, Int.reduceLE, Int.reduceLT, Int.reduceToNat, Int.reduceNeg, reduceCtorEq, Int.reduceEq, SF0, SF1, SF2, DLa0, DCg0, DCe0, DCe1, DCe2, DDb0, DBc0, DBc1, DHa0, DHb0, DHb1, DDe0]
    (refine wk_le ?_ ?_ ?_; (focus (simp [W8, leTm, leAV, AV.under, underL, Work.under, Plan.under]; done)); (focus (simp [leL, OB.under, underL, AV.under, Work.under, Plan.under]; done)); (focus (simp; done)))
  simp (disch := omega) only [SX0, SX1, SX2, SX3, SX4, SX5, SX6, SX7, SX8, SU0, SY0, SY1, Nat.reduceAdd, Nat.reduceMul, Nat.reduceSub, Nat.reduceLeDiff, Nat.reduceEqDiff, Nat.reduceLT, Nat.reduceBEq, ↓reduceIte, Int.reduceLE, Int.reduceLT, Int.reduceToNat, Int.reduceNeg, reduceCtorEq, Int.reduceEq, SF0, SF1, SF2, DLa0, DCg0, DCe0, DCe1, DCe2, DDb0, DBc0, DBc1, DHa0, DHb0, DHb1, DDe0]
  refine br_dec (fun h1 => ?_) (fun h1 => ?_)
  · obtain ⟨q, hq⟩ := get_lt (l := k.Ps) (i := i) (by omega)
    have e : (k.Ps.take (i + 1)).map Pane.swap = (k.Ps.take i).map Pane.swap ++ [q.swap] := by rw [List.take_add_one, hq]; simp
    have hl : (k.Ps.take i).length = i := by simp; omega
    have h24 := hv.1.2.2.2
    simp (disch := omega) only [SX0, SX1, SX2, SX3, SX4, SX5, SX6, SX7, SX8, SU0, SY0, SY1, Nat.reduceAdd, Nat.reduceMul, Nat.reduceSub, Nat.reduceLeDiff, Nat.reduceEqDiff, Nat.reduceLT, Nat.reduceBEq, ↓reduceIte, Int.reduceLE, Int.reduceLT, Int.reduceToNat, Int.reduceNeg, reduceCtorEq, Int.reduceEq, SF0, SF1, SF2, DLa0, DCg0, DCe0, DCe1, DCe2, DDb0, DBc0, DBc1, DHa0, DHb0, DHb1, DDe0, hq]
    refine awp_float (bl := []) T_tt mixed [0, 1, 2, 3, 4, 6] [0, 2, 3, 4] [(1, [(0, .f 27)]), (5, [(2, .f 29), (3, .f 30), (4, .f 31)]), (6, []), (7, [])] [] (by kernel_rfl) (by kernel_rfl) ?_
    simp (disch := omega) only [SX0, SX1, SX2, SX3, SX4, SX5, SX6, SX7, SX8, SU0, SY0, SY1, Nat.reduceAdd, Nat.reduceMul, Nat.reduceSub, Nat.reduceLeDiff, Nat.reduceEqDiff, Nat.reduceLT, Nat.reduceBEq, ↓reduceIte, Int.reduceLE, Int.reduceLT, Int.reduceToNat, Int.reduceNeg, reduceCtorEq, Int.reduceEq, SF0, SF1, SF2, DLa0, DCg0, DCe0, DCe1, DCe2, DDb0, DBc0, DBc1, DHa0, DHb0, DHb1, DDe0, hq]
    refine qc_one (swapSides_c q) rfl ?_
    simp (disch := omega) only [SX0, SX1, SX2, SX3, SX4, SX5, SX6, SX7, SX8, SU0, SY0, SY1, Nat.reduceAdd, Nat.reduceMul, Nat.reduceSub, Nat.reduceLeDiff, Nat.reduceEqDiff, Nat.reduceLT, Nat.reduceBEq, ↓reduceIte, Int.reduceLE, Int.reduceLT, Int.reduceToNat, Int.reduceNeg, reduceCtorEq, Int.reduceEq, SF0, SF1, SF2, DLa0, DCg0, DCe0, DCe1, DCe2, DDb0, DBc0, DBc1, DHa0, DHb0, DHb1, DDe0, hq]
    refine qc_one (swapSides_c q) rfl ?_
    simp (disch := omega) only [SX0, SX1, SX2, SX3, SX4, SX5, SX6, SX7, SX8, SU0, SY0, SY1, Nat.reduceAdd, Nat.reduceMul, Nat.reduceSub, Nat.reduceLeDiff, Nat.reduceEqDiff, Nat.reduceLT, Nat.reduceBEq, ↓reduceIte, Int.reduceLE, Int.reduceLT, Int.reduceToNat, Int.reduceNeg, reduceCtorEq, Int.reduceEq, SF0, SF1, SF2, DLa0, DCg0, DCe0, DCe1, DCe2, DDb0, DBc0, DBc1, DHa0, DHb0, DHb1, DDe0, hq]
    refine req (by decide) ?_
    simp (disch := omega) only [SX0, SX1, SX2, SX3, SX4, SX5, SX6, SX7, SX8, SU0, SY0, SY1, Nat.reduceAdd, Nat.reduceMul, Nat.reduceSub, Nat.reduceLeDiff, Nat.reduceEqDiff, Nat.reduceLT, Nat.reduceBEq, ↓reduceIte, Int.reduceLE, Int.reduceLT, Int.reduceToNat, Int.reduceNeg, reduceCtorEq, Int.reduceEq, SF0, SF1, SF2, DLa0, DCg0, DCe0, DCe1, DCe2, DDb0, DBc0, DBc1, DHa0, DHb0, DHb1, DDe0]
    refine req (by omega) ?_
    simp (disch := omega) only [SX0, SX1, SX2, SX3, SX4, SX5, SX6, SX7, SX8, SU0, SY0, SY1, Nat.reduceAdd, Nat.reduceMul, Nat.reduceSub, Nat.reduceLeDiff, Nat.reduceEqDiff, Nat.reduceLT, Nat.reduceBEq, ↓reduceIte, Int.reduceLE, Int.reduceLT, Int.reduceToNat, Int.reduceNeg, reduceCtorEq, Int.reduceEq, SF0, SF1, SF2, DLa0, DCg0, DCe0, DCe1, DCe2, DDb0, DBc0, DBc1, DHa0, DHb0, DHb1, DDe0]
    refine ⟨i + 1, by omega, by omega, ?_⟩
    (refine wk_le ?_ ?_ ?_; (focus (simp [W8, leTm, leAV, AV.under, underL, Work.under, Plan.under, e]; done)); (focus (simp [leL, OB.under, underL, AV.under, Work.under, Plan.under, e]; done)); (focus (simp; done)))
  · have ek : k.Ps.take i = k.Ps := List.take_of_length_le (by omega)
    have el : k.Ps.length = i := by omega
    have e : p.trW k = ⟨k.H, k.W, k.Ps.map Pane.swap⟩ ∧ p.trP k = p.trans := by unfold Plan.trW Plan.trP; rw [if_pos hv, if_pos hv]; exact ⟨rfl, rfl⟩
    have M := transposed_f _ p (Nat.le_refl _) hv.2.1.1
    rw [e.1, e.2]
    generalize p.trans = q at *
    rw [ek]
    simp (disch := omega) only [SX0, SX1, SX2, SX3, SX4, SX5, SX6, SX7, SX8, SU0, SY0, SY1, Nat.reduceAdd, Nat.reduceMul, Nat.reduceSub, Nat.reduceLeDiff, Nat.reduceEqDiff, Nat.reduceLT, Nat.reduceBEq, ↓reduceIte, Int.reduceLE, Int.reduceLT, Int.reduceToNat, Int.reduceNeg, reduceCtorEq, Int.reduceEq, SF0, SF1, SF2, DLa0, DCg0, DCe0, DCe1, DCe2, DDb0, DBc0, DBc1, DHa0, DHb0, DHb1, DDe0]
    refine awp_float (bl := []) T_tt mixed [0, 1, 2, 3, 4, 5] [0, 1] [(2, [(1, .f 36)]), (3, [(0, .f 35)]), (4, [])] [] (by kernel_rfl) (by kernel_rfl) ?_
    simp (disch := omega) only [SX0, SX1, SX2, SX3, SX4, SX5, SX6, SX7, SX8, SU0, SY0, SY1, Nat.reduceAdd, Nat.reduceMul, Nat.reduceSub, Nat.reduceLeDiff, Nat.reduceEqDiff, Nat.reduceLT, Nat.reduceBEq, ↓reduceIte, Int.reduceLE, Int.reduceLT, Int.reduceToNat, Int.reduceNeg, reduceCtorEq, Int.reduceEq, SF0, SF1, SF2, DLa0, DCg0, DCe0, DCe1, DCe2, DDb0, DBc0, DBc1, DHa0, DHb0, DHb1, DDe0]
    refine acall_own M [] [] (by simp only [SX0, SX1, SX2, SX3, SX4, SX5, SX6, SX7, SX8, SU0, SY0, SY1, Nat.reduceAdd, Nat.reduceMul, Nat.reduceSub, Nat.reduceLeDiff, Nat.reduceEqDiff, Nat.reduceLT, Nat.reduceBEq, ↓reduceIte, Int.reduceLE, Int.reduceLT, Int.reduceToNat, Int.reduceNeg, reduceCtorEq, Int.reduceEq, SF0, SF1, SF2, DLa0, DCg0, DCe0, DCe1, DCe2, DDb0, DBc0, DBc1, DHa0, DHb0, DHb1, DDe0, SX0]) (by decide) (by decide) (by rfl) (by simp only [SX0, SX1, SX2, SX3, SX4, SX5, SX6, SX7, SX8, SU0, SY0, SY1, Nat.reduceAdd, Nat.reduceMul, Nat.reduceSub, Nat.reduceLeDiff, Nat.reduceEqDiff, Nat.reduceLT, Nat.reduceBEq, ↓reduceIte, Int.reduceLE, Int.reduceLT, Int.reduceToNat, Int.reduceNeg, reduceCtorEq, Int.reduceEq, SF0, SF1, SF2, DLa0, DCg0, DCe0, DCe1, DCe2, DDb0, DBc0, DBc1, DHa0, DHb0, DHb1, DDe0, SX0]) ?_
    rintro _ _ ⟨S, v, hv, rfl, rfl⟩
    simp (disch := omega) only [SX0, SX1, SX2, SX3, SX4, SX5, SX6, SX7, SX8, SU0, SY0, SY1, Nat.reduceAdd, Nat.reduceMul, Nat.reduceSub, Nat.reduceLeDiff, Nat.reduceEqDiff, Nat.reduceLT, Nat.reduceBEq, ↓reduceIte, Int.reduceLE, Int.reduceLT, Int.reduceToNat, Int.reduceNeg, reduceCtorEq, Int.reduceEq, SF0, SF1, SF2, DLa0, DCg0, DCe0, DCe1, DCe2, DDb0, DBc0, DBc1, DHa0, DHb0, DHb1, DDe0, SX0, hv, if_true, Plan.csV]
    refine fin_closeC (.tup _ 0 _ _ rfl (.agg _ 2 _ _ rfl .here fun j y hy hj => ?_) fun j y hy hj => ?_) (r := 5) (k := 4) rfl (exact_map _ Pane.exact _) (by simp) (by simp; omega) fun S0 v0 hv0 => ?_
    · match j, hy with
      | 0, hy => simp at hy; subst hy; rfl
      | 1, hy => simp at hy; subst hy; rfl
      | 2, _ => exact absurd rfl hj
      | j + 3, hy => simp at hy
    · match j, hy with
      | 0, _ => exact absurd rfl hj
      | 1, hy => simp at hy; subst hy; rfl
      | j + 2, hy => simp at hy
    exact fin_ks [5, 6] (.tup [.agg ((Work.mk k.H k.W (k.Ps.map Pane.swap)).csV v0), .agg (q.csV v)]) [.forest S0 [(v0, .sl ((k.Ps.map Pane.swap).map Pane.cs))], .forest S [(v, .sl (q.ks.map Plan.cs))]] ⟨S0, v0, S, v, hv0, hv, rfl, rfl⟩ rfl ⟨rfl, rfl, trivial⟩ (by simp) (by simp) (by simp)

theorem acall_borWP {P : Program} {fx : List Nat} {f : FuncId} {args' : List AV} {w : Work} {q : Plan} (h : ACalls P f args' [] [] (TreeWP w q)) {args : List AV} {s : AS} (hb : BorL s.L args args')
    {K : AV → AS → Prop} (hK : ∀ S0 v0 S v, v0.oneCell' = true → v.oneCell' = true → K (.tup [.agg (w.csV v0), .agg (q.csV v)]) { s with L := s.L ++ [.forest S0 [(v0, .sl (w.Ps.map Pane.cs))], .forest S [(v, .sl (q.ks.map Plan.cs))]] }) : ACall P fx (.fn f []) args s K :=
  acall_bor h hb (fun r L ⟨S0, v0, S, v, _, _, h1, h2⟩ => by subst h1; subst h2; exact ⟨rfl, rfl⟩) fun r L ⟨S0, v0, S, v, h00, h0, h1, h2⟩ => by
    subst h1; subst h2
    exact hK S0 v0 S v h00 h0

theorem tr_small (p : Plan) (k : Work) : (p.trW k).Ps.length ≤ 24 ∧ (p.trP k).nodes ≤ 255 := by
  unfold Plan.trW Plan.trP
  by_cases hv : p.valid k
  · rw [if_pos hv, if_pos hv]
    exact ⟨by have := hv.1.2.2.2; simpa [Work.swap] using this, by rw [(Plan.trans_all p hv.2.1.1).2.1]; exact hv.2.1.2⟩
  · rw [if_neg hv, if_neg hv, Plan.zero_nodes]; exact ⟨by simp, by decide⟩

def Work.held (w : Work) (k : Int) : List AV := [.val (.int .i64 w.W), .val (.int .i64 w.H), .sl ((marks Pane.mk' 4 w.Ps.length k).map Pane.cs)]
theorem bor_heldW {L : List OB} (r : Nat) {S : Nat → Prop} {v : Value} {w : Work} {k : Int} (h : L[r]? = some (.forest S [(v, .sl ((marks Pane.mk' 4 w.Ps.length k).map Pane.cs))])) : Bor L (.agg (w.csV v)) (.agg (w.held k)) :=
  Bor.aggL (show BorL L [_, _, _] [_, _, _] from ⟨.free _ rfl, .free _ rfl, .item r 0 S _ v _ h rfl, trivial⟩)

def FnExactTransposePlan_hyp : Prop := ∀ (x0 : Work) (_ : x0.Ps.length ≤ 9223372036854775807) (x1 : Plan) (_ : x1.Lens), ACalls Try.prog 9 [.agg x0.cs, .agg x1.cs] [] [] (fun r L => r = .val (.bool true) ∧ L = [])
theorem e_fnExactTransposePlan : Enters Try.prog 9 := enters_of Try.func9 (by kernel_rfl) (by kernel_rfl)
set_option maxRecDepth 8000 in
set_option maxHeartbeats 4000000 in
theorem fnExactTransposePlan_c : FnExactTransposePlan_hyp := by
  intro k hk p hp
  refine acalls_tm T_tt Try.func9 rfl e_fnExactTransposePlan 133 rfl (W8 _ _ .any .any .any .any .any .any (W8 .any .any .any .any .any .any .any .any (W8 .any .any .any .any .any .any .any .any (W8 .any .any .any .any .any .any .any .any (W8 .any .any .any .any .any .any .any .any (W8 .any .any .any .any .any .any .any .any (W8 .any .any .any .any .any .any .any .any (W8 .any .any .any .any .any .any .any .any (W8 .any .any .any .any .any .any .any .any (W8 .any .any .any .any .any .any .any .any (W8 .any .any .any .any .any .any .any .any (W8 .any .any .any .any .any .any .any .any (W8 .any .any .any .any .any .any .any .any (W8 .any .any .any .any .any .any .any .any (W8 .any .any .any .any .any .any .any .any (W8 .any .any .any .any .any .any .any .any [.any, .any, .any, .any, .any, .any, .any])))))))))))))))) rfl (rv := [.tmp 4]) rfl (sx_sound (bl := []) T_tt _ _ _ ?_)
  simp (disch := omega) only [SX0, SX1, SX2, SX3, SX4, SX5, SX6, SX7, SX8, SU0, SY0, SY1, Nat.reduceAdd, Nat.reduceMul, Nat.reduceSub, Nat.reduceLeDiff, Nat.reduceEqDiff, Nat.reduceLT, Nat.reduceBEq, ↓reduceIte, Int.reduceLE, Int.reduceLT, Int.reduceToNat, Int.reduceNeg, reduceCtorEq, Int.reduceEq, SF0, SF1, SF2, DLa0, DCg0, DCe0, DCe1, DCe2, DDb0, DBc0, DBc1, DHa0, DHb0, DHb1, DDe0]
  refine acall_one (szWork_c k 1048576 hk (by omega)) rfl rfl ?_
  simp (disch := omega) only [SX0, SX1, SX2, SX3, SX4, SX5, SX6, SX7, SX8, SU0, SY0, SY1, Nat.reduceAdd, Nat.reduceMul, Nat.reduceSub, Nat.reduceLeDiff, Nat.reduceEqDiff, Nat.reduceLT, Nat.reduceBEq, ↓reduceIte, Int.reduceLE, Int.reduceLT, Int.reduceToNat, Int.reduceNeg, reduceCtorEq, Int.reduceEq, SF0, SF1, SF2, DLa0, DCg0, DCe0, DCe1, DCe2, DDb0, DBc0, DBc1, DHa0, DHb0, DHb1, DDe0]
  refine br_dec (fun h1 => ?_) (fun h1 => ?_)
  · simp (disch := omega) only [SX0, SX1, SX2, SX3, SX4, SX5, SX6, SX7, SX8, SU0, SY0, SY1, Nat.reduceAdd, Nat.reduceMul, Nat.reduceSub, Nat.reduceLeDiff, Nat.reduceEqDiff, Nat.reduceLT, Nat.reduceBEq, ↓reduceIte, Int.reduceLE, Int.reduceLT, Int.reduceToNat, Int.reduceNeg, reduceCtorEq, Int.reduceEq, SF0, SF1, SF2, DLa0, DCg0, DCe0, DCe1, DCe2, DDb0, DBc0, DBc1, DHa0, DHb0, DHb1, DDe0]
    exact fin_val ⟨rfl, rfl⟩
  obtain ⟨hk1, e1⟩ := leftOf_pos h1
  rw [e1]
  simp (disch := omega) only [SX0, SX1, SX2, SX3, SX4, SX5, SX6, SX7, SX8, SU0, SY0, SY1, Nat.reduceAdd, Nat.reduceMul, Nat.reduceSub, Nat.reduceLeDiff, Nat.reduceEqDiff, Nat.reduceLT, Nat.reduceBEq, ↓reduceIte, Int.reduceLE, Int.reduceLT, Int.reduceToNat, Int.reduceNeg, reduceCtorEq, Int.reduceEq, SF0, SF1, SF2, DLa0, DCg0, DCe0, DCe1, DCe2, DDb0, DBc0, DBc1, DHa0, DHb0, DHb1, DDe0]
  refine acall_one (szPlan_c p _ hp (by omega)) (by simp [freeL, AV.free, Plan.free]) rfl ?_
  simp (disch := omega) only [SX0, SX1, SX2, SX3, SX4, SX5, SX6, SX7, SX8, SU0, SY0, SY1, Nat.reduceAdd, Nat.reduceMul, Nat.reduceSub, Nat.reduceLeDiff, Nat.reduceEqDiff, Nat.reduceLT, Nat.reduceBEq, ↓reduceIte, Int.reduceLE, Int.reduceLT, Int.reduceToNat, Int.reduceNeg, reduceCtorEq, Int.reduceEq, SF0, SF1, SF2, DLa0, DCg0, DCe0, DCe1, DCe2, DDb0, DBc0, DBc1, DHa0, DHb0, DHb1, DDe0]
  refine br_dec (fun h2 => ?_) (fun h2 => ?_)
  · simp (disch := omega) only [SX0, SX1, SX2, SX3, SX4, SX5, SX6, SX7, SX8, SU0, SY0, SY1, Nat.reduceAdd, Nat.reduceMul, Nat.reduceSub, Nat.reduceLeDiff, Nat.reduceEqDiff, Nat.reduceLT, Nat.reduceBEq, ↓reduceIte, Int.reduceLE, Int.reduceLT, Int.reduceToNat, Int.reduceNeg, reduceCtorEq, Int.reduceEq, SF0, SF1, SF2, DLa0, DCg0, DCe0, DCe1, DCe2, DDb0, DBc0, DBc1, DHa0, DHb0, DHb1, DDe0]
    exact fin_val ⟨rfl, rfl⟩
  have h3 := (leftOf_pos h2).1
  have hpn : p.nodes ≤ 1048577 := by omega
  have hkn : k.Ps.length ≤ 1048576 := by omega
  have hpk := p.nodes_eq
  have TW := toWork_c k hkn
  have TP := toPlan_c p hpn
  obtain ⟨hwn, hqn⟩ := tr_small p k
  have UF := transposePlan_f k p (by omega)
  have UZ := transposePlanI_c k p (by omega)
  have US := transposePlanS_c k p (by omega)
  generalize p.trP k = q at *
  generalize p.trW k = w at *
  have hqk := q.nodes_eq
  have EW := eqWork_c w (by omega)
  have EQ := eqPlan_c q (by omega)
  have HW : ACalls Try.prog 48 [.agg (w.held 1), .val (.int .i64 1)] [] [] (fun r L => r = .val (.int .i64 (1 + 4 * w.Ps.length)) ∧ L = []) := heldWork_c w.W w.H w.Ps.length (by omega) 1 (by omega)
  have HE : ACalls Try.prog 45 [.agg (q.held (1 + 4 * (w.Ps.length : Int))), .val (.int .i64 (1 + 4 * (w.Ps.length : Int)))] [] [] (fun r L => r = .val (.int .i64 (1 + 4 * (w.Ps.length : Int) + 4 * Plan.nodesL q.ks)) ∧ L = []) := heldPlan_c q (by omega) _ (by omega)
  simp (disch := omega) only [SX0, SX1, SX2, SX3, SX4, SX5, SX6, SX7, SX8, SU0, SY0, SY1, Nat.reduceAdd, Nat.reduceMul, Nat.reduceSub, Nat.reduceLeDiff, Nat.reduceEqDiff, Nat.reduceLT, Nat.reduceBEq, ↓reduceIte, Int.reduceLE, Int.reduceLT, Int.reduceToNat, Int.reduceNeg, reduceCtorEq, Int.reduceEq, SF0, SF1, SF2, DLa0, DCg0, DCe0, DCe1, DCe2, DDb0, DBc0, DBc1, DHa0, DHb0, DHb1, DDe0]
  refine awp_float (bl := []) T_tt mixed [0, 1] [0, 1, 2, 3, 4, 5, 6, 7] [(10, [(0, .f 28), (1, .f 29), (2, .f 30), (3, .f 31), (4, .f 32), (5, .f 27), (6, .f 33), (8, .a 6 34), (9, .a 7 38)]), (11, [(7, .f 34)])] [] (by kernel_rfl) (by kernel_rfl) ?_
  simp (disch := omega) only [SX0, SX1, SX2, SX3, SX4, SX5, SX6, SX7, SX8, SU0, SY0, SY1, Nat.reduceAdd, Nat.reduceMul, Nat.reduceSub, Nat.reduceLeDiff, Nat.reduceEqDiff, Nat.reduceLT, Nat.reduceBEq, ↓reduceIte, Int.reduceLE, Int.reduceLT, Int.reduceToNat, Int.reduceNeg, reduceCtorEq, Int.reduceEq, SF0, SF1, SF2, DLa0, DCg0, DCe0, DCe1, DCe2, DDb0, DBc0, DBc1, DHa0, DHb0, DHb1, DDe0]
  refine qc_one TW rfl ?_
  simp (disch := omega) only [SX0, SX1, SX2, SX3, SX4, SX5, SX6, SX7, SX8, SU0, SY0, SY1, Nat.reduceAdd, Nat.reduceMul, Nat.reduceSub, Nat.reduceLeDiff, Nat.reduceEqDiff, Nat.reduceLT, Nat.reduceBEq, ↓reduceIte, Int.reduceLE, Int.reduceLT, Int.reduceToNat, Int.reduceNeg, reduceCtorEq, Int.reduceEq, SF0, SF1, SF2, DLa0, DCg0, DCe0, DCe1, DCe2, DDb0, DBc0, DBc1, DHa0, DHb0, DHb1, DDe0]
  refine qc_one TP (by simp [freeL, AV.free, Plan.free]) ?_
  simp (disch := omega) only [SX0, SX1, SX2, SX3, SX4, SX5, SX6, SX7, SX8, SU0, SY0, SY1, Nat.reduceAdd, Nat.reduceMul, Nat.reduceSub, Nat.reduceLeDiff, Nat.reduceEqDiff, Nat.reduceLT, Nat.reduceBEq, ↓reduceIte, Int.reduceLE, Int.reduceLT, Int.reduceToNat, Int.reduceNeg, reduceCtorEq, Int.reduceEq, SF0, SF1, SF2, DLa0, DCg0, DCe0, DCe1, DCe2, DDb0, DBc0, DBc1, DHa0, DHb0, DHb1, DDe0]
  refine qc_one US (by simp [freeL, AV.free, Plan.free, Work.free]) ?_
  simp (disch := omega) only [SX0, SX1, SX2, SX3, SX4, SX5, SX6, SX7, SX8, SU0, SY0, SY1, Nat.reduceAdd, Nat.reduceMul, Nat.reduceSub, Nat.reduceLeDiff, Nat.reduceEqDiff, Nat.reduceLT, Nat.reduceBEq, ↓reduceIte, Int.reduceLE, Int.reduceLT, Int.reduceToNat, Int.reduceNeg, reduceCtorEq, Int.reduceEq, SF0, SF1, SF2, DLa0, DCg0, DCe0, DCe1, DCe2, DDb0, DBc0, DBc1, DHa0, DHb0, DHb1, DDe0]
  refine acall_own (toWork_f k hkn) [] [] (by simp only [SX0, SX1, SX2, SX3, SX4, SX5, SX6, SX7, SX8, SU0, SY0, SY1, Nat.reduceAdd, Nat.reduceMul, Nat.reduceSub, Nat.reduceLeDiff, Nat.reduceEqDiff, Nat.reduceLT, Nat.reduceBEq, ↓reduceIte, Int.reduceLE, Int.reduceLT, Int.reduceToNat, Int.reduceNeg, reduceCtorEq, Int.reduceEq, SF0, SF1, SF2, DLa0, DCg0, DCe0, DCe1, DCe2, DDb0, DBc0, DBc1, DHa0, DHb0, DHb1, DDe0, SX0]) (by decide) (by decide) (by rfl) (by simp only [SX0, SX1, SX2, SX3, SX4, SX5, SX6, SX7, SX8, SU0, SY0, SY1, Nat.reduceAdd, Nat.reduceMul, Nat.reduceSub, Nat.reduceLeDiff, Nat.reduceEqDiff, Nat.reduceLT, Nat.reduceBEq, ↓reduceIte, Int.reduceLE, Int.reduceLT, Int.reduceToNat, Int.reduceNeg, reduceCtorEq, Int.reduceEq, SF0, SF1, SF2, DLa0, DCg0, DCe0, DCe1, DCe2, DDb0, DBc0, DBc1, DHa0, DHb0, DHb1, DDe0, SX0]) ?_
  rintro _ _ ⟨S0, v0, hv0, rfl, rfl⟩
  simp (disch := omega) only [SX0, SX1, SX2, SX3, SX4, SX5, SX6, SX7, SX8, SU0, SY0, SY1, Nat.reduceAdd, Nat.reduceMul, Nat.reduceSub, Nat.reduceLeDiff, Nat.reduceEqDiff, Nat.reduceLT, Nat.reduceBEq, ↓reduceIte, Int.reduceLE, Int.reduceLT, Int.reduceToNat, Int.reduceNeg, reduceCtorEq, Int.reduceEq, SF0, SF1, SF2, DLa0, DCg0, DCe0, DCe1, DCe2, DDb0, DBc0, DBc1, DHa0, DHb0, DHb1, DDe0, SX0, hv0, if_true, Work.csV]
  refine acall_own (toPlan_f p hpn) [] [] (by simp only [SX0, SX1, SX2, SX3, SX4, SX5, SX6, SX7, SX8, SU0, SY0, SY1, Nat.reduceAdd, Nat.reduceMul, Nat.reduceSub, Nat.reduceLeDiff, Nat.reduceEqDiff, Nat.reduceLT, Nat.reduceBEq, ↓reduceIte, Int.reduceLE, Int.reduceLT, Int.reduceToNat, Int.reduceNeg, reduceCtorEq, Int.reduceEq, SF0, SF1, SF2, DLa0, DCg0, DCe0, DCe1, DCe2, DDb0, DBc0, DBc1, DHa0, DHb0, DHb1, DDe0, SX0]) (by decide) (by decide) (by rfl) (by simp only [SX0, SX1, SX2, SX3, SX4, SX5, SX6, SX7, SX8, SU0, SY0, SY1, Nat.reduceAdd, Nat.reduceMul, Nat.reduceSub, Nat.reduceLeDiff, Nat.reduceEqDiff, Nat.reduceLT, Nat.reduceBEq, ↓reduceIte, Int.reduceLE, Int.reduceLT, Int.reduceToNat, Int.reduceNeg, reduceCtorEq, Int.reduceEq, SF0, SF1, SF2, DLa0, DCg0, DCe0, DCe1, DCe2, DDb0, DBc0, DBc1, DHa0, DHb0, DHb1, DDe0, SX0]) ?_
  rintro _ _ ⟨S1, v1, hv1, rfl, rfl⟩
  simp (disch := omega) only [SX0, SX1, SX2, SX3, SX4, SX5, SX6, SX7, SX8, SU0, SY0, SY1, Nat.reduceAdd, Nat.reduceMul, Nat.reduceSub, Nat.reduceLeDiff, Nat.reduceEqDiff, Nat.reduceLT, Nat.reduceBEq, ↓reduceIte, Int.reduceLE, Int.reduceLT, Int.reduceToNat, Int.reduceNeg, reduceCtorEq, Int.reduceEq, SF0, SF1, SF2, DLa0, DCg0, DCe0, DCe1, DCe2, DDb0, DBc0, DBc1, DHa0, DHb0, DHb1, DDe0, SX0, hv1, if_true, Plan.csV]
  refine acall_borWP UF (by exact ⟨bor_work 4 rfl, bor_plan 6 rfl, trivial⟩) fun S2 v2 S3 v3 hv2 hv3 => ?_
  simp (disch := omega) only [SX0, SX1, SX2, SX3, SX4, SX5, SX6, SX7, SX8, SU0, SY0, SY1, Nat.reduceAdd, Nat.reduceMul, Nat.reduceSub, Nat.reduceLeDiff, Nat.reduceEqDiff, Nat.reduceLT, Nat.reduceBEq, ↓reduceIte, Int.reduceLE, Int.reduceLT, Int.reduceToNat, Int.reduceNeg, reduceCtorEq, Int.reduceEq, SF0, SF1, SF2, DLa0, DCg0, DCe0, DCe1, DCe2, DDb0, DBc0, DBc1, DHa0, DHb0, DHb1, DDe0, SX0, hv2, hv3, if_true, Plan.csV, Work.csV]
  refine acall_tell EW (by exact ⟨bor_work 8 rfl, .free _ (by simp [AV.free, Work.free]), trivial⟩) ?_
  simp (disch := omega) only [SX0, SX1, SX2, SX3, SX4, SX5, SX6, SX7, SX8, SU0, SY0, SY1, Nat.reduceAdd, Nat.reduceMul, Nat.reduceSub, Nat.reduceLeDiff, Nat.reduceEqDiff, Nat.reduceLT, Nat.reduceBEq, ↓reduceIte, Int.reduceLE, Int.reduceLT, Int.reduceToNat, Int.reduceNeg, reduceCtorEq, Int.reduceEq, SF0, SF1, SF2, DLa0, DCg0, DCe0, DCe1, DCe2, DDb0, DBc0, DBc1, DHa0, DHb0, DHb1, DDe0, SX0]
  refine acall_tell EQ (by exact ⟨bor_plan 9 rfl, .free _ (by simp [AV.free, Plan.free]), trivial⟩) ?_
  simp (disch := omega) only [SX0, SX1, SX2, SX3, SX4, SX5, SX6, SX7, SX8, SU0, SY0, SY1, Nat.reduceAdd, Nat.reduceMul, Nat.reduceSub, Nat.reduceLeDiff, Nat.reduceEqDiff, Nat.reduceLT, Nat.reduceBEq, ↓reduceIte, Int.reduceLE, Int.reduceLT, Int.reduceToNat, Int.reduceNeg, reduceCtorEq, Int.reduceEq, SF0, SF1, SF2, DLa0, DCg0, DCe0, DCe1, DCe2, DDb0, DBc0, DBc1, DHa0, DHb0, DHb1, DDe0]
  refine awp_float (bl := []) T_tt mixed [0, 1, 2, 3, 5, 7, 10, 11] [0, 1, 2] [(3, [(0, .f 55), (1, .f 56), (2, .f 57)]), (4, [])] [] (by kernel_rfl) (by kernel_rfl) ?_
  simp (disch := omega) only [SX0, SX1, SX2, SX3, SX4, SX5, SX6, SX7, SX8, SU0, SY0, SY1, Nat.reduceAdd, Nat.reduceMul, Nat.reduceSub, Nat.reduceLeDiff, Nat.reduceEqDiff, Nat.reduceLT, Nat.reduceBEq, ↓reduceIte, Int.reduceLE, Int.reduceLT, Int.reduceToNat, Int.reduceNeg, reduceCtorEq, Int.reduceEq, SF0, SF1, SF2, DLa0, DCg0, DCe0, DCe1, DCe2, DDb0, DBc0, DBc1, DHa0, DHb0, DHb1, DDe0, SX0]
  refine qc_one TW rfl ?_
  simp (disch := omega) only [SX0, SX1, SX2, SX3, SX4, SX5, SX6, SX7, SX8, SU0, SY0, SY1, Nat.reduceAdd, Nat.reduceMul, Nat.reduceSub, Nat.reduceLeDiff, Nat.reduceEqDiff, Nat.reduceLT, Nat.reduceBEq, ↓reduceIte, Int.reduceLE, Int.reduceLT, Int.reduceToNat, Int.reduceNeg, reduceCtorEq, Int.reduceEq, SF0, SF1, SF2, DLa0, DCg0, DCe0, DCe1, DCe2, DDb0, DBc0, DBc1, DHa0, DHb0, DHb1, DDe0, SX0]
  refine acall_tell (eqWork_c k (by omega)) (by exact ⟨bor_work 4 rfl, .free _ rfl, trivial⟩) ?_
  simp (disch := omega) only [SX0, SX1, SX2, SX3, SX4, SX5, SX6, SX7, SX8, SU0, SY0, SY1, Nat.reduceAdd, Nat.reduceMul, Nat.reduceSub, Nat.reduceLeDiff, Nat.reduceEqDiff, Nat.reduceLT, Nat.reduceBEq, ↓reduceIte, Int.reduceLE, Int.reduceLT, Int.reduceToNat, Int.reduceNeg, reduceCtorEq, Int.reduceEq, SF0, SF1, SF2, DLa0, DCg0, DCe0, DCe1, DCe2, DDb0, DBc0, DBc1, DHa0, DHb0, DHb1, DDe0, SX0]
  refine awp_float (bl := []) T_tt mixed [0, 1, 2, 3, 5, 7, 10, 11] [0, 1, 2] [(3, [(0, .f 60), (1, .f 61), (2, .f 62)]), (4, [])] [] (by kernel_rfl) (by kernel_rfl) ?_
  simp (disch := omega) only [SX0, SX1, SX2, SX3, SX4, SX5, SX6, SX7, SX8, SU0, SY0, SY1, Nat.reduceAdd, Nat.reduceMul, Nat.reduceSub, Nat.reduceLeDiff, Nat.reduceEqDiff, Nat.reduceLT, Nat.reduceBEq, ↓reduceIte, Int.reduceLE, Int.reduceLT, Int.reduceToNat, Int.reduceNeg, reduceCtorEq, Int.reduceEq, SF0, SF1, SF2, DLa0, DCg0, DCe0, DCe1, DCe2, DDb0, DBc0, DBc1, DHa0, DHb0, DHb1, DDe0, SX0]
  refine qc_one TP (by simp [freeL, AV.free, Plan.free]) ?_
  simp (disch := omega) only [SX0, SX1, SX2, SX3, SX4, SX5, SX6, SX7, SX8, SU0, SY0, SY1, Nat.reduceAdd, Nat.reduceMul, Nat.reduceSub, Nat.reduceLeDiff, Nat.reduceEqDiff, Nat.reduceLT, Nat.reduceBEq, ↓reduceIte, Int.reduceLE, Int.reduceLT, Int.reduceToNat, Int.reduceNeg, reduceCtorEq, Int.reduceEq, SF0, SF1, SF2, DLa0, DCg0, DCe0, DCe1, DCe2, DDb0, DBc0, DBc1, DHa0, DHb0, DHb1, DDe0, SX0]
  refine acall_tell (eqPlan_c p hpn) (by exact ⟨bor_plan 6 rfl, .free _ (by simp [AV.free, Plan.free]), trivial⟩) ?_
  simp (disch := omega) only [SX0, SX1, SX2, SX3, SX4, SX5, SX6, SX7, SX8, SU0, SY0, SY1, Nat.reduceAdd, Nat.reduceMul, Nat.reduceSub, Nat.reduceLeDiff, Nat.reduceEqDiff, Nat.reduceLT, Nat.reduceBEq, ↓reduceIte, Int.reduceLE, Int.reduceLT, Int.reduceToNat, Int.reduceNeg, reduceCtorEq, Int.reduceEq, SF0, SF1, SF2, DLa0, DCg0, DCe0, DCe1, DCe2, DDb0, DBc0, DBc1, DHa0, DHb0, DHb1, DDe0, SX0]
  refine acall_item (fun S => markWork_f k hkn 1 (by omega) v0 S) 4 0 rfl rfl rfl fun S4 => ?_
  simp (disch := omega) only [SX0, SX1, SX2, SX3, SX4, SX5, SX6, SX7, SX8, SU0, SY0, SY1, Nat.reduceAdd, Nat.reduceMul, Nat.reduceSub, Nat.reduceLeDiff, Nat.reduceEqDiff, Nat.reduceLT, Nat.reduceBEq, ↓reduceIte, Int.reduceLE, Int.reduceLT, Int.reduceToNat, Int.reduceNeg, reduceCtorEq, Int.reduceEq, SF0, SF1, SF2, DLa0, DCg0, DCe0, DCe1, DCe2, DDb0, DBc0, DBc1, DHa0, DHb0, DHb1, DDe0, SX0]
  refine acall_item (fun S => markPlan_f p hpn (1 + 4 * (k.Ps.length : Int)) (by omega) v1 S) 6 0 rfl rfl rfl fun S5 => ?_
  simp (disch := omega) only [SX0, SX1, SX2, SX3, SX4, SX5, SX6, SX7, SX8, SU0, SY0, SY1, Nat.reduceAdd, Nat.reduceMul, Nat.reduceSub, Nat.reduceLeDiff, Nat.reduceEqDiff, Nat.reduceLT, Nat.reduceBEq, ↓reduceIte, Int.reduceLE, Int.reduceLT, Int.reduceToNat, Int.reduceNeg, reduceCtorEq, Int.reduceEq, SF0, SF1, SF2, DLa0, DCg0, DCe0, DCe1, DCe2, DDb0, DBc0, DBc1, DHa0, DHb0, DHb1, DDe0, SX0]
  refine br_dec (fun h => by omega) (fun h => ?_)
  simp (disch := omega) only [SX0, SX1, SX2, SX3, SX4, SX5, SX6, SX7, SX8, SU0, SY0, SY1, Nat.reduceAdd, Nat.reduceMul, Nat.reduceSub, Nat.reduceLeDiff, Nat.reduceEqDiff, Nat.reduceLT, Nat.reduceBEq, ↓reduceIte, Int.reduceLE, Int.reduceLT, Int.reduceToNat, Int.reduceNeg, reduceCtorEq, Int.reduceEq, SF0, SF1, SF2, DLa0, DCg0, DCe0, DCe1, DCe2, DDb0, DBc0, DBc1, DHa0, DHb0, DHb1, DDe0, SX0]
  refine acall_tell EW (by exact ⟨bor_work 8 rfl, .free _ (by simp [AV.free, Work.free]), trivial⟩) ?_
  simp (disch := omega) only [SX0, SX1, SX2, SX3, SX4, SX5, SX6, SX7, SX8, SU0, SY0, SY1, Nat.reduceAdd, Nat.reduceMul, Nat.reduceSub, Nat.reduceLeDiff, Nat.reduceEqDiff, Nat.reduceLT, Nat.reduceBEq, ↓reduceIte, Int.reduceLE, Int.reduceLT, Int.reduceToNat, Int.reduceNeg, reduceCtorEq, Int.reduceEq, SF0, SF1, SF2, DLa0, DCg0, DCe0, DCe1, DCe2, DDb0, DBc0, DBc1, DHa0, DHb0, DHb1, DDe0, SX0]
  refine acall_tell EQ (by exact ⟨bor_plan 9 rfl, .free _ (by simp [AV.free, Plan.free]), trivial⟩) ?_
  simp (disch := omega) only [SX0, SX1, SX2, SX3, SX4, SX5, SX6, SX7, SX8, SU0, SY0, SY1, Nat.reduceAdd, Nat.reduceMul, Nat.reduceSub, Nat.reduceLeDiff, Nat.reduceEqDiff, Nat.reduceLT, Nat.reduceBEq, ↓reduceIte, Int.reduceLE, Int.reduceLT, Int.reduceToNat, Int.reduceNeg, reduceCtorEq, Int.reduceEq, SF0, SF1, SF2, DLa0, DCg0, DCe0, DCe1, DCe2, DDb0, DBc0, DBc1, DHa0, DHb0, DHb1, DDe0, SX0]
  refine acall_item (fun S => markWork_f w (by omega) 1 (by omega) v2 S) 8 0 rfl rfl rfl fun S6 => ?_
  simp (disch := omega) only [SX0, SX1, SX2, SX3, SX4, SX5, SX6, SX7, SX8, SU0, SY0, SY1, Nat.reduceAdd, Nat.reduceMul, Nat.reduceSub, Nat.reduceLeDiff, Nat.reduceEqDiff, Nat.reduceLT, Nat.reduceBEq, ↓reduceIte, Int.reduceLE, Int.reduceLT, Int.reduceToNat, Int.reduceNeg, reduceCtorEq, Int.reduceEq, SF0, SF1, SF2, DLa0, DCg0, DCe0, DCe1, DCe2, DDb0, DBc0, DBc1, DHa0, DHb0, DHb1, DDe0, SX0]
  refine acall_item (fun S => markPlan_f q (by omega) (1 + 4 * (w.Ps.length : Int)) (by omega) v3 S) 9 0 rfl rfl rfl fun S7 => ?_
  simp (disch := omega) only [SX0, SX1, SX2, SX3, SX4, SX5, SX6, SX7, SX8, SU0, SY0, SY1, Nat.reduceAdd, Nat.reduceMul, Nat.reduceSub, Nat.reduceLeDiff, Nat.reduceEqDiff, Nat.reduceLT, Nat.reduceBEq, ↓reduceIte, Int.reduceLE, Int.reduceLT, Int.reduceToNat, Int.reduceNeg, reduceCtorEq, Int.reduceEq, SF0, SF1, SF2, DLa0, DCg0, DCe0, DCe1, DCe2, DDb0, DBc0, DBc1, DHa0, DHb0, DHb1, DDe0, SX0]
  refine acall_tell HW (by exact ⟨bor_heldW 8 rfl, .free _ rfl, trivial⟩) ?_
  simp (disch := omega) only [SX0, SX1, SX2, SX3, SX4, SX5, SX6, SX7, SX8, SU0, SY0, SY1, Nat.reduceAdd, Nat.reduceMul, Nat.reduceSub, Nat.reduceLeDiff, Nat.reduceEqDiff, Nat.reduceLT, Nat.reduceBEq, ↓reduceIte, Int.reduceLE, Int.reduceLT, Int.reduceToNat, Int.reduceNeg, reduceCtorEq, Int.reduceEq, SF0, SF1, SF2, DLa0, DCg0, DCe0, DCe1, DCe2, DDb0, DBc0, DBc1, DHa0, DHb0, DHb1, DDe0, SX0]
  refine br_dec (fun h => by omega) (fun h => ?_)
  simp (disch := omega) only [SX0, SX1, SX2, SX3, SX4, SX5, SX6, SX7, SX8, SU0, SY0, SY1, Nat.reduceAdd, Nat.reduceMul, Nat.reduceSub, Nat.reduceLeDiff, Nat.reduceEqDiff, Nat.reduceLT, Nat.reduceBEq, ↓reduceIte, Int.reduceLE, Int.reduceLT, Int.reduceToNat, Int.reduceNeg, reduceCtorEq, Int.reduceEq, SF0, SF1, SF2, DLa0, DCg0, DCe0, DCe1, DCe2, DDb0, DBc0, DBc1, DHa0, DHb0, DHb1, DDe0, SX0]
  refine acall_tell HE (by exact ⟨bor_held 9 rfl, .free _ rfl, trivial⟩) ?_
  simp (disch := omega) only [SX0, SX1, SX2, SX3, SX4, SX5, SX6, SX7, SX8, SU0, SY0, SY1, Nat.reduceAdd, Nat.reduceMul, Nat.reduceSub, Nat.reduceLeDiff, Nat.reduceEqDiff, Nat.reduceLT, Nat.reduceBEq, ↓reduceIte, Int.reduceLE, Int.reduceLT, Int.reduceToNat, Int.reduceNeg, reduceCtorEq, Int.reduceEq, SF0, SF1, SF2, DLa0, DCg0, DCe0, DCe1, DCe2, DDb0, DBc0, DBc1, DHa0, DHb0, DHb1, DDe0, SX0]
  refine br_dec (fun h => by omega) (fun h => ?_)
  simp (disch := omega) only [SX0, SX1, SX2, SX3, SX4, SX5, SX6, SX7, SX8, SU0, SY0, SY1, Nat.reduceAdd, Nat.reduceMul, Nat.reduceSub, Nat.reduceLeDiff, Nat.reduceEqDiff, Nat.reduceLT, Nat.reduceBEq, ↓reduceIte, Int.reduceLE, Int.reduceLT, Int.reduceToNat, Int.reduceNeg, reduceCtorEq, Int.reduceEq, SF0, SF1, SF2, DLa0, DCg0, DCe0, DCe1, DCe2, DDb0, DBc0, DBc1, DHa0, DHb0, DHb1, DDe0, SX0]
  refine awp_float (bl := []) T_tt mixed [0, 1, 2, 3, 5, 7, 10, 11] [0, 1, 2, 3, 4, 5, 6, 7] [(10, [(0, .f 105), (1, .f 106), (2, .f 107), (3, .f 108), (4, .f 109), (5, .f 104), (6, .f 110), (8, .a 15 34), (9, .a 16 38)]), (11, [(7, .f 111)])] [] (by kernel_rfl) (by kernel_rfl) ?_
  simp (disch := omega) only [SX0, SX1, SX2, SX3, SX4, SX5, SX6, SX7, SX8, SU0, SY0, SY1, Nat.reduceAdd, Nat.reduceMul, Nat.reduceSub, Nat.reduceLeDiff, Nat.reduceEqDiff, Nat.reduceLT, Nat.reduceBEq, ↓reduceIte, Int.reduceLE, Int.reduceLT, Int.reduceToNat, Int.reduceNeg, reduceCtorEq, Int.reduceEq, SF0, SF1, SF2, DLa0, DCg0, DCe0, DCe1, DCe2, DDb0, DBc0, DBc1, DHa0, DHb0, DHb1, DDe0]
  refine qc_one TW rfl ?_
  simp (disch := omega) only [SX0, SX1, SX2, SX3, SX4, SX5, SX6, SX7, SX8, SU0, SY0, SY1, Nat.reduceAdd, Nat.reduceMul, Nat.reduceSub, Nat.reduceLeDiff, Nat.reduceEqDiff, Nat.reduceLT, Nat.reduceBEq, ↓reduceIte, Int.reduceLE, Int.reduceLT, Int.reduceToNat, Int.reduceNeg, reduceCtorEq, Int.reduceEq, SF0, SF1, SF2, DLa0, DCg0, DCe0, DCe1, DCe2, DDb0, DBc0, DBc1, DHa0, DHb0, DHb1, DDe0]
  refine qc_one TP (by simp [freeL, AV.free, Plan.free]) ?_
  simp (disch := omega) only [SX0, SX1, SX2, SX3, SX4, SX5, SX6, SX7, SX8, SU0, SY0, SY1, Nat.reduceAdd, Nat.reduceMul, Nat.reduceSub, Nat.reduceLeDiff, Nat.reduceEqDiff, Nat.reduceLT, Nat.reduceBEq, ↓reduceIte, Int.reduceLE, Int.reduceLT, Int.reduceToNat, Int.reduceNeg, reduceCtorEq, Int.reduceEq, SF0, SF1, SF2, DLa0, DCg0, DCe0, DCe1, DCe2, DDb0, DBc0, DBc1, DHa0, DHb0, DHb1, DDe0]
  refine qc_one UZ (by simp [freeL, AV.free, Plan.free, Work.free]) ?_
  simp (disch := omega) only [SX0, SX1, SX2, SX3, SX4, SX5, SX6, SX7, SX8, SU0, SY0, SY1, Nat.reduceAdd, Nat.reduceMul, Nat.reduceSub, Nat.reduceLeDiff, Nat.reduceEqDiff, Nat.reduceLT, Nat.reduceBEq, ↓reduceIte, Int.reduceLE, Int.reduceLT, Int.reduceToNat, Int.reduceNeg, reduceCtorEq, Int.reduceEq, SF0, SF1, SF2, DLa0, DCg0, DCe0, DCe1, DCe2, DDb0, DBc0, DBc1, DHa0, DHb0, DHb1, DDe0, SX0]
  refine acall_one EW rfl rfl ?_
  simp (disch := omega) only [SX0, SX1, SX2, SX3, SX4, SX5, SX6, SX7, SX8, SU0, SY0, SY1, Nat.reduceAdd, Nat.reduceMul, Nat.reduceSub, Nat.reduceLeDiff, Nat.reduceEqDiff, Nat.reduceLT, Nat.reduceBEq, ↓reduceIte, Int.reduceLE, Int.reduceLT, Int.reduceToNat, Int.reduceNeg, reduceCtorEq, Int.reduceEq, SF0, SF1, SF2, DLa0, DCg0, DCe0, DCe1, DCe2, DDb0, DBc0, DBc1, DHa0, DHb0, DHb1, DDe0]
  refine acall_one EQ (by simp [freeL, AV.free, Plan.free]) rfl ?_
  simp (disch := omega) only [SX0, SX1, SX2, SX3, SX4, SX5, SX6, SX7, SX8, SU0, SY0, SY1, Nat.reduceAdd, Nat.reduceMul, Nat.reduceSub, Nat.reduceLeDiff, Nat.reduceEqDiff, Nat.reduceLT, Nat.reduceBEq, ↓reduceIte, Int.reduceLE, Int.reduceLT, Int.reduceToNat, Int.reduceNeg, reduceCtorEq, Int.reduceEq, SF0, SF1, SF2, DLa0, DCg0, DCe0, DCe1, DCe2, DDb0, DBc0, DBc1, DHa0, DHb0, DHb1, DDe0]
  refine acall_tell HW (by exact ⟨bor_heldW 8 rfl, .free _ rfl, trivial⟩) ?_
  simp (disch := omega) only [SX0, SX1, SX2, SX3, SX4, SX5, SX6, SX7, SX8, SU0, SY0, SY1, Nat.reduceAdd, Nat.reduceMul, Nat.reduceSub, Nat.reduceLeDiff, Nat.reduceEqDiff, Nat.reduceLT, Nat.reduceBEq, ↓reduceIte, Int.reduceLE, Int.reduceLT, Int.reduceToNat, Int.reduceNeg, reduceCtorEq, Int.reduceEq, SF0, SF1, SF2, DLa0, DCg0, DCe0, DCe1, DCe2, DDb0, DBc0, DBc1, DHa0, DHb0, DHb1, DDe0, SX0]
  refine br_dec (fun h => by omega) (fun h => ?_)
  simp (disch := omega) only [SX0, SX1, SX2, SX3, SX4, SX5, SX6, SX7, SX8, SU0, SY0, SY1, Nat.reduceAdd, Nat.reduceMul, Nat.reduceSub, Nat.reduceLeDiff, Nat.reduceEqDiff, Nat.reduceLT, Nat.reduceBEq, ↓reduceIte, Int.reduceLE, Int.reduceLT, Int.reduceToNat, Int.reduceNeg, reduceCtorEq, Int.reduceEq, SF0, SF1, SF2, DLa0, DCg0, DCe0, DCe1, DCe2, DDb0, DBc0, DBc1, DHa0, DHb0, DHb1, DDe0, SX0]
  refine acall_tell HE (by exact ⟨bor_held 9 rfl, .free _ rfl, trivial⟩) ?_
  simp (disch := omega) only [SX0, SX1, SX2, SX3, SX4, SX5, SX6, SX7, SX8, SU0, SY0, SY1, Nat.reduceAdd, Nat.reduceMul, Nat.reduceSub, Nat.reduceLeDiff, Nat.reduceEqDiff, Nat.reduceLT, Nat.reduceBEq, ↓reduceIte, Int.reduceLE, Int.reduceLT, Int.reduceToNat, Int.reduceNeg, reduceCtorEq, Int.reduceEq, SF0, SF1, SF2, DLa0, DCg0, DCe0, DCe1, DCe2, DDb0, DBc0, DBc1, DHa0, DHb0, DHb1, DDe0, SX0]
  refine br_dec (fun h => by omega) (fun h => ?_)
  simp (disch := omega) only [SX0, SX1, SX2, SX3, SX4, SX5, SX6, SX7, SX8, SU0, SY0, SY1, Nat.reduceAdd, Nat.reduceMul, Nat.reduceSub, Nat.reduceLeDiff, Nat.reduceEqDiff, Nat.reduceLT, Nat.reduceBEq, ↓reduceIte, Int.reduceLE, Int.reduceLT, Int.reduceToNat, Int.reduceNeg, reduceCtorEq, Int.reduceEq, SF0, SF1, SF2, DLa0, DCg0, DCe0, DCe1, DCe2, DDb0, DBc0, DBc1, DHa0, DHb0, DHb1, DDe0, SX0]
  exact fin_val ⟨rfl, rfl⟩

end Go.Pc
