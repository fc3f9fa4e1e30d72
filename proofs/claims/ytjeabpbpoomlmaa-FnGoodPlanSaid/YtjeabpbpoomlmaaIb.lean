/- MirrorPlan of the program and of the reference. -/
import Derived.Test.YtjeabpbpoomlmaaIa
import Derived.Test.YtjeabpbpoomlmaaDe
set_option linter.unusedSimpArgs false
set_option linter.unusedVariables false
namespace Go.Pc
open Go Go.Proofs

/-- The zero value. -/
def Plan.zero : Plan := .mk 0 0 0 false []
theorem Plan.zero_wf : Plan.zero.wf = true := by decide
theorem Plan.zero_nodes : Plan.zero.nodes = 1 := by decide
theorem Plan.zero_cs : Plan.zero.cs = [.val (.int .i64 0), .val (.int .i64 0), .val (.int .i64 0), .val (.bool false), .sl []] := by simp [Plan.zero, Plan.cs_eq, Plan.op, Plan.at_, Plan.pa, Plan.tu, Plan.ks]

theorem e_mirrored : Enters Try.prog 91 := enters_of Try.func91 (by kernel_rfl) (by kernel_rfl)
set_option maxHeartbeats 4000000 in
theorem mirrored_n (k : Work) : ∀ (n : Nat) (p : Plan) (b : Box), p.nodes ≤ n → p.wf = true → b.sane → p.fits k b.W b.H = true →
    ACalls Try.prog 91 [.agg p.cs, .val (.int .i64 b.W)] [] [] (fun r L => r = .agg (p.mirror b.W).cs ∧ L = []) := by
  intro n
  induction n with
  | zero => intro p b h; have := p.nodes_pos; omega
  | succ n ih =>
  intro p b hn hw hb hf
  refine acalls_tm T_tt Try.func91 rfl e_mirrored 58 rfl (W8 _ _ .any .any .any .any .any .any (W8 .any .any .any .any .any .any .any .any (W8 .any .any .any .any .any .any .any .any (W8 .any .any .any .any .any .any .any .any (W8 .any .any .any .any .any .any .any .any (W8 .any .any .any .any .any .any .any .any (W8 .any .any .any .any .any .any .any .any [.any, .any, .any, .any]))))))) rfl (rv := [.cell 4 38]) rfl (sx_sound (bl := []) T_tt _ _ _ ?_)
  simp (disch := omega) only [SX0, SX1, SX2, SX3, SX4, SX5, SX6, SX7, SX8, SU0, SY0, SY1, Nat.reduceAdd, Nat.reduceMul, Nat.reduceSub, Nat.reduceLeDiff, Nat.reduceEqDiff, Nat.reduceLT, Nat.reduceBEq, ↓reduceIte, Int.reduceLE, Int.reduceLT, Int.reduceToNat, Int.reduceNeg, reduceCtorEq, Int.reduceEq, SF0, SF1, SF2, DHb0, DHb1, DHa0, DCg0, DCe0, DCe1, DCe2, DDb0, DBc0, DBc1, DDe0]
  refine br_dec (fun h2 => ?_) (fun h2 => ?_)
  · have hc : p.cut := .inl h2
    obtain ⟨x, y, hk, hx, hy, nx, ny⟩ := Plan.two hw hc
    obtain ⟨f1, f2, g1, g2, g3⟩ := Plan.fits_cut hc hk hf
    obtain ⟨s1, s2, _⟩ := Plan.split_sane hc hk hb hf
    have hbb := hb
    unfold Box.sane at hbb
    have hat : p.at_ ≤ b.W - 1 := g2 h2
    have i1 := ih x (p.split b).1 (by omega) hx s1 f1
    have i2 := ih y (p.split b).2 (by omega) hy s2 f2
    have e1 : (p.split b).1.W = p.at_ := by unfold Plan.split; rw [if_pos h2]
    have e2 : (p.split b).2.W = b.W - p.at_ := by unfold Plan.split; rw [if_pos h2]
    rw [e1] at i1
    rw [e2] at i2
    have em := Plan.mirror_down h2 hk b.W
    generalize y.mirror (b.W - p.at_) = y' at *
    generalize x.mirror p.at_ = x' at *
    simp (disch := omega) only [SX0, SX1, SX2, SX3, SX4, SX5, SX6, SX7, SX8, SU0, SY0, SY1, Nat.reduceAdd, Nat.reduceMul, Nat.reduceSub, Nat.reduceLeDiff, Nat.reduceEqDiff, Nat.reduceLT, Nat.reduceBEq, ↓reduceIte, Int.reduceLE, Int.reduceLT, Int.reduceToNat, Int.reduceNeg, reduceCtorEq, Int.reduceEq, SF0, SF1, SF2, DHb0, DHb1, DHa0, DCg0, DCe0, DCe1, DCe2, DDb0, DBc0, DBc1, DDe0]
    refine awp_float (bl := []) T_tt mixed [0, 1] [0, 1, 2, 3, 4, 5, 6, 7, 8, 9, 10, 11, 12, 13, 14, 15] [(18, [(0, .f 11), (1, .f 12), (2, .f 13), (3, .f 14), (4, .f 15), (5, .f 16), (6, .f 17), (7, .f 18), (8, .f 19), (9, .f 20), (10, .f 21), (11, .f 22), (12, .f 23), (13, .f 24), (14, .f 25), (15, .f 26), (16, .a 5 38), (17, .a 6 38)]), (19, [])] [] (by kernel_rfl) (by kernel_rfl) ?_
    simp (disch := omega) only [SX0, SX1, SX2, SX3, SX4, SX5, SX6, SX7, SX8, SU0, SY0, SY1, Nat.reduceAdd, Nat.reduceMul, Nat.reduceSub, Nat.reduceLeDiff, Nat.reduceEqDiff, Nat.reduceLT, Nat.reduceBEq, ↓reduceIte, Int.reduceLE, Int.reduceLT, Int.reduceToNat, Int.reduceNeg, reduceCtorEq, Int.reduceEq, SF0, SF1, SF2, DHb0, DHb1, DHa0, DCg0, DCe0, DCe1, DCe2, DDb0, DBc0, DBc1, DDe0, hk]
    refine qc_one i2 (by simp [freeL, AV.free, Plan.free]) ?_
    simp (disch := omega) only [SX0, SX1, SX2, SX3, SX4, SX5, SX6, SX7, SX8, SU0, SY0, SY1, Nat.reduceAdd, Nat.reduceMul, Nat.reduceSub, Nat.reduceLeDiff, Nat.reduceEqDiff, Nat.reduceLT, Nat.reduceBEq, ↓reduceIte, Int.reduceLE, Int.reduceLT, Int.reduceToNat, Int.reduceNeg, reduceCtorEq, Int.reduceEq, SF0, SF1, SF2, DHb0, DHb1, DHa0, DCg0, DCe0, DCe1, DCe2, DDb0, DBc0, DBc1, DDe0, hk]
    refine qc_one i1 (by simp [freeL, AV.free, Plan.free]) ?_
    simp (disch := omega) only [SX0, SX1, SX2, SX3, SX4, SX5, SX6, SX7, SX8, SU0, SY0, SY1, Nat.reduceAdd, Nat.reduceMul, Nat.reduceSub, Nat.reduceLeDiff, Nat.reduceEqDiff, Nat.reduceLT, Nat.reduceBEq, ↓reduceIte, Int.reduceLE, Int.reduceLT, Int.reduceToNat, Int.reduceNeg, reduceCtorEq, Int.reduceEq, SF0, SF1, SF2, DHb0, DHb1, DHa0, DCg0, DCe0, DCe1, DCe2, DDb0, DBc0, DBc1, DDe0, hk]
    exact fin_free (by simp [AV.free, freeL, Plan.free]) ⟨by rw [em]; simp [Plan.cs_eq (Plan.mk _ _ _ _ _), Plan.op, Plan.at_, Plan.pa, Plan.tu, Plan.ks], rfl⟩
  simp (disch := omega) only [SX0, SX1, SX2, SX3, SX4, SX5, SX6, SX7, SX8, SU0, SY0, SY1, Nat.reduceAdd, Nat.reduceMul, Nat.reduceSub, Nat.reduceLeDiff, Nat.reduceEqDiff, Nat.reduceLT, Nat.reduceBEq, ↓reduceIte, Int.reduceLE, Int.reduceLT, Int.reduceToNat, Int.reduceNeg, reduceCtorEq, Int.reduceEq, SF0, SF1, SF2, DHb0, DHb1, DHa0, DCg0, DCe0, DCe1, DCe2, DDb0, DBc0, DBc1, DDe0]
  refine br_dec (fun h3 => ?_) (fun h3 => ?_)
  · have hc : p.cut := .inr h3
    obtain ⟨x, y, hk, hx, hy, nx, ny⟩ := Plan.two hw hc
    obtain ⟨f1, f2, g1, g2, g3⟩ := Plan.fits_cut hc hk hf
    obtain ⟨s1, s2, _⟩ := Plan.split_sane hc hk hb hf
    have hbb := hb
    unfold Box.sane at hbb
    have hat : p.at_ ≤ b.H - 1 := g3 (by omega)
    have i1 := ih x (p.split b).1 (by omega) hx s1 f1
    have i2 := ih y (p.split b).2 (by omega) hy s2 f2
    have e1 : (p.split b).1.W = b.W := by unfold Plan.split; rw [if_neg h2]
    have e2 : (p.split b).2.W = b.W := by unfold Plan.split; rw [if_neg h2]
    rw [e1] at i1
    rw [e2] at i2
    have em := Plan.mirror_across h3 hk b.W
    generalize y.mirror b.W = y' at *
    generalize x.mirror b.W = x' at *
    simp (disch := omega) only [SX0, SX1, SX2, SX3, SX4, SX5, SX6, SX7, SX8, SU0, SY0, SY1, Nat.reduceAdd, Nat.reduceMul, Nat.reduceSub, Nat.reduceLeDiff, Nat.reduceEqDiff, Nat.reduceLT, Nat.reduceBEq, ↓reduceIte, Int.reduceLE, Int.reduceLT, Int.reduceToNat, Int.reduceNeg, reduceCtorEq, Int.reduceEq, SF0, SF1, SF2, DHb0, DHb1, DHa0, DCg0, DCe0, DCe1, DCe2, DDb0, DBc0, DBc1, DDe0]
    refine awp_float (bl := []) T_tt mixed [0, 1] [0, 1, 2, 3, 4, 5, 6, 7, 8, 9, 10, 11, 12, 13, 14, 15] [(16, [(0, .f 37), (1, .f 38), (2, .f 39), (3, .f 40), (4, .f 41), (5, .f 42), (6, .f 43), (7, .f 44), (8, .f 45), (9, .f 46), (10, .f 47), (11, .f 48), (12, .f 49), (13, .f 50), (14, .f 51), (15, .f 52)])] [] (by kernel_rfl) (by kernel_rfl) ?_
    simp (disch := omega) only [SX0, SX1, SX2, SX3, SX4, SX5, SX6, SX7, SX8, SU0, SY0, SY1, Nat.reduceAdd, Nat.reduceMul, Nat.reduceSub, Nat.reduceLeDiff, Nat.reduceEqDiff, Nat.reduceLT, Nat.reduceBEq, ↓reduceIte, Int.reduceLE, Int.reduceLT, Int.reduceToNat, Int.reduceNeg, reduceCtorEq, Int.reduceEq, SF0, SF1, SF2, DHb0, DHb1, DHa0, DCg0, DCe0, DCe1, DCe2, DDb0, DBc0, DBc1, DDe0, hk]
    refine qc_one i1 (by simp [freeL, AV.free, Plan.free]) ?_
    simp (disch := omega) only [SX0, SX1, SX2, SX3, SX4, SX5, SX6, SX7, SX8, SU0, SY0, SY1, Nat.reduceAdd, Nat.reduceMul, Nat.reduceSub, Nat.reduceLeDiff, Nat.reduceEqDiff, Nat.reduceLT, Nat.reduceBEq, ↓reduceIte, Int.reduceLE, Int.reduceLT, Int.reduceToNat, Int.reduceNeg, reduceCtorEq, Int.reduceEq, SF0, SF1, SF2, DHb0, DHb1, DHa0, DCg0, DCe0, DCe1, DCe2, DDb0, DBc0, DBc1, DDe0, hk]
    refine qc_one i2 (by simp [freeL, AV.free, Plan.free]) ?_
    simp (disch := omega) only [SX0, SX1, SX2, SX3, SX4, SX5, SX6, SX7, SX8, SU0, SY0, SY1, Nat.reduceAdd, Nat.reduceMul, Nat.reduceSub, Nat.reduceLeDiff, Nat.reduceEqDiff, Nat.reduceLT, Nat.reduceBEq, ↓reduceIte, Int.reduceLE, Int.reduceLT, Int.reduceToNat, Int.reduceNeg, reduceCtorEq, Int.reduceEq, SF0, SF1, SF2, DHb0, DHb1, DHa0, DCg0, DCe0, DCe1, DCe2, DDb0, DBc0, DBc1, DDe0, hk]
    exact fin_free (by simp [AV.free, freeL, Plan.free]) ⟨by rw [em]; simp [Plan.cs_eq (Plan.mk _ _ _ _ _), Plan.op, Plan.at_, Plan.pa, Plan.tu, Plan.ks], rfl⟩
  have hc : ¬ p.cut := by unfold Plan.cut; omega
  have hl := Plan.leaf_eq hw hc
  simp (disch := omega) only [SX0, SX1, SX2, SX3, SX4, SX5, SX6, SX7, SX8, SU0, SY0, SY1, Nat.reduceAdd, Nat.reduceMul, Nat.reduceSub, Nat.reduceLeDiff, Nat.reduceEqDiff, Nat.reduceLT, Nat.reduceBEq, ↓reduceIte, Int.reduceLE, Int.reduceLT, Int.reduceToNat, Int.reduceNeg, reduceCtorEq, Int.reduceEq, SF0, SF1, SF2, DHb0, DHb1, DHa0, DCg0, DCe0, DCe1, DCe2, DDb0, DBc0, DBc1, DDe0]
  refine fin_nrm ?_
  simp only [AV.nrm, nrmL]
  exact fin_free rfl ⟨by rw [Plan.mirror_leaf hc, Plan.cs_eq, hl.1, hl.2]; rfl, rfl⟩

theorem e_mirrorPlanS0 : Enters Try.prog 90 := enters_of Try.func90 (by kernel_rfl) (by kernel_rfl)
set_option maxHeartbeats 4000000 in
theorem mirrorPlanS_n (k : Work) : ∀ (n : Nat) (p : Plan) (b : Box), p.nodes ≤ n → p.wf = true → b.sane → p.fits k b.W b.H = true →
    ACalls Try.prog 90 [.agg p.cs, .val (.int .i64 b.W), .val (.int .i64 b.H)] [] [] (fun r L => r = .agg (p.mirror b.W).cs ∧ L = []) := by
  intro n
  induction n with
  | zero => intro p b h; have := p.nodes_pos; omega
  | succ n ih =>
  intro p b hn hw hb hf
  refine acalls_tm T_tt Try.func90 rfl e_mirrorPlanS0 61 rfl (W8 _ _ _ .any .any .any .any .any (W8 .any .any .any .any .any .any .any .any (W8 .any .any .any .any .any .any .any .any (W8 .any .any .any .any .any .any .any .any (W8 .any .any .any .any .any .any .any .any (W8 .any .any .any .any .any .any .any .any (W8 .any .any .any .any .any .any .any .any (W8 .any .any .any .any .any .any .any .any [])))))))) rfl (rv := [.cell 6 38]) rfl (sx_sound (bl := []) T_tt _ _ _ ?_)
  simp (disch := omega) only [SX0, SX1, SX2, SX3, SX4, SX5, SX6, SX7, SX8, SU0, SY0, SY1, Nat.reduceAdd, Nat.reduceMul, Nat.reduceSub, Nat.reduceLeDiff, Nat.reduceEqDiff, Nat.reduceLT, Nat.reduceBEq, ↓reduceIte, Int.reduceLE, Int.reduceLT, Int.reduceToNat, Int.reduceNeg, reduceCtorEq, Int.reduceEq, SF0, SF1, SF2, DHb0, DHb1, DHa0, DCg0, DCe0, DCe1, DCe2, DDb0, DBc0, DBc1, DDe0]
  refine br_dec (fun h2 => ?_) (fun h2 => ?_)
  · have hc : p.cut := .inl h2
    obtain ⟨x, y, hk, hx, hy, nx, ny⟩ := Plan.two hw hc
    obtain ⟨f1, f2, g1, g2, g3⟩ := Plan.fits_cut hc hk hf
    obtain ⟨s1, s2, _⟩ := Plan.split_sane hc hk hb hf
    have hbb := hb
    unfold Box.sane at hbb
    have hat : p.at_ ≤ b.W - 1 := g2 h2
    have i1 := ih x (p.split b).1 (by omega) hx s1 f1
    have i2 := ih y (p.split b).2 (by omega) hy s2 f2
    have e1 : (p.split b).1.W = p.at_ := by unfold Plan.split; rw [if_pos h2]
    have e2 : (p.split b).2.W = b.W - p.at_ := by unfold Plan.split; rw [if_pos h2]
    have e3 : (p.split b).1.H = b.H := by unfold Plan.split; rw [if_pos h2]
    have e4 : (p.split b).2.H = b.H := by unfold Plan.split; rw [if_pos h2]
    rw [e1, e3] at i1
    rw [e2, e4] at i2
    have em := Plan.mirror_down h2 hk b.W
    generalize y.mirror (b.W - p.at_) = y' at *
    generalize x.mirror p.at_ = x' at *
    simp (disch := omega) only [SX0, SX1, SX2, SX3, SX4, SX5, SX6, SX7, SX8, SU0, SY0, SY1, Nat.reduceAdd, Nat.reduceMul, Nat.reduceSub, Nat.reduceLeDiff, Nat.reduceEqDiff, Nat.reduceLT, Nat.reduceBEq, ↓reduceIte, Int.reduceLE, Int.reduceLT, Int.reduceToNat, Int.reduceNeg, reduceCtorEq, Int.reduceEq, SF0, SF1, SF2, DHb0, DHb1, DHa0, DCg0, DCe0, DCe1, DCe2, DDb0, DBc0, DBc1, DDe0]
    refine awp_float (bl := []) T_tt mixed [0, 1] [0, 1, 2, 3, 4, 5, 6, 7, 8, 9, 10, 11, 12, 13, 14, 15, 16, 17, 18, 19, 20, 21, 22, 23, 24, 25] [(26, [(0, .f 11), (1, .f 12), (2, .f 13), (3, .f 14), (4, .f 15), (5, .f 16), (6, .f 17), (7, .f 18), (8, .f 19), (9, .f 20), (10, .f 21), (11, .f 22), (12, .f 23), (13, .f 24), (14, .f 25), (15, .f 26), (16, .f 27), (17, .f 28), (18, .f 29), (19, .f 30), (20, .f 31), (21, .f 32), (22, .f 33), (23, .f 34), (24, .f 35), (25, .f 36)])] [] (by kernel_rfl) (by kernel_rfl) ?_
    simp (disch := omega) only [SX0, SX1, SX2, SX3, SX4, SX5, SX6, SX7, SX8, SU0, SY0, SY1, Nat.reduceAdd, Nat.reduceMul, Nat.reduceSub, Nat.reduceLeDiff, Nat.reduceEqDiff, Nat.reduceLT, Nat.reduceBEq, ↓reduceIte, Int.reduceLE, Int.reduceLT, Int.reduceToNat, Int.reduceNeg, reduceCtorEq, Int.reduceEq, SF0, SF1, SF2, DHb0, DHb1, DHa0, DCg0, DCe0, DCe1, DCe2, DDb0, DBc0, DBc1, DDe0, hk]
    refine qc_one i2 (by simp [freeL, AV.free, Plan.free]) ?_
    simp (disch := omega) only [SX0, SX1, SX2, SX3, SX4, SX5, SX6, SX7, SX8, SU0, SY0, SY1, Nat.reduceAdd, Nat.reduceMul, Nat.reduceSub, Nat.reduceLeDiff, Nat.reduceEqDiff, Nat.reduceLT, Nat.reduceBEq, ↓reduceIte, Int.reduceLE, Int.reduceLT, Int.reduceToNat, Int.reduceNeg, reduceCtorEq, Int.reduceEq, SF0, SF1, SF2, DHb0, DHb1, DHa0, DCg0, DCe0, DCe1, DCe2, DDb0, DBc0, DBc1, DDe0, hk]
    refine qc_one i1 (by simp [freeL, AV.free, Plan.free]) ?_
    simp (disch := omega) only [SX0, SX1, SX2, SX3, SX4, SX5, SX6, SX7, SX8, SU0, SY0, SY1, Nat.reduceAdd, Nat.reduceMul, Nat.reduceSub, Nat.reduceLeDiff, Nat.reduceEqDiff, Nat.reduceLT, Nat.reduceBEq, ↓reduceIte, Int.reduceLE, Int.reduceLT, Int.reduceToNat, Int.reduceNeg, reduceCtorEq, Int.reduceEq, SF0, SF1, SF2, DHb0, DHb1, DHa0, DCg0, DCe0, DCe1, DCe2, DDb0, DBc0, DBc1, DDe0, hk]
    exact fin_free (by simp [AV.free, freeL, Plan.free]) ⟨by rw [em, h2]; simp [Plan.cs_eq (Plan.mk _ _ _ _ _), Plan.op, Plan.at_, Plan.pa, Plan.tu, Plan.ks], rfl⟩
  simp (disch := omega) only [SX0, SX1, SX2, SX3, SX4, SX5, SX6, SX7, SX8, SU0, SY0, SY1, Nat.reduceAdd, Nat.reduceMul, Nat.reduceSub, Nat.reduceLeDiff, Nat.reduceEqDiff, Nat.reduceLT, Nat.reduceBEq, ↓reduceIte, Int.reduceLE, Int.reduceLT, Int.reduceToNat, Int.reduceNeg, reduceCtorEq, Int.reduceEq, SF0, SF1, SF2, DHb0, DHb1, DHa0, DCg0, DCe0, DCe1, DCe2, DDb0, DBc0, DBc1, DDe0]
  refine br_dec (fun h3 => ?_) (fun h3 => ?_)
  · have hc : p.cut := .inr h3
    obtain ⟨x, y, hk, hx, hy, nx, ny⟩ := Plan.two hw hc
    obtain ⟨f1, f2, g1, g2, g3⟩ := Plan.fits_cut hc hk hf
    obtain ⟨s1, s2, _⟩ := Plan.split_sane hc hk hb hf
    have hbb := hb
    unfold Box.sane at hbb
    have hat : p.at_ ≤ b.H - 1 := g3 (by omega)
    have i1 := ih x (p.split b).1 (by omega) hx s1 f1
    have i2 := ih y (p.split b).2 (by omega) hy s2 f2
    have e1 : (p.split b).1.W = b.W := by unfold Plan.split; rw [if_neg h2]
    have e2 : (p.split b).2.W = b.W := by unfold Plan.split; rw [if_neg h2]
    have e3 : (p.split b).1.H = p.at_ := by unfold Plan.split; rw [if_neg h2]
    have e4 : (p.split b).2.H = b.H - p.at_ := by unfold Plan.split; rw [if_neg h2]
    rw [e1, e3] at i1
    rw [e2, e4] at i2
    have em := Plan.mirror_across h3 hk b.W
    generalize y.mirror b.W = y' at *
    generalize x.mirror b.W = x' at *
    simp (disch := omega) only [SX0, SX1, SX2, SX3, SX4, SX5, SX6, SX7, SX8, SU0, SY0, SY1, Nat.reduceAdd, Nat.reduceMul, Nat.reduceSub, Nat.reduceLeDiff, Nat.reduceEqDiff, Nat.reduceLT, Nat.reduceBEq, ↓reduceIte, Int.reduceLE, Int.reduceLT, Int.reduceToNat, Int.reduceNeg, reduceCtorEq, Int.reduceEq, SF0, SF1, SF2, DHb0, DHb1, DHa0, DCg0, DCe0, DCe1, DCe2, DDb0, DBc0, DBc1, DDe0]
    refine awp_float (bl := []) T_tt mixed [0, 1] [0, 1, 2, 3, 4, 5, 6, 7, 8, 9, 10, 11, 12, 13, 14, 15, 16, 17, 18, 19, 20, 21, 22, 23] [(24, [(0, .f 39), (1, .f 40), (2, .f 41), (3, .f 42), (4, .f 43), (5, .f 44), (6, .f 45), (7, .f 46), (8, .f 47), (9, .f 48), (10, .f 49), (11, .f 50), (12, .f 51), (13, .f 52), (14, .f 53), (15, .f 54), (16, .f 55), (17, .f 56), (18, .f 57), (19, .f 58), (20, .f 59), (21, .f 60), (22, .f 61), (23, .f 62)])] [] (by kernel_rfl) (by kernel_rfl) ?_
    simp (disch := omega) only [SX0, SX1, SX2, SX3, SX4, SX5, SX6, SX7, SX8, SU0, SY0, SY1, Nat.reduceAdd, Nat.reduceMul, Nat.reduceSub, Nat.reduceLeDiff, Nat.reduceEqDiff, Nat.reduceLT, Nat.reduceBEq, ↓reduceIte, Int.reduceLE, Int.reduceLT, Int.reduceToNat, Int.reduceNeg, reduceCtorEq, Int.reduceEq, SF0, SF1, SF2, DHb0, DHb1, DHa0, DCg0, DCe0, DCe1, DCe2, DDb0, DBc0, DBc1, DDe0, hk]
    refine qc_one i1 (by simp [freeL, AV.free, Plan.free]) ?_
    simp (disch := omega) only [SX0, SX1, SX2, SX3, SX4, SX5, SX6, SX7, SX8, SU0, SY0, SY1, Nat.reduceAdd, Nat.reduceMul, Nat.reduceSub, Nat.reduceLeDiff, Nat.reduceEqDiff, Nat.reduceLT, Nat.reduceBEq, ↓reduceIte, Int.reduceLE, Int.reduceLT, Int.reduceToNat, Int.reduceNeg, reduceCtorEq, Int.reduceEq, SF0, SF1, SF2, DHb0, DHb1, DHa0, DCg0, DCe0, DCe1, DCe2, DDb0, DBc0, DBc1, DDe0, hk]
    refine qc_one i2 (by simp [freeL, AV.free, Plan.free]) ?_
    simp (disch := omega) only [SX0, SX1, SX2, SX3, SX4, SX5, SX6, SX7, SX8, SU0, SY0, SY1, Nat.reduceAdd, Nat.reduceMul, Nat.reduceSub, Nat.reduceLeDiff, Nat.reduceEqDiff, Nat.reduceLT, Nat.reduceBEq, ↓reduceIte, Int.reduceLE, Int.reduceLT, Int.reduceToNat, Int.reduceNeg, reduceCtorEq, Int.reduceEq, SF0, SF1, SF2, DHb0, DHb1, DHa0, DCg0, DCe0, DCe1, DCe2, DDb0, DBc0, DBc1, DDe0, hk]
    exact fin_free (by simp [AV.free, freeL, Plan.free]) ⟨by rw [em, h3]; simp [Plan.cs_eq (Plan.mk _ _ _ _ _), Plan.op, Plan.at_, Plan.pa, Plan.tu, Plan.ks], rfl⟩
  have hc : ¬ p.cut := by unfold Plan.cut; omega
  simp (disch := omega) only [SX0, SX1, SX2, SX3, SX4, SX5, SX6, SX7, SX8, SU0, SY0, SY1, Nat.reduceAdd, Nat.reduceMul, Nat.reduceSub, Nat.reduceLeDiff, Nat.reduceEqDiff, Nat.reduceLT, Nat.reduceBEq, ↓reduceIte, Int.reduceLE, Int.reduceLT, Int.reduceToNat, Int.reduceNeg, reduceCtorEq, Int.reduceEq, SF0, SF1, SF2, DHb0, DHb1, DHa0, DCg0, DCe0, DCe1, DCe2, DDb0, DBc0, DBc1, DDe0]
  exact fin_free (by simp [AV.free, Plan.free]) ⟨by rw [Plan.mirror_leaf hc], rfl⟩

/-- What MirrorPlan tells. -/
def Plan.mir (p : Plan) (k : Work) : Plan := if p.valid k then p.mirror k.W else .zero

theorem e_mirrorPlanI : Enters Try.prog 44 := enters_of Try.func44 (by kernel_rfl) (by kernel_rfl)
theorem mirrorPlanI_c (k : Work) (p : Plan) (hk : k.Ps.length < 2 ^ 40) : ACalls Try.prog 44 [.agg k.cs, .agg p.cs] [] [] (fun r L => r = .agg (p.mir k).cs ∧ L = []) := by
  refine acalls_tm T_tt Try.func44 rfl e_mirrorPlanI 12 rfl (W8 _ _ .any .any .any .any .any .any [.any, .any, .any, .any, .any, .any]) rfl (rv := [.cell 4 38]) rfl (sx_sound (bl := []) T_tt _ _ _ ?_)
  simp (disch := omega) only [SX0, SX1, SX2, SX3, SX4, SX5, SX6, SX7, SX8, SU0, SY0, SY1, Nat.reduceAdd, Nat.reduceMul, Nat.reduceSub, Nat.reduceLeDiff, Nat.reduceEqDiff, Nat.reduceLT, Nat.reduceBEq, ↓reduceIte, Int.reduceLE, Int.reduceLT, Int.reduceToNat, Int.reduceNeg, reduceCtorEq, Int.reduceEq, SF0, SF1, SF2, DHb0, DHb1, DHa0, DCg0, DCe0, DCe1, DCe2, DDb0, DBc0, DBc1, DDe0]
  refine acall_one (validPlanI_c k p hk) (by simp [freeL, AV.free, Plan.free, Work.free]) rfl ?_
  simp (disch := omega) only [SX0, SX1, SX2, SX3, SX4, SX5, SX6, SX7, SX8, SU0, SY0, SY1, Nat.reduceAdd, Nat.reduceMul, Nat.reduceSub, Nat.reduceLeDiff, Nat.reduceEqDiff, Nat.reduceLT, Nat.reduceBEq, ↓reduceIte, Int.reduceLE, Int.reduceLT, Int.reduceToNat, Int.reduceNeg, reduceCtorEq, Int.reduceEq, SF0, SF1, SF2, DHb0, DHb1, DHa0, DCg0, DCe0, DCe1, DCe2, DDb0, DBc0, DBc1, DDe0]
  refine br_ndec (fun hv => ?_) (fun hv => ?_)
  · simp (disch := omega) only [SX0, SX1, SX2, SX3, SX4, SX5, SX6, SX7, SX8, SU0, SY0, SY1, Nat.reduceAdd, Nat.reduceMul, Nat.reduceSub, Nat.reduceLeDiff, Nat.reduceEqDiff, Nat.reduceLT, Nat.reduceBEq, ↓reduceIte, Int.reduceLE, Int.reduceLT, Int.reduceToNat, Int.reduceNeg, reduceCtorEq, Int.reduceEq, SF0, SF1, SF2, DHb0, DHb1, DHa0, DCg0, DCe0, DCe1, DCe2, DDb0, DBc0, DBc1, DDe0]
    refine fin_nrm ?_
    simp only [AV.nrm, nrmL]
    exact fin_free rfl ⟨by unfold Plan.mir; rw [if_neg hv, Plan.zero_cs], rfl⟩
  · simp (disch := omega) only [SX0, SX1, SX2, SX3, SX4, SX5, SX6, SX7, SX8, SU0, SY0, SY1, Nat.reduceAdd, Nat.reduceMul, Nat.reduceSub, Nat.reduceLeDiff, Nat.reduceEqDiff, Nat.reduceLT, Nat.reduceBEq, ↓reduceIte, Int.reduceLE, Int.reduceLT, Int.reduceToNat, Int.reduceNeg, reduceCtorEq, Int.reduceEq, SF0, SF1, SF2, DHb0, DHb1, DHa0, DCg0, DCe0, DCe1, DCe2, DDb0, DBc0, DBc1, DDe0]
    refine acall_one (mirrored_n k _ p k.sheet (Nat.le_refl _) hv.2.1.1 (Work.sheet_sane hv.1) hv.2.2) (by simp [freeL, AV.free, Plan.free]) (by simp [AV.free, Plan.free]) ?_
    simp (disch := omega) only [SX0, SX1, SX2, SX3, SX4, SX5, SX6, SX7, SX8, SU0, SY0, SY1, Nat.reduceAdd, Nat.reduceMul, Nat.reduceSub, Nat.reduceLeDiff, Nat.reduceEqDiff, Nat.reduceLT, Nat.reduceBEq, ↓reduceIte, Int.reduceLE, Int.reduceLT, Int.reduceToNat, Int.reduceNeg, reduceCtorEq, Int.reduceEq, SF0, SF1, SF2, DHb0, DHb1, DHa0, DCg0, DCe0, DCe1, DCe2, DDb0, DBc0, DBc1, DDe0]
    exact fin_free (by simp [AV.free, Plan.free]) ⟨by unfold Plan.mir; rw [if_pos hv]; rfl, rfl⟩

theorem e_mirrorPlanS : Enters Try.prog 43 := enters_of Try.func43 (by kernel_rfl) (by kernel_rfl)
theorem mirrorPlanS_c (k : Work) (p : Plan) (hk : k.Ps.length < 2 ^ 40) : ACalls Try.prog 43 [.agg k.cs, .agg p.cs] [] [] (fun r L => r = .agg (p.mir k).cs ∧ L = []) := by
  refine acalls_tm T_tt Try.func43 rfl e_mirrorPlanS 14 rfl (W8 _ _ .any .any .any .any .any .any (W8 .any .any .any .any .any .any .any .any [])) rfl (rv := [.cell 4 38]) rfl (sx_sound (bl := []) T_tt _ _ _ ?_)
  simp (disch := omega) only [SX0, SX1, SX2, SX3, SX4, SX5, SX6, SX7, SX8, SU0, SY0, SY1, Nat.reduceAdd, Nat.reduceMul, Nat.reduceSub, Nat.reduceLeDiff, Nat.reduceEqDiff, Nat.reduceLT, Nat.reduceBEq, ↓reduceIte, Int.reduceLE, Int.reduceLT, Int.reduceToNat, Int.reduceNeg, reduceCtorEq, Int.reduceEq, SF0, SF1, SF2, DHb0, DHb1, DHa0, DCg0, DCe0, DCe1, DCe2, DDb0, DBc0, DBc1, DDe0]
  refine acall_one (validPlanS_c k p hk) (by simp [freeL, AV.free, Plan.free, Work.free]) rfl ?_
  simp (disch := omega) only [SX0, SX1, SX2, SX3, SX4, SX5, SX6, SX7, SX8, SU0, SY0, SY1, Nat.reduceAdd, Nat.reduceMul, Nat.reduceSub, Nat.reduceLeDiff, Nat.reduceEqDiff, Nat.reduceLT, Nat.reduceBEq, ↓reduceIte, Int.reduceLE, Int.reduceLT, Int.reduceToNat, Int.reduceNeg, reduceCtorEq, Int.reduceEq, SF0, SF1, SF2, DHb0, DHb1, DHa0, DCg0, DCe0, DCe1, DCe2, DDb0, DBc0, DBc1, DDe0]
  refine br_ndec (fun hv => ?_) (fun hv => ?_)
  · simp (disch := omega) only [SX0, SX1, SX2, SX3, SX4, SX5, SX6, SX7, SX8, SU0, SY0, SY1, Nat.reduceAdd, Nat.reduceMul, Nat.reduceSub, Nat.reduceLeDiff, Nat.reduceEqDiff, Nat.reduceLT, Nat.reduceBEq, ↓reduceIte, Int.reduceLE, Int.reduceLT, Int.reduceToNat, Int.reduceNeg, reduceCtorEq, Int.reduceEq, SF0, SF1, SF2, DHb0, DHb1, DHa0, DCg0, DCe0, DCe1, DCe2, DDb0, DBc0, DBc1, DDe0]
    refine fin_nrm ?_
    simp only [AV.nrm, nrmL]
    exact fin_free rfl ⟨by unfold Plan.mir; rw [if_neg hv, Plan.zero_cs], rfl⟩
  · simp (disch := omega) only [SX0, SX1, SX2, SX3, SX4, SX5, SX6, SX7, SX8, SU0, SY0, SY1, Nat.reduceAdd, Nat.reduceMul, Nat.reduceSub, Nat.reduceLeDiff, Nat.reduceEqDiff, Nat.reduceLT, Nat.reduceBEq, ↓reduceIte, Int.reduceLE, Int.reduceLT, Int.reduceToNat, Int.reduceNeg, reduceCtorEq, Int.reduceEq, SF0, SF1, SF2, DHb0, DHb1, DHa0, DCg0, DCe0, DCe1, DCe2, DDb0, DBc0, DBc1, DDe0]
    refine acall_one (mirrorPlanS_n k _ p k.sheet (Nat.le_refl _) hv.2.1.1 (Work.sheet_sane hv.1) hv.2.2) (by simp [freeL, AV.free, Plan.free]) (by simp [AV.free, Plan.free]) ?_
    simp (disch := omega) only [SX0, SX1, SX2, SX3, SX4, SX5, SX6, SX7, SX8, SU0, SY0, SY1, Nat.reduceAdd, Nat.reduceMul, Nat.reduceSub, Nat.reduceLeDiff, Nat.reduceEqDiff, Nat.reduceLT, Nat.reduceBEq, ↓reduceIte, Int.reduceLE, Int.reduceLT, Int.reduceToNat, Int.reduceNeg, reduceCtorEq, Int.reduceEq, SF0, SF1, SF2, DHb0, DHb1, DHa0, DCg0, DCe0, DCe1, DCe2, DDb0, DBc0, DBc1, DDe0]
    exact fin_free (by simp [AV.free, Plan.free]) ⟨by unfold Plan.mir; rw [if_pos hv]; rfl, rfl⟩

theorem Plan.wf_ks {p : Plan} (hw : p.wf = true) : p.ks.length ≤ 2 := by
  have h := ((Plan.wf_iff p).1 hw).1
  unfold Plan.good at h
  split at h <;> omega

end Go.Pc
