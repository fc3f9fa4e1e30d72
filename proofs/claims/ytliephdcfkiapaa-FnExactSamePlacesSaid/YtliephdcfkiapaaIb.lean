/- MirrorPlan of the program and of the reference. -/
import Derived.Test.YtliephdcfkiapaaIa
import Derived.Test.YtliephdcfkiapaaDe
set_option linter.unusedSimpArgs false
set_option linter.unusedVariables false
namespace Go.Pc
open Go Go.Proofs

/-- The zero value. -/
def Plan.zero : Plan := .mk 0 0 0 false []
theorem Plan.zero_wf : Plan.zero.wf = true := by decide
theorem Plan.zero_nodes : Plan.zero.nodes = 1 := by decide
theorem Plan.zero_cs : Plan.zero.cs = [.val (.int .i64 0), .val (.int .i64 0), .val (.int .i64 0), .val (.bool false), .sl []] := by simp [Plan.zero, Plan.cs_eq, Plan.op, Plan.at_, Plan.pa, Plan.tu, Plan.ks]

theorem e_mirrored : Enters Try.prog 85 := enters_of Try.func85 (by kernel_rfl) (by kernel_rfl)
set_option maxHeartbeats 4000000 in
theorem mirrored_n (k : Work) : ∀ (n : Nat) (p : Plan) (b : Box), p.nodes ≤ n → p.wf = true → b.sane → p.fits k b.W b.H = true →
    ACalls Try.prog 85 [.agg p.cs, .val (.int .i64 b.W)] [] [] (fun r L => r = .agg (p.mirror b.W).cs ∧ L = []) := by
  intro n
  induction n with
  | zero => intro p b h; have := p.nodes_pos; omega
  | succ n ih =>
  intro p b hn hw hb hf
  refine acalls_tm T_tt Try.func85 rfl e_mirrored 58 rfl (W8 _ _ .any .any .any .any .any .any (W8 .any .any .any .any .any .any .any .any (W8 .any .any .any .any .any .any .any .any (W8 .any .any .any .any .any .any .any .any (W8 .any .any .any .any .any .any .any .any (W8 .any .any .any .any .any .any .any .any (W8 .any .any .any .any .any .any .any .any [.any, .any, .any, .any]))))))) rfl (rv := [.cell 4 28]) rfl (sx_sound (bl := []) T_tt _ _ _ ?_)
  simp (disch := omega) only [SX0, SX1, SX2, SX3, SX4, SX5, SX6, SX7, SX8, SU0, SY0, SY1, Nat.reduceAdd, Nat.reduceMul, Nat.reduceSub, Nat.reduceLeDiff, Nat.reduceEqDiff, Nat.reduceLT, Nat.reduceBEq, ↓reduceIte, Int.reduceLE, Int.reduceLT, Int.reduceToNat, Int.reduceNeg, reduceCtorEq, Int.reduceEq, SF0, SF1, SF2, DHb0, DHb1, DHa0, DCg0, DCe0, DCa0, DCa1, DDb0, DBc0, DBa0, DDc0]
  refine br_dec (fun h2 => ?_) (fun h2 => ?_)
  · have hc : p.cut := .inl h2
    obtain ⟨x, y, hk, hx, hy, nx, ny⟩ := Plan.two hw hc
    obtain ⟨f1, f2, g1, g2, g3⟩ := Plan.fits_cut hc hk hf
    obtain ⟨s1, s2, _⟩ := Plan.split_sane hc hk hb hf
    have hbb := hb
    unfold Box.sane at hbb
    have hat : p.at_ ≤ b.W - 1 := g2 h2
    have i1 := ih x (p.split b).1 (by omega) hx s1 f1
    have i2 := ih y (p.split b).2 (by omega) hy s2 f2
    have e1 : (p.split b).1.W = p.at_ := by unfold Plan.split; rw [if_pos h2]
    have e2 : (p.split b).2.W = b.W - p.at_ := by unfold Plan.split; rw [if_pos h2]
    rw [e1] at i1
    rw [e2] at i2
    have em := Plan.mirror_down h2 hk b.W
    generalize y.mirror (b.W - p.at_) = y' at *
    generalize x.mirror p.at_ = x' at *
    simp (disch := omega) only [SX0, SX1, SX2, SX3, SX4, SX5, SX6, SX7, SX8, SU0, SY0, SY1, Nat.reduceAdd, Nat.reduceMul, Nat.reduceSub, Nat.reduceLeDiff, Nat.reduceEqDiff, Nat.reduceLT, Nat.reduceBEq, ↓reduceIte, Int.reduceLE, Int.reduceLT, Int.reduceToNat, Int.reduceNeg, reduceCtorEq, Int.reduceEq, SF0, SF1, SF2, DHb0, DHb1, DHa0, DCg0, DCe0, DCa0, DCa1, DDb0, DBc0, DBa0, DDc0]
    refine awp_float (bl := []) T_tt mixed [0, 1] [0, 1, 2, 3, 4, 5, 6, 7, 8, 9, 10, 11, 12, 13, 14, 15] [(18, [(0, .f 11), (1, .f 12), (2, .f 13), (3, .f 14), (4, .f 15), (5, .f 16), (6, .f 17), (7, .f 18), (8, .f 19), (9, .f 20), (10, .f 21), (11, .f 22), (12, .f 23), (13, .f 24), (14, .f 25), (15, .f 26), (16, .a 5 28), (17, .a 6 28)]), (19, [])] [] (by kernel_rfl) (by kernel_rfl) ?_
    simp (disch := omega) only [SX0, SX1, SX2, SX3, SX4, SX5, SX6, SX7, SX8, SU0, SY0, SY1, Nat.reduceAdd, Nat.reduceMul, Nat.reduceSub, Nat.reduceLeDiff, Nat.reduceEqDiff, Nat.reduceLT, Nat.reduceBEq, ↓reduceIte, Int.reduceLE, Int.reduceLT, Int.reduceToNat, Int.reduceNeg, reduceCtorEq, Int.reduceEq, SF0, SF1, SF2, DHb0, DHb1, DHa0, DCg0, DCe0, DCa0, DCa1, DDb0, DBc0, DBa0, DDc0, hk]
    refine qc_one i2 (by simp [freeL, AV.free, Plan.free]) ?_
    simp (disch := omega) only [SX0, SX1, SX2, SX3, SX4, SX5, SX6, SX7, SX8, SU0, SY0, SY1, Nat.reduceAdd, Nat.reduceMul, Nat.reduceSub, Nat.reduceLeDiff, Nat.reduceEqDiff, Nat.reduceLT, Nat.reduceBEq, ↓reduceIte, Int.reduceLE, Int.reduceLT, Int.reduceToNat, Int.reduceNeg, reduceCtorEq, Int.reduceEq, SF0, SF1, SF2, DHb0, DHb1, DHa0, DCg0, DCe0, DCa0, DCa1, DDb0, DBc0, DBa0, DDc0, hk]
    refine qc_one i1 (by simp [freeL, AV.free, Plan.free]) ?_
    simp (disch := omega) only [SX0, SX1, SX2, SX3, SX4, SX5, SX6, SX7, SX8, SU0, SY0, SY1, Nat.reduceAdd, Nat.reduceMul, Nat.reduceSub, Nat.reduceLeDiff, Nat.reduceEqDiff, Nat.reduceLT, Nat.reduceBEq, ↓reduceIte, Int.reduceLE, Int.reduceLT, Int.reduceToNat, Int.reduceNeg, reduceCtorEq, Int.reduceEq, SF0, SF1, SF2, DHb0, DHb1, DHa0, DCg0, DCe0, DCa0, DCa1, DDb0, DBc0, DBa0, DDc0, hk]
    exact fin_free (by simp [AV.free, freeL, Plan.free]) ⟨by rw [em]; simp [Plan.cs_eq (Plan.mk _ _ _ _ _), Plan.op, Plan.at_, Plan.pa, Plan.tu, Plan.ks], rfl⟩
  simp (disch := omega) only [SX0, SX1, SX2, SX3, SX4, SX5, SX6, SX7, SX8, SU0, SY0, SY1, Nat.reduceAdd, Nat.reduceMul, Nat.reduceSub, Nat.reduceLeDiff, Nat.reduceEqDiff, Nat.reduceLT, Nat.reduceBEq, ↓reduceIte, Int.reduceLE, Int.reduceLT, Int.reduceToNat, Int.reduceNeg, reduceCtorEq, Int.reduceEq, SF0, SF1, SF2, DHb0, DHb1, DHa0, DCg0, DCe0, DCa0, DCa1, DDb0, DBc0, DBa0, DDc0]
  refine br_dec (fun h3 => ?_) (fun h3 => ?_)
  · have hc : p.cut := .inr h3
    obtain ⟨x, y, hk, hx, hy, nx, ny⟩ := Plan.two hw hc
    obtain ⟨f1, f2, g1, g2, g3⟩ := Plan.fits_cut hc hk hf
    obtain ⟨s1, s2, _⟩ := Plan.split_sane hc hk hb hf
    have hbb := hb
    unfold Box.sane at hbb
    have hat : p.at_ ≤ b.H - 1 := g3 (by omega)
    have i1 := ih x (p.split b).1 (by omega) hx s1 f1
    have i2 := ih y (p.split b).2 (by omega) hy s2 f2
    have e1 : (p.split b).1.W = b.W := by unfold Plan.split; rw [if_neg h2]
    have e2 : (p.split b).2.W = b.W := by unfold Plan.split; rw [if_neg h2]
    rw [e1] at i1
    rw [e2] at i2
    have em := Plan.mirror_across h3 hk b.W
    generalize y.mirror b.W = y' at *
    generalize x.mirror b.W = x' at *
    simp (disch := omega) only [SX0, SX1, SX2, SX3, SX4, SX5, SX6, SX7, SX8, SU0, SY0, SY1, Nat.reduceAdd, Nat.reduceMul, Nat.reduceSub, Nat.reduceLeDiff, Nat.reduceEqDiff, Nat.reduceLT, Nat.reduceBEq, ↓reduceIte, Int.reduceLE, Int.reduceLT, Int.reduceToNat, Int.reduceNeg, reduceCtorEq, Int.reduceEq, SF0, SF1, SF2, DHb0, DHb1, DHa0, DCg0, DCe0, DCa0, DCa1, DDb0, DBc0, DBa0, DDc0]
    refine awp_float (bl := []) T_tt mixed [0, 1] [0, 1, 2, 3, 4, 5, 6, 7, 8, 9, 10, 11, 12, 13, 14, 15] [(16, [(0, .f 37), (1, .f 38), (2, .f 39), (3, .f 40), (4, .f 41), (5, .f 42), (6, .f 43), (7, .f 44), (8, .f 45), (9, .f 46), (10, .f 47), (11, .f 48), (12, .f 49), (13, .f 50), (14, .f 51), (15, .f 52)])] [] (by kernel_rfl) (by kernel_rfl) ?_
    simp (disch := omega) only [SX0, SX1, SX2, SX3, SX4, SX5, SX6, SX7, SX8, SU0, SY0, SY1, Nat.reduceAdd, Nat.reduceMul, Nat.reduceSub, Nat.reduceLeDiff, Nat.reduceEqDiff, Nat.reduceLT, Nat.reduceBEq, ↓reduceIte, Int.reduceLE, Int.reduceLT, Int.reduceToNat, Int.reduceNeg, reduceCtorEq, Int.reduceEq, SF0, SF1, SF2, DHb0, DHb1, DHa0, DCg0, DCe0, DCa0, DCa1, DDb0, DBc0, DBa0, DDc0, hk]
    refine qc_one i1 (by simp [freeL, AV.free, Plan.free]) ?_
    simp (disch := omega) only [SX0, SX1, SX2, SX3, SX4, SX5, SX6, SX7, SX8, SU0, SY0, SY1, Nat.reduceAdd, Nat.reduceMul, Nat.reduceSub, Nat.reduceLeDiff, Nat.reduceEqDiff, Nat.reduceLT, Nat.reduceBEq, ↓reduceIte, Int.reduceLE, Int.reduceLT, Int.reduceToNat, Int.reduceNeg, reduceCtorEq, Int.reduceEq, SF0, SF1, SF2, DHb0, DHb1, DHa0, DCg0, DCe0, DCa0, DCa1, DDb0, DBc0, DBa0, DDc0, hk]
    refine qc_one i2 (by simp [freeL, AV.free, Plan.free]) ?_
    simp (disch := omega) only [SX0, SX1, SX2, SX3, SX4, SX5, SX6, SX7, SX8, SU0, SY0, SY1, Nat.reduceAdd, Nat.reduceMul, Nat.reduceSub, Nat.reduceLeDiff, Nat.reduceEqDiff, Nat.reduceLT, Nat.reduceBEq, ↓reduceIte, Int.reduceLE, Int.reduceLT, Int.reduceToNat, Int.reduceNeg, reduceCtorEq, Int.reduceEq, SF0, SF1, SF2, DHb0, DHb1, DHa0, DCg0, DCe0, DCa0, DCa1, DDb0, DBc0, DBa0, DDc0, hk]
    exact fin_free (by simp [AV.free, freeL, Plan.free]) ⟨by rw [em]; simp [Plan.cs_eq (Plan.mk _ _ _ _ _), Plan.op, Plan.at_, Plan.pa, Plan.tu, Plan.ks], rfl⟩
  have hc : ¬ p.cut := by unfold Plan.cut; omega
  have hl := Plan.leaf_eq hw hc
  simp (disch := omega) only [SX0, SX1, SX2, SX3, SX4, SX5, SX6, SX7, SX8, SU0, SY0, SY1, Nat.reduceAdd, Nat.reduceMul, Nat.reduceSub, Nat.reduceLeDiff, Nat.reduceEqDiff, Nat.reduceLT, Nat.reduceBEq, ↓reduceIte, Int.reduceLE, Int.reduceLT, Int.reduceToNat, Int.reduceNeg, reduceCtorEq, Int.reduceEq, SF0, SF1, SF2, DHb0, DHb1, DHa0, DCg0, DCe0, DCa0, DCa1, DDb0, DBc0, DBa0, DDc0]
  refine fin_nrm ?_
  simp only [AV.nrm, nrmL]
  exact fin_free rfl ⟨by rw [Plan.mirror_leaf hc, Plan.cs_eq, hl.1, hl.2]; rfl, rfl⟩

/-- What MirrorPlan tells. -/
def Plan.mir (p : Plan) (k : Work) : Plan := if p.valid k then p.mirror k.W else .zero

theorem e_mirrorPlanI : Enters Try.prog 32 := enters_of Try.func32 (by kernel_rfl) (by kernel_rfl)
theorem mirrorPlanI_c (k : Work) (p : Plan) (hk : k.Ps.length < 2 ^ 40) : ACalls Try.prog 32 [.agg k.cs, .agg p.cs] [] [] (fun r L => r = .agg (p.mir k).cs ∧ L = []) := by
  refine acalls_tm T_tt Try.func32 rfl e_mirrorPlanI 12 rfl (W8 _ _ .any .any .any .any .any .any [.any, .any, .any, .any, .any, .any]) rfl (rv := [.cell 4 28]) rfl (sx_sound (bl := []) T_tt _ _ _ ?_)
  simp (disch := omega) only [SX0, SX1, SX2, SX3, SX4, SX5, SX6, SX7, SX8, SU0, SY0, SY1, Nat.reduceAdd, Nat.reduceMul, Nat.reduceSub, Nat.reduceLeDiff, Nat.reduceEqDiff, Nat.reduceLT, Nat.reduceBEq, ↓reduceIte, Int.reduceLE, Int.reduceLT, Int.reduceToNat, Int.reduceNeg, reduceCtorEq, Int.reduceEq, SF0, SF1, SF2, DHb0, DHb1, DHa0, DCg0, DCe0, DCa0, DCa1, DDb0, DBc0, DBa0, DDc0]
  refine acall_one (validPlanI_c k p hk) (by simp [freeL, AV.free, Plan.free, Work.free]) rfl ?_
  simp (disch := omega) only [SX0, SX1, SX2, SX3, SX4, SX5, SX6, SX7, SX8, SU0, SY0, SY1, Nat.reduceAdd, Nat.reduceMul, Nat.reduceSub, Nat.reduceLeDiff, Nat.reduceEqDiff, Nat.reduceLT, Nat.reduceBEq, ↓reduceIte, Int.reduceLE, Int.reduceLT, Int.reduceToNat, Int.reduceNeg, reduceCtorEq, Int.reduceEq, SF0, SF1, SF2, DHb0, DHb1, DHa0, DCg0, DCe0, DCa0, DCa1, DDb0, DBc0, DBa0, DDc0]
  refine br_ndec (fun hv => ?_) (fun hv => ?_)
  · simp (disch := omega) only [SX0, SX1, SX2, SX3, SX4, SX5, SX6, SX7, SX8, SU0, SY0, SY1, Nat.reduceAdd, Nat.reduceMul, Nat.reduceSub, Nat.reduceLeDiff, Nat.reduceEqDiff, Nat.reduceLT, Nat.reduceBEq, ↓reduceIte, Int.reduceLE, Int.reduceLT, Int.reduceToNat, Int.reduceNeg, reduceCtorEq, Int.reduceEq, SF0, SF1, SF2, DHb0, DHb1, DHa0, DCg0, DCe0, DCa0, DCa1, DDb0, DBc0, DBa0, DDc0]
    refine fin_nrm ?_
    simp only [AV.nrm, nrmL]
    exact fin_free rfl ⟨by unfold Plan.mir; rw [if_neg hv, Plan.zero_cs], rfl⟩
  · simp (disch := omega) only [SX0, SX1, SX2, SX3, SX4, SX5, SX6, SX7, SX8, SU0, SY0, SY1, Nat.reduceAdd, Nat.reduceMul, Nat.reduceSub, Nat.reduceLeDiff, Nat.reduceEqDiff, Nat.reduceLT, Nat.reduceBEq, ↓reduceIte, Int.reduceLE, Int.reduceLT, Int.reduceToNat, Int.reduceNeg, reduceCtorEq, Int.reduceEq, SF0, SF1, SF2, DHb0, DHb1, DHa0, DCg0, DCe0, DCa0, DCa1, DDb0, DBc0, DBa0, DDc0]
    refine acall_one (mirrored_n k _ p k.sheet (Nat.le_refl _) hv.2.1.1 (Work.sheet_sane hv.1) hv.2.2) (by simp [freeL, AV.free, Plan.free]) (by simp [AV.free, Plan.free]) ?_
    simp (disch := omega) only [SX0, SX1, SX2, SX3, SX4, SX5, SX6, SX7, SX8, SU0, SY0, SY1, Nat.reduceAdd, Nat.reduceMul, Nat.reduceSub, Nat.reduceLeDiff, Nat.reduceEqDiff, Nat.reduceLT, Nat.reduceBEq, ↓reduceIte, Int.reduceLE, Int.reduceLT, Int.reduceToNat, Int.reduceNeg, reduceCtorEq, Int.reduceEq, SF0, SF1, SF2, DHb0, DHb1, DHa0, DCg0, DCe0, DCa0, DCa1, DDb0, DBc0, DBa0, DDc0]
    exact fin_free (by simp [AV.free, Plan.free]) ⟨by unfold Plan.mir; rw [if_pos hv]; rfl, rfl⟩

theorem Plan.wf_ks {p : Plan} (hw : p.wf = true) : p.ks.length ≤ 2 := by
  have h := ((Plan.wf_iff p).1 hw).1
  unfold Plan.good at h
  split at h <;> omega

theorem e_cutsOf : Enters Try.prog 23 := enters_of Try.func23 (by kernel_rfl) (by kernel_rfl)
theorem cutsOf_c (p : Plan) (hs : p.wf = true ∧ p.nodes ≤ 255) : ACalls Try.prog 23 [.agg p.cs] [] [] (fun r L => r = .val (.int .i64 ((p.nodes : Int).tdiv 2)) ∧ L = []) := by
  have e : p.size = p.nodes := by unfold Plan.size; rw [if_pos hs]
  have hb : 0 ≤ (p.nodes : Int).tdiv 2 ∧ (p.nodes : Int).tdiv 2 ≤ 255 := by rw [Int.tdiv_eq_ediv_of_nonneg (by omega)]; omega
  refine acalls_tm T_tt Try.func23 rfl e_cutsOf 9 rfl (W8 _ .any .any .any .any .any .any .any [.any, .any]) rfl (rv := [.tmp 2]) rfl (sx_sound (bl := []) T_tt _ _ _ ?_)
  simp (disch := omega) only [SX0, SX1, SX2, SX3, SX4, SX5, SX6, SX7, SX8, SU0, SY0, SY1, Nat.reduceAdd, Nat.reduceMul, Nat.reduceSub, Nat.reduceLeDiff, Nat.reduceEqDiff, Nat.reduceLT, Nat.reduceBEq, ↓reduceIte, Int.reduceLE, Int.reduceLT, Int.reduceToNat, Int.reduceNeg, reduceCtorEq, Int.reduceEq, SF0, SF1, SF2, DHb0, DHb1, DHa0, DCg0, DCe0, DCa0, DCa1, DDb0, DBc0, DBa0, DDc0]
  refine acall_one (planSizeI_c p) (by simp [freeL, AV.free, Plan.free]) rfl ?_
  rw [e]
  simp (disch := omega) only [SX0, SX1, SX2, SX3, SX4, SX5, SX6, SX7, SX8, SU0, SY0, SY1, Nat.reduceAdd, Nat.reduceMul, Nat.reduceSub, Nat.reduceLeDiff, Nat.reduceEqDiff, Nat.reduceLT, Nat.reduceBEq, ↓reduceIte, Int.reduceLE, Int.reduceLT, Int.reduceToNat, Int.reduceNeg, reduceCtorEq, Int.reduceEq, SF0, SF1, SF2, DHb0, DHb1, DHa0, DCg0, DCe0, DCa0, DCa1, DDb0, DBc0, DBa0, DDc0]
  refine br_dec (fun h => ?_) (fun h => ?_)
  · exact absurd h (by omega)
  simp (disch := omega) only [SX0, SX1, SX2, SX3, SX4, SX5, SX6, SX7, SX8, SU0, SY0, SY1, Nat.reduceAdd, Nat.reduceMul, Nat.reduceSub, Nat.reduceLeDiff, Nat.reduceEqDiff, Nat.reduceLT, Nat.reduceBEq, ↓reduceIte, Int.reduceLE, Int.reduceLT, Int.reduceToNat, Int.reduceNeg, reduceCtorEq, Int.reduceEq, SF0, SF1, SF2, DHb0, DHb1, DHa0, DCg0, DCe0, DCa0, DCa1, DDb0, DBc0, DBa0, DDc0]
  exact fin_val ⟨rfl, rfl⟩
