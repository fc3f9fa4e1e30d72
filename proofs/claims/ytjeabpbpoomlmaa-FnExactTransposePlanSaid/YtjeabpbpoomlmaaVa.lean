/- MirrorPlan of the program: its result has memory of its own. -/
import Derived.Test.YtjeabpbpoomlmaaTr
import Derived.Test.YtjeabpbpoomlmaaIb
set_option linter.unusedSimpArgs false
set_option linter.unusedVariables false
namespace Go.Pc
open Go Go.Proofs

/-- The result is this plan, with memory of its own. -/
def TreeR (q : Plan) (r : AV) (L : List OB) : Prop := ∃ S v, v.oneCell' = true ∧ r = .agg (q.csV v) ∧ L = [.forest S [(v, .sl (q.ks.map Plan.cs))]]

theorem e_mirroredF : Enters Try.prog 91 := enters_of Try.func91 (by kernel_rfl) (by kernel_rfl)
set_option maxHeartbeats 4000000 in
theorem mirrored_f (k : Work) : ∀ (n : Nat) (p : Plan) (b : Box), p.nodes ≤ n → p.wf = true → b.sane → p.fits k b.W b.H = true →
    ACalls Try.prog 91 [.agg p.cs, .val (.int .i64 b.W)] [] [] (TreeR (p.mirror b.W)) := by
  intro n
  induction n with
  | zero => intro p b h; have := p.nodes_pos; omega
  | succ n ih =>
  intro p b hn hw hb hf
  refine acalls_tm T_tt Try.func91 rfl e_mirroredF 58 rfl (W8 _ _ .any .any .any .any .any .any (W8 .any .any .any .any .any .any .any .any (W8 .any .any .any .any .any .any .any .any (W8 .any .any .any .any .any .any .any .any (W8 .any .any .any .any .any .any .any .any (W8 .any .any .any .any .any .any .any .any (W8 .any .any .any .any .any .any .any .any [.any, .any, .any, .any]))))))) rfl (rv := [.cell 4 38]) rfl (sx_sound (bl := [33,51]) T_tt _ _ _ ?_)
  simp (disch := omega) only [SX0, SX1, SX2, SX3, SX4, SX5, SX6, SX7, SX8, SU0, SY0, SY1, Nat.reduceAdd, Nat.reduceMul, Nat.reduceSub, Nat.reduceLeDiff, Nat.reduceEqDiff, Nat.reduceLT, Nat.reduceBEq, ↓reduceIte, Int.reduceLE, Int.reduceLT, Int.reduceToNat, Int.reduceNeg, reduceCtorEq, Int.reduceEq, SF0, SF1, SF2, DLa0, DCg0, DCe0, DCe1, DCe2, DDb0, DBc0, DBc1, DHa0, DHb0, DHb1, DDe0]
  refine br_dec (fun h2 => ?_) (fun h2 => ?_)
  · have hc : p.cut := .inl h2
    obtain ⟨x, y, hk, hx, hy, nx, ny⟩ := Plan.two hw hc
    obtain ⟨f1, f2, g1, g2, g3⟩ := Plan.fits_cut hc hk hf
    obtain ⟨s1, s2, _⟩ := Plan.split_sane hc hk hb hf
    have hbb := hb
    unfold Box.sane at hbb
    have hat : p.at_ ≤ b.W - 1 := g2 h2
    have i1 := ih x (p.split b).1 (by omega) hx s1 f1
    have i2 := ih y (p.split b).2 (by omega) hy s2 f2
    have e1 : (p.split b).1.W = p.at_ := by unfold Plan.split; rw [if_pos h2]
    have e2 : (p.split b).2.W = b.W - p.at_ := by unfold Plan.split; rw [if_pos h2]
    rw [e1] at i1
    rw [e2] at i2
    have em := Plan.mirror_down h2 hk b.W
    generalize y.mirror (b.W - p.at_) = y' at *
    generalize x.mirror p.at_ = x' at *
    simp (disch := omega) only [SX0, SX1, SX2, SX3, SX4, SX5, SX6, SX7, SX8, SU0, SY0, SY1, Nat.reduceAdd, Nat.reduceMul, Nat.reduceSub, Nat.reduceLeDiff, Nat.reduceEqDiff, Nat.reduceLT, Nat.reduceBEq, ↓reduceIte, Int.reduceLE, Int.reduceLT, Int.reduceToNat, Int.reduceNeg, reduceCtorEq, Int.reduceEq, SF0, SF1, SF2, DLa0, DCg0, DCe0, DCe1, DCe2, DDb0, DBc0, DBc1, DHa0, DHb0, DHb1, DDe0]
    refine awp_float (bl := []) T_tt mixed [0, 1] [0, 1, 2, 3, 4, 5, 6, 7, 9, 10, 11, 12, 13, 14] [(8, [(0, .f 11), (1, .f 12), (2, .f 13), (3, .f 14), (4, .f 15), (5, .f 16), (6, .f 17), (7, .f 18)]), (15, [(9, .f 20), (10, .f 21), (11, .f 22), (12, .f 23), (13, .f 24), (14, .f 25)]), (18, [(16, .a 5 38), (17, .a 6 38)]), (19, [])] [] (by kernel_rfl) (by kernel_rfl) ?_
    simp (disch := omega) only [SX0, SX1, SX2, SX3, SX4, SX5, SX6, SX7, SX8, SU0, SY0, SY1, Nat.reduceAdd, Nat.reduceMul, Nat.reduceSub, Nat.reduceLeDiff, Nat.reduceEqDiff, Nat.reduceLT, Nat.reduceBEq, ↓reduceIte, Int.reduceLE, Int.reduceLT, Int.reduceToNat, Int.reduceNeg, reduceCtorEq, Int.reduceEq, SF0, SF1, SF2, DLa0, DCg0, DCe0, DCe1, DCe2, DDb0, DBc0, DBc1, DHa0, DHb0, DHb1, DDe0, hk]
    refine acall_own i2 [] [] (by simp only [SX0, SX1, SX2, SX3, SX4, SX5, SX6, SX7, SX8, SU0, SY0, SY1, Nat.reduceAdd, Nat.reduceMul, Nat.reduceSub, Nat.reduceLeDiff, Nat.reduceEqDiff, Nat.reduceLT, Nat.reduceBEq, ↓reduceIte, Int.reduceLE, Int.reduceLT, Int.reduceToNat, Int.reduceNeg, reduceCtorEq, Int.reduceEq, SF0, SF1, SF2, DLa0, DCg0, DCe0, DCe1, DCe2, DDb0, DBc0, DBc1, DHa0, DHb0, DHb1, DDe0, SX0]) (by decide) (by decide) (by rfl) (by simp only [SX0, SX1, SX2, SX3, SX4, SX5, SX6, SX7, SX8, SU0, SY0, SY1, Nat.reduceAdd, Nat.reduceMul, Nat.reduceSub, Nat.reduceLeDiff, Nat.reduceEqDiff, Nat.reduceLT, Nat.reduceBEq, ↓reduceIte, Int.reduceLE, Int.reduceLT, Int.reduceToNat, Int.reduceNeg, reduceCtorEq, Int.reduceEq, SF0, SF1, SF2, DLa0, DCg0, DCe0, DCe1, DCe2, DDb0, DBc0, DBc1, DHa0, DHb0, DHb1, DDe0, SX0]) ?_
    rintro _ _ ⟨Sy, vy, hvy, rfl, rfl⟩
    simp (disch := omega) only [SX0, SX1, SX2, SX3, SX4, SX5, SX6, SX7, SX8, SU0, SY0, SY1, Nat.reduceAdd, Nat.reduceMul, Nat.reduceSub, Nat.reduceLeDiff, Nat.reduceEqDiff, Nat.reduceLT, Nat.reduceBEq, ↓reduceIte, Int.reduceLE, Int.reduceLT, Int.reduceToNat, Int.reduceNeg, reduceCtorEq, Int.reduceEq, SF0, SF1, SF2, DLa0, DCg0, DCe0, DCe1, DCe2, DDb0, DBc0, DBc1, DHa0, DHb0, DHb1, DDe0, SX0, hk, hvy, if_true, Plan.csV]
    refine acall_own i1 [] [] (by simp only [SX0, SX1, SX2, SX3, SX4, SX5, SX6, SX7, SX8, SU0, SY0, SY1, Nat.reduceAdd, Nat.reduceMul, Nat.reduceSub, Nat.reduceLeDiff, Nat.reduceEqDiff, Nat.reduceLT, Nat.reduceBEq, ↓reduceIte, Int.reduceLE, Int.reduceLT, Int.reduceToNat, Int.reduceNeg, reduceCtorEq, Int.reduceEq, SF0, SF1, SF2, DLa0, DCg0, DCe0, DCe1, DCe2, DDb0, DBc0, DBc1, DHa0, DHb0, DHb1, DDe0, SX0]) (by decide) (by decide) (by rfl) (by simp only [SX0, SX1, SX2, SX3, SX4, SX5, SX6, SX7, SX8, SU0, SY0, SY1, Nat.reduceAdd, Nat.reduceMul, Nat.reduceSub, Nat.reduceLeDiff, Nat.reduceEqDiff, Nat.reduceLT, Nat.reduceBEq, ↓reduceIte, Int.reduceLE, Int.reduceLT, Int.reduceToNat, Int.reduceNeg, reduceCtorEq, Int.reduceEq, SF0, SF1, SF2, DLa0, DCg0, DCe0, DCe1, DCe2, DDb0, DBc0, DBc1, DHa0, DHb0, DHb1, DDe0, SX0]) ?_
    rintro _ _ ⟨Sx, vx, hvx, rfl, rfl⟩
    simp (disch := omega) only [SX0, SX1, SX2, SX3, SX4, SX5, SX6, SX7, SX8, SU0, SY0, SY1, Nat.reduceAdd, Nat.reduceMul, Nat.reduceSub, Nat.reduceLeDiff, Nat.reduceEqDiff, Nat.reduceLT, Nat.reduceBEq, ↓reduceIte, Int.reduceLE, Int.reduceLT, Int.reduceToNat, Int.reduceNeg, reduceCtorEq, Int.reduceEq, SF0, SF1, SF2, DLa0, DCg0, DCe0, DCe1, DCe2, DDb0, DBc0, DBc1, DHa0, DHb0, DHb1, DDe0, SX0, hk, hvx, hvy, if_true, Plan.csV]
    exact fin_two (r := 6) (rx := 2) (ry := 3) (x := y') (y := x') (by decide) (by decide) (by decide) rfl rfl rfl fun S v hv => by rw [em]; exact ⟨S, v, hv, rfl, rfl⟩
  simp (disch := omega) only [SX0, SX1, SX2, SX3, SX4, SX5, SX6, SX7, SX8, SU0, SY0, SY1, Nat.reduceAdd, Nat.reduceMul, Nat.reduceSub, Nat.reduceLeDiff, Nat.reduceEqDiff, Nat.reduceLT, Nat.reduceBEq, ↓reduceIte, Int.reduceLE, Int.reduceLT, Int.reduceToNat, Int.reduceNeg, reduceCtorEq, Int.reduceEq, SF0, SF1, SF2, DLa0, DCg0, DCe0, DCe1, DCe2, DDb0, DBc0, DBc1, DHa0, DHb0, DHb1, DDe0]
  refine br_dec (fun h3 => ?_) (fun h3 => ?_)
  · have hc : p.cut := .inr h3
    obtain ⟨x, y, hk, hx, hy, nx, ny⟩ := Plan.two hw hc
    obtain ⟨f1, f2, g1, g2, g3⟩ := Plan.fits_cut hc hk hf
    obtain ⟨s1, s2, _⟩ := Plan.split_sane hc hk hb hf
    have hbb := hb
    unfold Box.sane at hbb
    have hat : p.at_ ≤ b.H - 1 := g3 (by omega)
    have i1 := ih x (p.split b).1 (by omega) hx s1 f1
    have i2 := ih y (p.split b).2 (by omega) hy s2 f2
    have e1 : (p.split b).1.W = b.W := by unfold Plan.split; rw [if_neg h2]
    have e2 : (p.split b).2.W = b.W := by unfold Plan.split; rw [if_neg h2]
    rw [e1] at i1
    rw [e2] at i2
    have em := Plan.mirror_across h3 hk b.W
    generalize y.mirror b.W = y' at *
    generalize x.mirror b.W = x' at *
    simp (disch := omega) only [SX0, SX1, SX2, SX3, SX4, SX5, SX6, SX7, SX8, SU0, SY0, SY1, Nat.reduceAdd, Nat.reduceMul, Nat.reduceSub, Nat.reduceLeDiff, Nat.reduceEqDiff, Nat.reduceLT, Nat.reduceBEq, ↓reduceIte, Int.reduceLE, Int.reduceLT, Int.reduceToNat, Int.reduceNeg, reduceCtorEq, Int.reduceEq, SF0, SF1, SF2, DLa0, DCg0, DCe0, DCe1, DCe2, DDb0, DBc0, DBc1, DHa0, DHb0, DHb1, DDe0]
    refine awp_float (bl := [51]) T_tt mixed [0, 1] [0, 1, 2, 3, 4, 5, 6, 8, 9, 10, 11, 12] [(7, [(2, .f 39), (3, .f 40), (4, .f 41), (5, .f 42), (6, .f 43)]), (13, [(8, .f 45), (9, .f 46), (10, .f 47), (11, .f 48), (12, .f 49)]), (14, []), (15, [(0, .f 37), (1, .f 38)]), (16, [])] [] (by kernel_rfl) (by kernel_rfl) ?_
    simp (disch := omega) only [SX0, SX1, SX2, SX3, SX4, SX5, SX6, SX7, SX8, SU0, SY0, SY1, Nat.reduceAdd, Nat.reduceMul, Nat.reduceSub, Nat.reduceLeDiff, Nat.reduceEqDiff, Nat.reduceLT, Nat.reduceBEq, ↓reduceIte, Int.reduceLE, Int.reduceLT, Int.reduceToNat, Int.reduceNeg, reduceCtorEq, Int.reduceEq, SF0, SF1, SF2, DLa0, DCg0, DCe0, DCe1, DCe2, DDb0, DBc0, DBc1, DHa0, DHb0, DHb1, DDe0, hk]
    refine acall_own i1 [] [] (by simp only [SX0, SX1, SX2, SX3, SX4, SX5, SX6, SX7, SX8, SU0, SY0, SY1, Nat.reduceAdd, Nat.reduceMul, Nat.reduceSub, Nat.reduceLeDiff, Nat.reduceEqDiff, Nat.reduceLT, Nat.reduceBEq, ↓reduceIte, Int.reduceLE, Int.reduceLT, Int.reduceToNat, Int.reduceNeg, reduceCtorEq, Int.reduceEq, SF0, SF1, SF2, DLa0, DCg0, DCe0, DCe1, DCe2, DDb0, DBc0, DBc1, DHa0, DHb0, DHb1, DDe0, SX0]) (by decide) (by decide) (by rfl) (by simp only [SX0, SX1, SX2, SX3, SX4, SX5, SX6, SX7, SX8, SU0, SY0, SY1, Nat.reduceAdd, Nat.reduceMul, Nat.reduceSub, Nat.reduceLeDiff, Nat.reduceEqDiff, Nat.reduceLT, Nat.reduceBEq, ↓reduceIte, Int.reduceLE, Int.reduceLT, Int.reduceToNat, Int.reduceNeg, reduceCtorEq, Int.reduceEq, SF0, SF1, SF2, DLa0, DCg0, DCe0, DCe1, DCe2, DDb0, DBc0, DBc1, DHa0, DHb0, DHb1, DDe0, SX0]) ?_
    rintro _ _ ⟨Sx, vx, hvx, rfl, rfl⟩
    simp (disch := omega) only [SX0, SX1, SX2, SX3, SX4, SX5, SX6, SX7, SX8, SU0, SY0, SY1, Nat.reduceAdd, Nat.reduceMul, Nat.reduceSub, Nat.reduceLeDiff, Nat.reduceEqDiff, Nat.reduceLT, Nat.reduceBEq, ↓reduceIte, Int.reduceLE, Int.reduceLT, Int.reduceToNat, Int.reduceNeg, reduceCtorEq, Int.reduceEq, SF0, SF1, SF2, DLa0, DCg0, DCe0, DCe1, DCe2, DDb0, DBc0, DBc1, DHa0, DHb0, DHb1, DDe0, SX0, hk, hvx, if_true, Plan.csV]
    refine acall_own i2 [] [] (by simp only [SX0, SX1, SX2, SX3, SX4, SX5, SX6, SX7, SX8, SU0, SY0, SY1, Nat.reduceAdd, Nat.reduceMul, Nat.reduceSub, Nat.reduceLeDiff, Nat.reduceEqDiff, Nat.reduceLT, Nat.reduceBEq, ↓reduceIte, Int.reduceLE, Int.reduceLT, Int.reduceToNat, Int.reduceNeg, reduceCtorEq, Int.reduceEq, SF0, SF1, SF2, DLa0, DCg0, DCe0, DCe1, DCe2, DDb0, DBc0, DBc1, DHa0, DHb0, DHb1, DDe0, SX0]) (by decide) (by decide) (by rfl) (by simp only [SX0, SX1, SX2, SX3, SX4, SX5, SX6, SX7, SX8, SU0, SY0, SY1, Nat.reduceAdd, Nat.reduceMul, Nat.reduceSub, Nat.reduceLeDiff, Nat.reduceEqDiff, Nat.reduceLT, Nat.reduceBEq, ↓reduceIte, Int.reduceLE, Int.reduceLT, Int.reduceToNat, Int.reduceNeg, reduceCtorEq, Int.reduceEq, SF0, SF1, SF2, DLa0, DCg0, DCe0, DCe1, DCe2, DDb0, DBc0, DBc1, DHa0, DHb0, DHb1, DDe0, SX0]) ?_
    rintro _ _ ⟨Sy, vy, hvy, rfl, rfl⟩
    simp (disch := omega) only [SX0, SX1, SX2, SX3, SX4, SX5, SX6, SX7, SX8, SU0, SY0, SY1, Nat.reduceAdd, Nat.reduceMul, Nat.reduceSub, Nat.reduceLeDiff, Nat.reduceEqDiff, Nat.reduceLT, Nat.reduceBEq, ↓reduceIte, Int.reduceLE, Int.reduceLT, Int.reduceToNat, Int.reduceNeg, reduceCtorEq, Int.reduceEq, SF0, SF1, SF2, DLa0, DCg0, DCe0, DCe1, DCe2, DDb0, DBc0, DBc1, DHa0, DHb0, DHb1, DDe0, SX0, hk, hvx, hvy, if_true, Plan.csV]
    exact fin_two (r := 4) (rx := 2) (ry := 3) (x := x') (y := y') (by decide) (by decide) (by decide) rfl rfl rfl fun S v hv => by rw [em]; exact ⟨S, v, hv, rfl, rfl⟩
  have hc : ¬ p.cut := by unfold Plan.cut; omega
  have hl := Plan.leaf_eq hw hc
  have F := fun s => fin_leaf (R := TreeR p) (s := s) hl.2 fun S => ⟨S, _, rfl, rfl, by rw [hl.2]; rfl⟩
  rw [hl.1] at F
  rw [Plan.mirror_leaf hc]
  simp (disch := omega) only [SX0, SX1, SX2, SX3, SX4, SX5, SX6, SX7, SX8, SU0, SY0, SY1, Nat.reduceAdd, Nat.reduceMul, Nat.reduceSub, Nat.reduceLeDiff, Nat.reduceEqDiff, Nat.reduceLT, Nat.reduceBEq, ↓reduceIte, Int.reduceLE, Int.reduceLT, Int.reduceToNat, Int.reduceNeg, reduceCtorEq, Int.reduceEq, SF0, SF1, SF2, DLa0, DCg0, DCe0, DCe1, DCe2, DDb0, DBc0, DBc1, DHa0, DHb0, DHb1, DDe0]
  exact F _

theorem e_mirrorPlanF : Enters Try.prog 44 := enters_of Try.func44 (by kernel_rfl) (by kernel_rfl)
theorem mirrorPlan_f (k : Work) (p : Plan) (hk : k.Ps.length < 2 ^ 40) : ACalls Try.prog 44 [.agg k.cs, .agg p.cs] [] [] (TreeR (p.mir k)) := by
  refine acalls_tm T_tt Try.func44 rfl e_mirrorPlanF 12 rfl (W8 _ _ .any .any .any .any .any .any [.any, .any, .any, .any, .any, .any]) rfl (rv := [.cell 4 38]) rfl (sx_sound (bl := []) T_tt _ _ _ ?_)
  simp (disch := omega) only [SX0, SX1, SX2, SX3, SX4, SX5, SX6, SX7, SX8, SU0, SY0, SY1, Nat.reduceAdd, Nat.reduceMul, Nat.reduceSub, Nat.reduceLeDiff, Nat.reduceEqDiff, Nat.reduceLT, Nat.reduceBEq, ↓reduceIte, Int.reduceLE, Int.reduceLT, Int.reduceToNat, Int.reduceNeg, reduceCtorEq, Int.reduceEq, SF0, SF1, SF2, DLa0, DCg0, DCe0, DCe1, DCe2, DDb0, DBc0, DBc1, DHa0, DHb0, DHb1, DDe0]
  refine acall_one (validPlanI_c k p hk) (by simp [freeL, AV.free, Plan.free, Work.free]) rfl ?_
  simp (disch := omega) only [SX0, SX1, SX2, SX3, SX4, SX5, SX6, SX7, SX8, SU0, SY0, SY1, Nat.reduceAdd, Nat.reduceMul, Nat.reduceSub, Nat.reduceLeDiff, Nat.reduceEqDiff, Nat.reduceLT, Nat.reduceBEq, ↓reduceIte, Int.reduceLE, Int.reduceLT, Int.reduceToNat, Int.reduceNeg, reduceCtorEq, Int.reduceEq, SF0, SF1, SF2, DLa0, DCg0, DCe0, DCe1, DCe2, DDb0, DBc0, DBc1, DHa0, DHb0, DHb1, DDe0]
  refine br_ndec (fun hv => ?_) (fun hv => ?_)
  · have e : p.mir k = .zero := by unfold Plan.mir; rw [if_neg hv]
    rw [e]
    simp (disch := omega) only [SX0, SX1, SX2, SX3, SX4, SX5, SX6, SX7, SX8, SU0, SY0, SY1, Nat.reduceAdd, Nat.reduceMul, Nat.reduceSub, Nat.reduceLeDiff, Nat.reduceEqDiff, Nat.reduceLT, Nat.reduceBEq, ↓reduceIte, Int.reduceLE, Int.reduceLT, Int.reduceToNat, Int.reduceNeg, reduceCtorEq, Int.reduceEq, SF0, SF1, SF2, DLa0, DCg0, DCe0, DCe1, DCe2, DDb0, DBc0, DBc1, DHa0, DHb0, DHb1, DDe0]
    exact fin_leaf (q := .zero) rfl fun S => ⟨S, _, rfl, rfl, rfl⟩
  · have e : p.mir k = p.mirror k.sheet.W := by unfold Plan.mir; rw [if_pos hv]; rfl
    have M : ACalls Try.prog 91 [.agg p.cs, .val (.int .i64 k.W)] [] [] (TreeR (p.mir k)) := by rw [e]; exact mirrored_f k _ p k.sheet (Nat.le_refl _) hv.2.1.1 (Work.sheet_sane hv.1) hv.2.2
    simp (disch := omega) only [SX0, SX1, SX2, SX3, SX4, SX5, SX6, SX7, SX8, SU0, SY0, SY1, Nat.reduceAdd, Nat.reduceMul, Nat.reduceSub, Nat.reduceLeDiff, Nat.reduceEqDiff, Nat.reduceLT, Nat.reduceBEq, ↓reduceIte, Int.reduceLE, Int.reduceLT, Int.reduceToNat, Int.reduceNeg, reduceCtorEq, Int.reduceEq, SF0, SF1, SF2, DLa0, DCg0, DCe0, DCe1, DCe2, DDb0, DBc0, DBc1, DHa0, DHb0, DHb1, DDe0]
    refine acall_own M [] [] (by simp only [SX0, SX1, SX2, SX3, SX4, SX5, SX6, SX7, SX8, SU0, SY0, SY1, Nat.reduceAdd, Nat.reduceMul, Nat.reduceSub, Nat.reduceLeDiff, Nat.reduceEqDiff, Nat.reduceLT, Nat.reduceBEq, ↓reduceIte, Int.reduceLE, Int.reduceLT, Int.reduceToNat, Int.reduceNeg, reduceCtorEq, Int.reduceEq, SF0, SF1, SF2, DLa0, DCg0, DCe0, DCe1, DCe2, DDb0, DBc0, DBc1, DHa0, DHb0, DHb1, DDe0, SX0]) (by decide) (by decide) (by rfl) (by simp only [SX0, SX1, SX2, SX3, SX4, SX5, SX6, SX7, SX8, SU0, SY0, SY1, Nat.reduceAdd, Nat.reduceMul, Nat.reduceSub, Nat.reduceLeDiff, Nat.reduceEqDiff, Nat.reduceLT, Nat.reduceBEq, ↓reduceIte, Int.reduceLE, Int.reduceLT, Int.reduceToNat, Int.reduceNeg, reduceCtorEq, Int.reduceEq, SF0, SF1, SF2, DLa0, DCg0, DCe0, DCe1, DCe2, DDb0, DBc0, DBc1, DHa0, DHb0, DHb1, DDe0, SX0]) ?_
    rintro _ _ ⟨S, v, hv, rfl, rfl⟩
    simp (disch := omega) only [SX0, SX1, SX2, SX3, SX4, SX5, SX6, SX7, SX8, SU0, SY0, SY1, Nat.reduceAdd, Nat.reduceMul, Nat.reduceSub, Nat.reduceLeDiff, Nat.reduceEqDiff, Nat.reduceLT, Nat.reduceBEq, ↓reduceIte, Int.reduceLE, Int.reduceLT, Int.reduceToNat, Int.reduceNeg, reduceCtorEq, Int.reduceEq, SF0, SF1, SF2, DLa0, DCg0, DCe0, DCe1, DCe2, DDb0, DBc0, DBc1, DHa0, DHb0, DHb1, DDe0, SX0, hv, if_true, Plan.csV]
    exact fin_ks [3] (.agg ((p.mir k).csV v)) _ ⟨S, v, hv, rfl, rfl⟩ rfl ⟨rfl, trivial⟩ (by simp) (by simp) (by simp)

/-- A call whose result is a plan with memory of its own. -/
theorem acall_borP {P : Program} {fx : List Nat} {f : FuncId} {args' : List AV} {q : Plan} (h : ACalls P f args' [] [] (TreeR q)) {args : List AV} {s : AS} (hb : BorL s.L args args')
    {K : AV → AS → Prop} (hK : ∀ S v, v.oneCell' = true → K (.agg (q.csV v)) { s with L := s.L ++ [.forest S [(v, .sl (q.ks.map Plan.cs))]] }) : ACall P fx (.fn f []) args s K :=
  acall_bor h hb (fun r L ⟨S, v, _, h1, h2⟩ => by subst h1; subst h2; exact ⟨rfl, rfl⟩) fun r L ⟨S, v, h0, h1, h2⟩ => by
    subst h1; subst h2
    exact hK S v h0

theorem mir_nodes (p : Plan) (k : Work) : (p.mir k).nodes ≤ 255 := by
  unfold Plan.mir
  by_cases hv : p.valid k
  · rw [if_pos hv]
    have := (Plan.mirror_all k p hv.2.1.1 k.sheet hv.2.2).2.1
    rw [show k.sheet.W = k.W from rfl] at this
    rw [this]; exact hv.2.1.2
  · rw [if_neg hv, Plan.zero_nodes]; decide

/-- A plan whose parts are marked. -/
def Plan.held (q : Plan) (k : Int) : List AV := [.val (.int .i64 q.op), .val (.int .i64 q.at_), .val (.int .i64 q.pa), .val (.bool q.tu), .sl ((markL q.ks k).map Plan.cs)]
theorem bor_held {L : List OB} (r : Nat) {S : Nat → Prop} {v : Value} {q : Plan} {k : Int} (h : L[r]? = some (.forest S [(v, .sl ((markL q.ks k).map Plan.cs))])) : Bor L (.agg (q.csV v)) (.agg (q.held k)) :=
  Bor.aggL (show BorL L [_, _, _, _, _] [_, _, _, _, _] from ⟨.free _ rfl, .free _ rfl, .free _ rfl, .free _ rfl, .item r 0 S _ v _ h rfl, trivial⟩)

def FnExactMirrorPlan_hyp : Prop := ∀ (x0 : Work) (_ : x0.Ps.length ≤ 9223372036854775807) (x1 : Plan) (_ : x1.Lens), ACalls Try.prog 8 [.agg x0.cs, .agg x1.cs] [] [] (fun r L => r = .val (.bool true) ∧ L = [])
theorem e_fnExactMirrorPlan : Enters Try.prog 8 := enters_of Try.func8 (by kernel_rfl) (by kernel_rfl)
set_option maxRecDepth 8000 in
set_option maxHeartbeats 4000000 in
theorem fnExactMirrorPlan_c : FnExactMirrorPlan_hyp := by
  intro k hk p hp
  refine acalls_tm T_tt Try.func8 rfl e_fnExactMirrorPlan 90 rfl (W8 _ _ .any .any .any .any .any .any (W8 .any .any .any .any .any .any .any .any (W8 .any .any .any .any .any .any .any .any (W8 .any .any .any .any .any .any .any .any (W8 .any .any .any .any .any .any .any .any (W8 .any .any .any .any .any .any .any .any (W8 .any .any .any .any .any .any .any .any (W8 .any .any .any .any .any .any .any .any (W8 .any .any .any .any .any .any .any .any (W8 .any .any .any .any .any .any .any .any (W8 .any .any .any .any .any .any .any .any [.any, .any, .any, .any]))))))))))) rfl (rv := [.tmp 4]) rfl (sx_sound (bl := []) T_tt _ _ _ ?_)
  simp (disch := omega) only [SX0, SX1, SX2, SX3, SX4, SX5, SX6, SX7, SX8, SU0, SY0, SY1, Nat.reduceAdd, Nat.reduceMul, Nat.reduceSub, Nat.reduceLeDiff, Nat.reduceEqDiff, Nat.reduceLT, Nat.reduceBEq, ↓reduceIte, Int.reduceLE, Int.reduceLT, Int.reduceToNat, Int.reduceNeg, reduceCtorEq, Int.reduceEq, SF0, SF1, SF2, DLa0, DCg0, DCe0, DCe1, DCe2, DDb0, DBc0, DBc1, DHa0, DHb0, DHb1, DDe0]
  refine acall_one (szWork_c k 1048576 hk (by omega)) rfl rfl ?_
  simp (disch := omega) only [SX0, SX1, SX2, SX3, SX4, SX5, SX6, SX7, SX8, SU0, SY0, SY1, Nat.reduceAdd, Nat.reduceMul, Nat.reduceSub, Nat.reduceLeDiff, Nat.reduceEqDiff, Nat.reduceLT, Nat.reduceBEq, ↓reduceIte, Int.reduceLE, Int.reduceLT, Int.reduceToNat, Int.reduceNeg, reduceCtorEq, Int.reduceEq, SF0, SF1, SF2, DLa0, DCg0, DCe0, DCe1, DCe2, DDb0, DBc0, DBc1, DHa0, DHb0, DHb1, DDe0]
  refine br_dec (fun h1 => ?_) (fun h1 => ?_)
  · simp (disch := omega) only [SX0, SX1, SX2, SX3, SX4, SX5, SX6, SX7, SX8, SU0, SY0, SY1, Nat.reduceAdd, Nat.reduceMul, Nat.reduceSub, Nat.reduceLeDiff, Nat.reduceEqDiff, Nat.reduceLT, Nat.reduceBEq, ↓reduceIte, Int.reduceLE, Int.reduceLT, Int.reduceToNat, Int.reduceNeg, reduceCtorEq, Int.reduceEq, SF0, SF1, SF2, DLa0, DCg0, DCe0, DCe1, DCe2, DDb0, DBc0, DBc1, DHa0, DHb0, DHb1, DDe0]
    exact fin_val ⟨rfl, rfl⟩
  obtain ⟨hk1, e1⟩ := leftOf_pos h1
  rw [e1]
  simp (disch := omega) only [SX0, SX1, SX2, SX3, SX4, SX5, SX6, SX7, SX8, SU0, SY0, SY1, Nat.reduceAdd, Nat.reduceMul, Nat.reduceSub, Nat.reduceLeDiff, Nat.reduceEqDiff, Nat.reduceLT, Nat.reduceBEq, ↓reduceIte, Int.reduceLE, Int.reduceLT, Int.reduceToNat, Int.reduceNeg, reduceCtorEq, Int.reduceEq, SF0, SF1, SF2, DLa0, DCg0, DCe0, DCe1, DCe2, DDb0, DBc0, DBc1, DHa0, DHb0, DHb1, DDe0]
  refine acall_one (szPlan_c p _ hp (by omega)) (by simp [freeL, AV.free, Plan.free]) rfl ?_
  simp (disch := omega) only [SX0, SX1, SX2, SX3, SX4, SX5, SX6, SX7, SX8, SU0, SY0, SY1, Nat.reduceAdd, Nat.reduceMul, Nat.reduceSub, Nat.reduceLeDiff, Nat.reduceEqDiff, Nat.reduceLT, Nat.reduceBEq, ↓reduceIte, Int.reduceLE, Int.reduceLT, Int.reduceToNat, Int.reduceNeg, reduceCtorEq, Int.reduceEq, SF0, SF1, SF2, DLa0, DCg0, DCe0, DCe1, DCe2, DDb0, DBc0, DBc1, DHa0, DHb0, DHb1, DDe0]
  refine br_dec (fun h2 => ?_) (fun h2 => ?_)
  · simp (disch := omega) only [SX0, SX1, SX2, SX3, SX4, SX5, SX6, SX7, SX8, SU0, SY0, SY1, Nat.reduceAdd, Nat.reduceMul, Nat.reduceSub, Nat.reduceLeDiff, Nat.reduceEqDiff, Nat.reduceLT, Nat.reduceBEq, ↓reduceIte, Int.reduceLE, Int.reduceLT, Int.reduceToNat, Int.reduceNeg, reduceCtorEq, Int.reduceEq, SF0, SF1, SF2, DLa0, DCg0, DCe0, DCe1, DCe2, DDb0, DBc0, DBc1, DHa0, DHb0, DHb1, DDe0]
    exact fin_val ⟨rfl, rfl⟩
  have h3 := (leftOf_pos h2).1
  have hpn : p.nodes ≤ 1048577 := by omega
  have hkn : k.Ps.length ≤ 1048576 := by omega
  have hpk := p.nodes_eq
  have TW := toWork_c k hkn
  have TP := toPlan_c p hpn
  have hqn := mir_nodes p k
  have UF := mirrorPlan_f k p (by omega)
  have UZ := mirrorPlanI_c k p (by omega)
  have US := mirrorPlanS_c k p (by omega)
  generalize p.mir k = q at *
  have hqk := q.nodes_eq
  have EQ := eqPlan_c q (by omega)
  have HE : ACalls Try.prog 45 [.agg (q.held 1), .val (.int .i64 1)] [] [] (fun r L => r = .val (.int .i64 (1 + 4 * Plan.nodesL q.ks)) ∧ L = []) := heldPlan_c q (by omega) 1 (by omega)
  simp (disch := omega) only [SX0, SX1, SX2, SX3, SX4, SX5, SX6, SX7, SX8, SU0, SY0, SY1, Nat.reduceAdd, Nat.reduceMul, Nat.reduceSub, Nat.reduceLeDiff, Nat.reduceEqDiff, Nat.reduceLT, Nat.reduceBEq, ↓reduceIte, Int.reduceLE, Int.reduceLT, Int.reduceToNat, Int.reduceNeg, reduceCtorEq, Int.reduceEq, SF0, SF1, SF2, DLa0, DCg0, DCe0, DCe1, DCe2, DDb0, DBc0, DBc1, DHa0, DHb0, DHb1, DDe0]
  refine awp_float (bl := []) T_tt mixed [0, 1] [0, 1, 2, 3, 4] [(6, [(0, .f 24), (1, .f 25), (2, .f 26), (3, .f 27), (4, .f 28), (5, .a 6 38)])] [] (by kernel_rfl) (by kernel_rfl) ?_
  simp (disch := omega) only [SX0, SX1, SX2, SX3, SX4, SX5, SX6, SX7, SX8, SU0, SY0, SY1, Nat.reduceAdd, Nat.reduceMul, Nat.reduceSub, Nat.reduceLeDiff, Nat.reduceEqDiff, Nat.reduceLT, Nat.reduceBEq, ↓reduceIte, Int.reduceLE, Int.reduceLT, Int.reduceToNat, Int.reduceNeg, reduceCtorEq, Int.reduceEq, SF0, SF1, SF2, DLa0, DCg0, DCe0, DCe1, DCe2, DDb0, DBc0, DBc1, DHa0, DHb0, DHb1, DDe0]
  refine qc_one TW rfl ?_
  simp (disch := omega) only [SX0, SX1, SX2, SX3, SX4, SX5, SX6, SX7, SX8, SU0, SY0, SY1, Nat.reduceAdd, Nat.reduceMul, Nat.reduceSub, Nat.reduceLeDiff, Nat.reduceEqDiff, Nat.reduceLT, Nat.reduceBEq, ↓reduceIte, Int.reduceLE, Int.reduceLT, Int.reduceToNat, Int.reduceNeg, reduceCtorEq, Int.reduceEq, SF0, SF1, SF2, DLa0, DCg0, DCe0, DCe1, DCe2, DDb0, DBc0, DBc1, DHa0, DHb0, DHb1, DDe0]
  refine qc_one TP (by simp [freeL, AV.free, Plan.free]) ?_
  simp (disch := omega) only [SX0, SX1, SX2, SX3, SX4, SX5, SX6, SX7, SX8, SU0, SY0, SY1, Nat.reduceAdd, Nat.reduceMul, Nat.reduceSub, Nat.reduceLeDiff, Nat.reduceEqDiff, Nat.reduceLT, Nat.reduceBEq, ↓reduceIte, Int.reduceLE, Int.reduceLT, Int.reduceToNat, Int.reduceNeg, reduceCtorEq, Int.reduceEq, SF0, SF1, SF2, DLa0, DCg0, DCe0, DCe1, DCe2, DDb0, DBc0, DBc1, DHa0, DHb0, DHb1, DDe0]
  refine qc_one US (by simp [freeL, AV.free, Plan.free, Work.free]) ?_
  simp (disch := omega) only [SX0, SX1, SX2, SX3, SX4, SX5, SX6, SX7, SX8, SU0, SY0, SY1, Nat.reduceAdd, Nat.reduceMul, Nat.reduceSub, Nat.reduceLeDiff, Nat.reduceEqDiff, Nat.reduceLT, Nat.reduceBEq, ↓reduceIte, Int.reduceLE, Int.reduceLT, Int.reduceToNat, Int.reduceNeg, reduceCtorEq, Int.reduceEq, SF0, SF1, SF2, DLa0, DCg0, DCe0, DCe1, DCe2, DDb0, DBc0, DBc1, DHa0, DHb0, DHb1, DDe0]
  refine acall_own (toWork_f k hkn) [] [] (by simp only [SX0, SX1, SX2, SX3, SX4, SX5, SX6, SX7, SX8, SU0, SY0, SY1, Nat.reduceAdd, Nat.reduceMul, Nat.reduceSub, Nat.reduceLeDiff, Nat.reduceEqDiff, Nat.reduceLT, Nat.reduceBEq, ↓reduceIte, Int.reduceLE, Int.reduceLT, Int.reduceToNat, Int.reduceNeg, reduceCtorEq, Int.reduceEq, SF0, SF1, SF2, DLa0, DCg0, DCe0, DCe1, DCe2, DDb0, DBc0, DBc1, DHa0, DHb0, DHb1, DDe0, SX0]) (by decide) (by decide) (by rfl) (by simp only [SX0, SX1, SX2, SX3, SX4, SX5, SX6, SX7, SX8, SU0, SY0, SY1, Nat.reduceAdd, Nat.reduceMul, Nat.reduceSub, Nat.reduceLeDiff, Nat.reduceEqDiff, Nat.reduceLT, Nat.reduceBEq, ↓reduceIte, Int.reduceLE, Int.reduceLT, Int.reduceToNat, Int.reduceNeg, reduceCtorEq, Int.reduceEq, SF0, SF1, SF2, DLa0, DCg0, DCe0, DCe1, DCe2, DDb0, DBc0, DBc1, DHa0, DHb0, DHb1, DDe0, SX0]) ?_
  rintro _ _ ⟨S0, v0, hv0, rfl, rfl⟩
  simp (disch := omega) only [SX0, SX1, SX2, SX3, SX4, SX5, SX6, SX7, SX8, SU0, SY0, SY1, Nat.reduceAdd, Nat.reduceMul, Nat.reduceSub, Nat.reduceLeDiff, Nat.reduceEqDiff, Nat.reduceLT, Nat.reduceBEq, ↓reduceIte, Int.reduceLE, Int.reduceLT, Int.reduceToNat, Int.reduceNeg, reduceCtorEq, Int.reduceEq, SF0, SF1, SF2, DLa0, DCg0, DCe0, DCe1, DCe2, DDb0, DBc0, DBc1, DHa0, DHb0, DHb1, DDe0, SX0, hv0, if_true, Work.csV]
  refine acall_own (toPlan_f p hpn) [] [] (by simp only [SX0, SX1, SX2, SX3, SX4, SX5, SX6, SX7, SX8, SU0, SY0, SY1, Nat.reduceAdd, Nat.reduceMul, Nat.reduceSub, Nat.reduceLeDiff, Nat.reduceEqDiff, Nat.reduceLT, Nat.reduceBEq, ↓reduceIte, Int.reduceLE, Int.reduceLT, Int.reduceToNat, Int.reduceNeg, reduceCtorEq, Int.reduceEq, SF0, SF1, SF2, DLa0, DCg0, DCe0, DCe1, DCe2, DDb0, DBc0, DBc1, DHa0, DHb0, DHb1, DDe0, SX0]) (by decide) (by decide) (by rfl) (by simp only [SX0, SX1, SX2, SX3, SX4, SX5, SX6, SX7, SX8, SU0, SY0, SY1, Nat.reduceAdd, Nat.reduceMul, Nat.reduceSub, Nat.reduceLeDiff, Nat.reduceEqDiff, Nat.reduceLT, Nat.reduceBEq, ↓reduceIte, Int.reduceLE, Int.reduceLT, Int.reduceToNat, Int.reduceNeg, reduceCtorEq, Int.reduceEq, SF0, SF1, SF2, DLa0, DCg0, DCe0, DCe1, DCe2, DDb0, DBc0, DBc1, DHa0, DHb0, DHb1, DDe0, SX0]) ?_
  rintro _ _ ⟨S1, v1, hv1, rfl, rfl⟩
  simp (disch := omega) only [SX0, SX1, SX2, SX3, SX4, SX5, SX6, SX7, SX8, SU0, SY0, SY1, Nat.reduceAdd, Nat.reduceMul, Nat.reduceSub, Nat.reduceLeDiff, Nat.reduceEqDiff, Nat.reduceLT, Nat.reduceBEq, ↓reduceIte, Int.reduceLE, Int.reduceLT, Int.reduceToNat, Int.reduceNeg, reduceCtorEq, Int.reduceEq, SF0, SF1, SF2, DLa0, DCg0, DCe0, DCe1, DCe2, DDb0, DBc0, DBc1, DHa0, DHb0, DHb1, DDe0, SX0, hv1, if_true, Plan.csV]
  refine acall_borP UF (by exact ⟨bor_work 3 rfl, bor_plan 5 rfl, trivial⟩) fun S2 v2 hv2 => ?_
  simp (disch := omega) only [SX0, SX1, SX2, SX3, SX4, SX5, SX6, SX7, SX8, SU0, SY0, SY1, Nat.reduceAdd, Nat.reduceMul, Nat.reduceSub, Nat.reduceLeDiff, Nat.reduceEqDiff, Nat.reduceLT, Nat.reduceBEq, ↓reduceIte, Int.reduceLE, Int.reduceLT, Int.reduceToNat, Int.reduceNeg, reduceCtorEq, Int.reduceEq, SF0, SF1, SF2, DLa0, DCg0, DCe0, DCe1, DCe2, DDb0, DBc0, DBc1, DHa0, DHb0, DHb1, DDe0, SX0, hv2, if_true, Plan.csV]
  refine acall_tell EQ (by exact ⟨bor_plan 7 rfl, .free _ (by simp [AV.free, Plan.free]), trivial⟩) ?_
  simp (disch := omega) only [SX0, SX1, SX2, SX3, SX4, SX5, SX6, SX7, SX8, SU0, SY0, SY1, Nat.reduceAdd, Nat.reduceMul, Nat.reduceSub, Nat.reduceLeDiff, Nat.reduceEqDiff, Nat.reduceLT, Nat.reduceBEq, ↓reduceIte, Int.reduceLE, Int.reduceLT, Int.reduceToNat, Int.reduceNeg, reduceCtorEq, Int.reduceEq, SF0, SF1, SF2, DLa0, DCg0, DCe0, DCe1, DCe2, DDb0, DBc0, DBc1, DHa0, DHb0, DHb1, DDe0]
  refine awp_float (bl := []) T_tt mixed [0, 1, 2, 4, 6, 8] [0, 1, 2] [(3, [(0, .f 40), (1, .f 41), (2, .f 42)]), (4, [])] [] (by kernel_rfl) (by kernel_rfl) ?_
  simp (disch := omega) only [SX0, SX1, SX2, SX3, SX4, SX5, SX6, SX7, SX8, SU0, SY0, SY1, Nat.reduceAdd, Nat.reduceMul, Nat.reduceSub, Nat.reduceLeDiff, Nat.reduceEqDiff, Nat.reduceLT, Nat.reduceBEq, ↓reduceIte, Int.reduceLE, Int.reduceLT, Int.reduceToNat, Int.reduceNeg, reduceCtorEq, Int.reduceEq, SF0, SF1, SF2, DLa0, DCg0, DCe0, DCe1, DCe2, DDb0, DBc0, DBc1, DHa0, DHb0, DHb1, DDe0, SX0]
  refine qc_one TW rfl ?_
  simp (disch := omega) only [SX0, SX1, SX2, SX3, SX4, SX5, SX6, SX7, SX8, SU0, SY0, SY1, Nat.reduceAdd, Nat.reduceMul, Nat.reduceSub, Nat.reduceLeDiff, Nat.reduceEqDiff, Nat.reduceLT, Nat.reduceBEq, ↓reduceIte, Int.reduceLE, Int.reduceLT, Int.reduceToNat, Int.reduceNeg, reduceCtorEq, Int.reduceEq, SF0, SF1, SF2, DLa0, DCg0, DCe0, DCe1, DCe2, DDb0, DBc0, DBc1, DHa0, DHb0, DHb1, DDe0, SX0]
  refine acall_tell (eqWork_c k (by omega)) (by exact ⟨bor_work 3 rfl, .free _ rfl, trivial⟩) ?_
  simp (disch := omega) only [SX0, SX1, SX2, SX3, SX4, SX5, SX6, SX7, SX8, SU0, SY0, SY1, Nat.reduceAdd, Nat.reduceMul, Nat.reduceSub, Nat.reduceLeDiff, Nat.reduceEqDiff, Nat.reduceLT, Nat.reduceBEq, ↓reduceIte, Int.reduceLE, Int.reduceLT, Int.reduceToNat, Int.reduceNeg, reduceCtorEq, Int.reduceEq, SF0, SF1, SF2, DLa0, DCg0, DCe0, DCe1, DCe2, DDb0, DBc0, DBc1, DHa0, DHb0, DHb1, DDe0, SX0]
  refine awp_float (bl := []) T_tt mixed [0, 1, 2, 4, 6, 8] [0, 1, 2] [(3, [(0, .f 45), (1, .f 46), (2, .f 47)]), (4, [])] [] (by kernel_rfl) (by kernel_rfl) ?_
  simp (disch := omega) only [SX0, SX1, SX2, SX3, SX4, SX5, SX6, SX7, SX8, SU0, SY0, SY1, Nat.reduceAdd, Nat.reduceMul, Nat.reduceSub, Nat.reduceLeDiff, Nat.reduceEqDiff, Nat.reduceLT, Nat.reduceBEq, ↓reduceIte, Int.reduceLE, Int.reduceLT, Int.reduceToNat, Int.reduceNeg, reduceCtorEq, Int.reduceEq, SF0, SF1, SF2, DLa0, DCg0, DCe0, DCe1, DCe2, DDb0, DBc0, DBc1, DHa0, DHb0, DHb1, DDe0, SX0]
  refine qc_one TP (by simp [freeL, AV.free, Plan.free]) ?_
  simp (disch := omega) only [SX0, SX1, SX2, SX3, SX4, SX5, SX6, SX7, SX8, SU0, SY0, SY1, Nat.reduceAdd, Nat.reduceMul, Nat.reduceSub, Nat.reduceLeDiff, Nat.reduceEqDiff, Nat.reduceLT, Nat.reduceBEq, ↓reduceIte, Int.reduceLE, Int.reduceLT, Int.reduceToNat, Int.reduceNeg, reduceCtorEq, Int.reduceEq, SF0, SF1, SF2, DLa0, DCg0, DCe0, DCe1, DCe2, DDb0, DBc0, DBc1, DHa0, DHb0, DHb1, DDe0, SX0]
  refine acall_tell (eqPlan_c p hpn) (by exact ⟨bor_plan 5 rfl, .free _ (by simp [AV.free, Plan.free]), trivial⟩) ?_
  simp (disch := omega) only [SX0, SX1, SX2, SX3, SX4, SX5, SX6, SX7, SX8, SU0, SY0, SY1, Nat.reduceAdd, Nat.reduceMul, Nat.reduceSub, Nat.reduceLeDiff, Nat.reduceEqDiff, Nat.reduceLT, Nat.reduceBEq, ↓reduceIte, Int.reduceLE, Int.reduceLT, Int.reduceToNat, Int.reduceNeg, reduceCtorEq, Int.reduceEq, SF0, SF1, SF2, DLa0, DCg0, DCe0, DCe1, DCe2, DDb0, DBc0, DBc1, DHa0, DHb0, DHb1, DDe0, SX0]
  refine acall_item (fun S => markWork_f k hkn 1 (by omega) v0 S) 3 0 rfl rfl rfl fun S3 => ?_
  simp (disch := omega) only [SX0, SX1, SX2, SX3, SX4, SX5, SX6, SX7, SX8, SU0, SY0, SY1, Nat.reduceAdd, Nat.reduceMul, Nat.reduceSub, Nat.reduceLeDiff, Nat.reduceEqDiff, Nat.reduceLT, Nat.reduceBEq, ↓reduceIte, Int.reduceLE, Int.reduceLT, Int.reduceToNat, Int.reduceNeg, reduceCtorEq, Int.reduceEq, SF0, SF1, SF2, DLa0, DCg0, DCe0, DCe1, DCe2, DDb0, DBc0, DBc1, DHa0, DHb0, DHb1, DDe0, SX0]
  refine acall_item (fun S => markPlan_f p hpn (1 + 4 * (k.Ps.length : Int)) (by omega) v1 S) 5 0 rfl rfl rfl fun S4 => ?_
  simp (disch := omega) only [SX0, SX1, SX2, SX3, SX4, SX5, SX6, SX7, SX8, SU0, SY0, SY1, Nat.reduceAdd, Nat.reduceMul, Nat.reduceSub, Nat.reduceLeDiff, Nat.reduceEqDiff, Nat.reduceLT, Nat.reduceBEq, ↓reduceIte, Int.reduceLE, Int.reduceLT, Int.reduceToNat, Int.reduceNeg, reduceCtorEq, Int.reduceEq, SF0, SF1, SF2, DLa0, DCg0, DCe0, DCe1, DCe2, DDb0, DBc0, DBc1, DHa0, DHb0, DHb1, DDe0, SX0]
  refine br_dec (fun h => by omega) (fun h => ?_)
  simp (disch := omega) only [SX0, SX1, SX2, SX3, SX4, SX5, SX6, SX7, SX8, SU0, SY0, SY1, Nat.reduceAdd, Nat.reduceMul, Nat.reduceSub, Nat.reduceLeDiff, Nat.reduceEqDiff, Nat.reduceLT, Nat.reduceBEq, ↓reduceIte, Int.reduceLE, Int.reduceLT, Int.reduceToNat, Int.reduceNeg, reduceCtorEq, Int.reduceEq, SF0, SF1, SF2, DLa0, DCg0, DCe0, DCe1, DCe2, DDb0, DBc0, DBc1, DHa0, DHb0, DHb1, DDe0, SX0]
  refine acall_tell EQ (by exact ⟨bor_plan 7 rfl, .free _ (by simp [AV.free, Plan.free]), trivial⟩) ?_
  simp (disch := omega) only [SX0, SX1, SX2, SX3, SX4, SX5, SX6, SX7, SX8, SU0, SY0, SY1, Nat.reduceAdd, Nat.reduceMul, Nat.reduceSub, Nat.reduceLeDiff, Nat.reduceEqDiff, Nat.reduceLT, Nat.reduceBEq, ↓reduceIte, Int.reduceLE, Int.reduceLT, Int.reduceToNat, Int.reduceNeg, reduceCtorEq, Int.reduceEq, SF0, SF1, SF2, DLa0, DCg0, DCe0, DCe1, DCe2, DDb0, DBc0, DBc1, DHa0, DHb0, DHb1, DDe0, SX0]
  refine acall_item (fun S => markPlan_f q (by omega) 1 (by omega) v2 S) 7 0 rfl rfl rfl fun S5 => ?_
  simp (disch := omega) only [SX0, SX1, SX2, SX3, SX4, SX5, SX6, SX7, SX8, SU0, SY0, SY1, Nat.reduceAdd, Nat.reduceMul, Nat.reduceSub, Nat.reduceLeDiff, Nat.reduceEqDiff, Nat.reduceLT, Nat.reduceBEq, ↓reduceIte, Int.reduceLE, Int.reduceLT, Int.reduceToNat, Int.reduceNeg, reduceCtorEq, Int.reduceEq, SF0, SF1, SF2, DLa0, DCg0, DCe0, DCe1, DCe2, DDb0, DBc0, DBc1, DHa0, DHb0, DHb1, DDe0, SX0]
  refine acall_tell HE (by exact ⟨bor_held 7 rfl, .free _ rfl, trivial⟩) ?_
  simp (disch := omega) only [SX0, SX1, SX2, SX3, SX4, SX5, SX6, SX7, SX8, SU0, SY0, SY1, Nat.reduceAdd, Nat.reduceMul, Nat.reduceSub, Nat.reduceLeDiff, Nat.reduceEqDiff, Nat.reduceLT, Nat.reduceBEq, ↓reduceIte, Int.reduceLE, Int.reduceLT, Int.reduceToNat, Int.reduceNeg, reduceCtorEq, Int.reduceEq, SF0, SF1, SF2, DLa0, DCg0, DCe0, DCe1, DCe2, DDb0, DBc0, DBc1, DHa0, DHb0, DHb1, DDe0, SX0]
  refine br_dec (fun h => by omega) (fun h => ?_)
  simp (disch := omega) only [SX0, SX1, SX2, SX3, SX4, SX5, SX6, SX7, SX8, SU0, SY0, SY1, Nat.reduceAdd, Nat.reduceMul, Nat.reduceSub, Nat.reduceLeDiff, Nat.reduceEqDiff, Nat.reduceLT, Nat.reduceBEq, ↓reduceIte, Int.reduceLE, Int.reduceLT, Int.reduceToNat, Int.reduceNeg, reduceCtorEq, Int.reduceEq, SF0, SF1, SF2, DLa0, DCg0, DCe0, DCe1, DCe2, DDb0, DBc0, DBc1, DHa0, DHb0, DHb1, DDe0, SX0]
  refine awp_float (bl := []) T_tt mixed [0, 1, 2, 4, 6, 8] [0, 1, 2, 3, 4] [(6, [(0, .f 75), (1, .f 76), (2, .f 77), (3, .f 78), (4, .f 79), (5, .a 13 38)])] [] (by kernel_rfl) (by kernel_rfl) ?_
  simp (disch := omega) only [SX0, SX1, SX2, SX3, SX4, SX5, SX6, SX7, SX8, SU0, SY0, SY1, Nat.reduceAdd, Nat.reduceMul, Nat.reduceSub, Nat.reduceLeDiff, Nat.reduceEqDiff, Nat.reduceLT, Nat.reduceBEq, ↓reduceIte, Int.reduceLE, Int.reduceLT, Int.reduceToNat, Int.reduceNeg, reduceCtorEq, Int.reduceEq, SF0, SF1, SF2, DLa0, DCg0, DCe0, DCe1, DCe2, DDb0, DBc0, DBc1, DHa0, DHb0, DHb1, DDe0]
  refine qc_one TW rfl ?_
  simp (disch := omega) only [SX0, SX1, SX2, SX3, SX4, SX5, SX6, SX7, SX8, SU0, SY0, SY1, Nat.reduceAdd, Nat.reduceMul, Nat.reduceSub, Nat.reduceLeDiff, Nat.reduceEqDiff, Nat.reduceLT, Nat.reduceBEq, ↓reduceIte, Int.reduceLE, Int.reduceLT, Int.reduceToNat, Int.reduceNeg, reduceCtorEq, Int.reduceEq, SF0, SF1, SF2, DLa0, DCg0, DCe0, DCe1, DCe2, DDb0, DBc0, DBc1, DHa0, DHb0, DHb1, DDe0]
  refine qc_one TP (by simp [freeL, AV.free, Plan.free]) ?_
  simp (disch := omega) only [SX0, SX1, SX2, SX3, SX4, SX5, SX6, SX7, SX8, SU0, SY0, SY1, Nat.reduceAdd, Nat.reduceMul, Nat.reduceSub, Nat.reduceLeDiff, Nat.reduceEqDiff, Nat.reduceLT, Nat.reduceBEq, ↓reduceIte, Int.reduceLE, Int.reduceLT, Int.reduceToNat, Int.reduceNeg, reduceCtorEq, Int.reduceEq, SF0, SF1, SF2, DLa0, DCg0, DCe0, DCe1, DCe2, DDb0, DBc0, DBc1, DHa0, DHb0, DHb1, DDe0]
  refine qc_one UZ (by simp [freeL, AV.free, Plan.free, Work.free]) ?_
  simp (disch := omega) only [SX0, SX1, SX2, SX3, SX4, SX5, SX6, SX7, SX8, SU0, SY0, SY1, Nat.reduceAdd, Nat.reduceMul, Nat.reduceSub, Nat.reduceLeDiff, Nat.reduceEqDiff, Nat.reduceLT, Nat.reduceBEq, ↓reduceIte, Int.reduceLE, Int.reduceLT, Int.reduceToNat, Int.reduceNeg, reduceCtorEq, Int.reduceEq, SF0, SF1, SF2, DLa0, DCg0, DCe0, DCe1, DCe2, DDb0, DBc0, DBc1, DHa0, DHb0, DHb1, DDe0, SX0]
  refine acall_one EQ (by simp [freeL, AV.free, Plan.free]) rfl ?_
  simp (disch := omega) only [SX0, SX1, SX2, SX3, SX4, SX5, SX6, SX7, SX8, SU0, SY0, SY1, Nat.reduceAdd, Nat.reduceMul, Nat.reduceSub, Nat.reduceLeDiff, Nat.reduceEqDiff, Nat.reduceLT, Nat.reduceBEq, ↓reduceIte, Int.reduceLE, Int.reduceLT, Int.reduceToNat, Int.reduceNeg, reduceCtorEq, Int.reduceEq, SF0, SF1, SF2, DLa0, DCg0, DCe0, DCe1, DCe2, DDb0, DBc0, DBc1, DHa0, DHb0, DHb1, DDe0]
  refine acall_tell HE (by exact ⟨bor_held 7 rfl, .free _ rfl, trivial⟩) ?_
  simp (disch := omega) only [SX0, SX1, SX2, SX3, SX4, SX5, SX6, SX7, SX8, SU0, SY0, SY1, Nat.reduceAdd, Nat.reduceMul, Nat.reduceSub, Nat.reduceLeDiff, Nat.reduceEqDiff, Nat.reduceLT, Nat.reduceBEq, ↓reduceIte, Int.reduceLE, Int.reduceLT, Int.reduceToNat, Int.reduceNeg, reduceCtorEq, Int.reduceEq, SF0, SF1, SF2, DLa0, DCg0, DCe0, DCe1, DCe2, DDb0, DBc0, DBc1, DHa0, DHb0, DHb1, DDe0, SX0]
  refine br_dec (fun h => by omega) (fun h => ?_)
  simp (disch := omega) only [SX0, SX1, SX2, SX3, SX4, SX5, SX6, SX7, SX8, SU0, SY0, SY1, Nat.reduceAdd, Nat.reduceMul, Nat.reduceSub, Nat.reduceLeDiff, Nat.reduceEqDiff, Nat.reduceLT, Nat.reduceBEq, ↓reduceIte, Int.reduceLE, Int.reduceLT, Int.reduceToNat, Int.reduceNeg, reduceCtorEq, Int.reduceEq, SF0, SF1, SF2, DLa0, DCg0, DCe0, DCe1, DCe2, DDb0, DBc0, DBc1, DHa0, DHb0, DHb1, DDe0, SX0]
  exact fin_val ⟨rfl, rfl⟩

end Go.Pc
