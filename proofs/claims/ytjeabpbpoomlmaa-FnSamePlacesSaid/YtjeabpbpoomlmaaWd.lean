/- The law of places without order: it holds of all bytes. -/
import Derived.Test.YtjeabpbpoomlmaaWc
import Derived.Test.YtjeabpbpoomlmaaRow
import Derived.Test.YtjeabpbpoomlmaaMl
import Derived.Test.YtjeabpbpoomlmaaSa
import Derived.Test.YtjeabpbpoomlmaaHe
set_option linter.unusedSimpArgs false
set_option linter.unusedVariables false
namespace Go.Pc
open Go Go.Proofs

theorem Work.nrmd (k : Work) : nrmL k.cs = k.cs := by rw [Work.cs]; simp [nrmL, AV.nrm]
theorem Plan.nrmd (p : Plan) : nrmL p.cs = p.cs := by rw [Plan.cs_eq]; simp [nrmL, AV.nrm]

theorem e_drawSamePlaces : Enters Try.prog 59 := enters_of Try.func59 (by kernel_rfl) (by kernel_rfl)
set_option maxRecDepth 8000 in
set_option maxHeartbeats 4000000 in
theorem drawSamePlaces_c (xs : List Int) (hx : ∀ x ∈ xs, 0 ≤ x ∧ x < 256) : ACalls Try.prog 59 [.sl (bys xs)] [] [] (fun r L => L = [] ∧ ∃ (k : Work) (p q : Plan), r = .tup [.agg k.cs, .agg p.cs, .agg q.cs] ∧ k.Small) := by
  have hx' := take_byte hx
  have hl' : (xs.take 2000).length ≤ 2000 := by rw [List.length_take]; omega
  refine acalls_tm T_tt Try.func59 rfl e_drawSamePlaces 49 rfl (W8 _ .any .any .any .any .any .any .any (W8 .any .any .any .any .any .any .any .any (W8 .any .any .any .any .any .any .any .any (W8 .any .any .any .any .any .any .any .any (W8 .any .any .any .any .any .any .any .any (W8 .any .any .any .any .any .any .any .any [.any, .any])))))) rfl (rv := [.cell 2 34, .cell 3 38, .cell 4 38]) rfl (sx_sound (bl := []) T_tt _ _ _ ?_)
  simp (disch := omega) only [SX0, SX1, SX2, SX3, SX4, SX5, SX6, SX7, SX8, SU0, SY0, SY1, Nat.reduceAdd, Nat.reduceMul, Nat.reduceSub, Nat.reduceLeDiff, Nat.reduceEqDiff, Nat.reduceLT, Nat.reduceBEq, ↓reduceIte, Int.reduceLE, Int.reduceLT, Int.reduceToNat, Int.reduceNeg, reduceCtorEq, Int.reduceEq, SF0, SF1, SF2, DWc0, DWb0, DWa0, DLa0, DCg0, DCe0, DCe1, DCe2, DDb0, DBc0, DBc1, DKa0, DHb0, DHb1, DHa0, DDe0]
  refine acall_own (newReader_c xs) [] [] (by simp only [SX0, SX1, SX2, SX3, SX4, SX5, SX6, SX7, SX8, SU0, SY0, SY1, Nat.reduceAdd, Nat.reduceMul, Nat.reduceSub, Nat.reduceLeDiff, Nat.reduceEqDiff, Nat.reduceLT, Nat.reduceBEq, ↓reduceIte, Int.reduceLE, Int.reduceLT, Int.reduceToNat, Int.reduceNeg, reduceCtorEq, Int.reduceEq, SF0, SF1, SF2, DWc0, DWb0, DWa0, DLa0, DCg0, DCe0, DCe1, DCe2, DDb0, DBc0, DBc1, DKa0, DHb0, DHb1, DHa0, DDe0, SX0]) (by decide) (by decide) (by rfl) (by simp only [SX0, SX1, SX2, SX3, SX4, SX5, SX6, SX7, SX8, SU0, SY0, SY1, Nat.reduceAdd, Nat.reduceMul, Nat.reduceSub, Nat.reduceLeDiff, Nat.reduceEqDiff, Nat.reduceLT, Nat.reduceBEq, ↓reduceIte, Int.reduceLE, Int.reduceLT, Int.reduceToNat, Int.reduceNeg, reduceCtorEq, Int.reduceEq, SF0, SF1, SF2, DWc0, DWb0, DWa0, DLa0, DCg0, DCe0, DCe1, DCe2, DDb0, DBc0, DBc1, DKa0, DHb0, DHb1, DHa0, DDe0, SX0]) ?_
  rintro _ _ ⟨rfl, rfl⟩
  simp (disch := omega) only [SX0, SX1, SX2, SX3, SX4, SX5, SX6, SX7, SX8, SU0, SY0, SY1, Nat.reduceAdd, Nat.reduceMul, Nat.reduceSub, Nat.reduceLeDiff, Nat.reduceEqDiff, Nat.reduceLT, Nat.reduceBEq, ↓reduceIte, Int.reduceLE, Int.reduceLT, Int.reduceToNat, Int.reduceNeg, reduceCtorEq, Int.reduceEq, SF0, SF1, SF2, DWc0, DWb0, DWa0, DLa0, DCg0, DCe0, DCe1, DCe2, DDb0, DBc0, DBc1, DKa0, DHb0, DHb1, DHa0, DDe0]
  refine acall_own (anyPlan_c _ 0 hx' hl' (by omega)) [3] [] (by simp only [SX0, SX1, SX2, SX3, SX4, SX5, SX6, SX7, SX8, SU0, SY0, SY1, Nat.reduceAdd, Nat.reduceMul, Nat.reduceSub, Nat.reduceLeDiff, Nat.reduceEqDiff, Nat.reduceLT, Nat.reduceBEq, ↓reduceIte, Int.reduceLE, Int.reduceLT, Int.reduceToNat, Int.reduceNeg, reduceCtorEq, Int.reduceEq, SF0, SF1, SF2, DWc0, DWb0, DWa0, DLa0, DCg0, DCe0, DCe1, DCe2, DDb0, DBc0, DBc1, DKa0, DHb0, DHb1, DHa0, DDe0, SX0]) (by decide) (by decide) (by rfl) (by simp only [SX0, SX1, SX2, SX3, SX4, SX5, SX6, SX7, SX8, SU0, SY0, SY1, Nat.reduceAdd, Nat.reduceMul, Nat.reduceSub, Nat.reduceLeDiff, Nat.reduceEqDiff, Nat.reduceLT, Nat.reduceBEq, ↓reduceIte, Int.reduceLE, Int.reduceLT, Int.reduceToNat, Int.reduceNeg, reduceCtorEq, Int.reduceEq, SF0, SF1, SF2, DWc0, DWb0, DWa0, DLa0, DCg0, DCe0, DCe1, DCe2, DDb0, DBc0, DBc1, DKa0, DHb0, DHb1, DHa0, DDe0, SX0]) ?_
  rintro _ _ ⟨k, p, p1, rfl, rfl, hk, hp, hp1, hkw⟩
  have hkl : k.Ps.length < 2 ^ 40 := by have := hk.2.2.1; omega
  simp (disch := omega) only [SX0, SX1, SX2, SX3, SX4, SX5, SX6, SX7, SX8, SU0, SY0, SY1, Nat.reduceAdd, Nat.reduceMul, Nat.reduceSub, Nat.reduceLeDiff, Nat.reduceEqDiff, Nat.reduceLT, Nat.reduceBEq, ↓reduceIte, Int.reduceLE, Int.reduceLT, Int.reduceToNat, Int.reduceNeg, reduceCtorEq, Int.reduceEq, SF0, SF1, SF2, DWc0, DWb0, DWa0, DLa0, DCg0, DCe0, DCe1, DCe2, DDb0, DBc0, DBc1, DKa0, DHb0, DHb1, DHa0, DDe0]
  refine acall_one (validPlanS_c k p hkl) (by simp [freeL, AV.free, Plan.free, Work.free]) rfl ?_
  simp (disch := omega) only [SX0, SX1, SX2, SX3, SX4, SX5, SX6, SX7, SX8, SU0, SY0, SY1, Nat.reduceAdd, Nat.reduceMul, Nat.reduceSub, Nat.reduceLeDiff, Nat.reduceEqDiff, Nat.reduceLT, Nat.reduceBEq, ↓reduceIte, Int.reduceLE, Int.reduceLT, Int.reduceToNat, Int.reduceNeg, reduceCtorEq, Int.reduceEq, SF0, SF1, SF2, DWc0, DWb0, DWa0, DLa0, DCg0, DCe0, DCe1, DCe2, DDb0, DBc0, DBc1, DKa0, DHb0, DHb1, DHa0, DDe0]
  refine br_dec (fun hv => ?_) (fun hv => ?_)
  · have hsh := Work.sheet_sane hv.1
    unfold Box.sane at hsh
    have hfit := hv.2.2
    have hpn := Plan.places_in k p hv.2.1.1 k.sheet (Work.sheet_sane hv.1) hv.2.2
    have hpl := places_le hv
    obtain ⟨q, ok, PF⟩ := planForS_n 400 (p.places k.sheet) k.sheet (by omega) (fun q hq => by
      have h1 := (hpn q hq).1
      unfold Box.sane at h1
      unfold Box.near
      omega) (by omega) (by omega) (by omega)
    have hsc : k.sheet.cs = [AV.val (.int .i64 0), .val (.int .i64 0), .val (.int .i64 k.W), .val (.int .i64 k.H)] := rfl
    rw [hsc] at PF
    simp (disch := omega) only [SX0, SX1, SX2, SX3, SX4, SX5, SX6, SX7, SX8, SU0, SY0, SY1, Nat.reduceAdd, Nat.reduceMul, Nat.reduceSub, Nat.reduceLeDiff, Nat.reduceEqDiff, Nat.reduceLT, Nat.reduceBEq, ↓reduceIte, Int.reduceLE, Int.reduceLT, Int.reduceToNat, Int.reduceNeg, reduceCtorEq, Int.reduceEq, SF0, SF1, SF2, DWc0, DWb0, DWa0, DLa0, DCg0, DCe0, DCe1, DCe2, DDb0, DBc0, DBc1, DKa0, DHb0, DHb1, DHa0, DDe0]
    refine pick_call hx' hl' (by omega) rfl fun u hu1 hu2 hu3 => ?_
    simp (disch := omega) only [SX0, SX1, SX2, SX3, SX4, SX5, SX6, SX7, SX8, SU0, SY0, SY1, Nat.reduceAdd, Nat.reduceMul, Nat.reduceSub, Nat.reduceLeDiff, Nat.reduceEqDiff, Nat.reduceLT, Nat.reduceBEq, ↓reduceIte, Int.reduceLE, Int.reduceLT, Int.reduceToNat, Int.reduceNeg, reduceCtorEq, Int.reduceEq, SF0, SF1, SF2, DWc0, DWb0, DWa0, DLa0, DCg0, DCe0, DCe1, DCe2, DDb0, DBc0, DBc1, DKa0, DHb0, DHb1, DHa0, DDe0]
    refine br_dec (fun h1 => ?_) (fun h1 => ?_)
    · simp (disch := omega) only [SX0, SX1, SX2, SX3, SX4, SX5, SX6, SX7, SX8, SU0, SY0, SY1, Nat.reduceAdd, Nat.reduceMul, Nat.reduceSub, Nat.reduceLeDiff, Nat.reduceEqDiff, Nat.reduceLT, Nat.reduceBEq, ↓reduceIte, Int.reduceLE, Int.reduceLT, Int.reduceToNat, Int.reduceNeg, reduceCtorEq, Int.reduceEq, SF0, SF1, SF2, DWc0, DWb0, DWa0, DLa0, DCg0, DCe0, DCe1, DCe2, DDb0, DBc0, DBc1, DKa0, DHb0, DHb1, DHa0, DDe0]
      refine awp_float (bl := []) T_tt mixed [0, 1, 2, 3, 4, 5] [0, 1, 2, 3, 4, 5, 6, 7, 8, 9, 10, 11] [(13, [(0, .f 26), (1, .f 27), (2, .f 28), (3, .f 29), (4, .f 30), (5, .f 31), (6, .f 32), (7, .f 33), (8, .f 34), (9, .f 25), (10, .f 35), (12, .a 8 38)]), (14, [(11, .f 36)])] [] (by kernel_rfl) (by kernel_rfl) ?_
      simp (disch := omega) only [SX0, SX1, SX2, SX3, SX4, SX5, SX6, SX7, SX8, SU0, SY0, SY1, Nat.reduceAdd, Nat.reduceMul, Nat.reduceSub, Nat.reduceLeDiff, Nat.reduceEqDiff, Nat.reduceLT, Nat.reduceBEq, ↓reduceIte, Int.reduceLE, Int.reduceLT, Int.reduceToNat, Int.reduceNeg, reduceCtorEq, Int.reduceEq, SF0, SF1, SF2, DWc0, DWb0, DWa0, DLa0, DCg0, DCe0, DCe1, DCe2, DDb0, DBc0, DBc1, DKa0, DHb0, DHb1, DHa0, DDe0]
      refine qc_one (placesOfS_c k p hv) (by simp [freeL, AV.free, Plan.free, Work.free]) ?_
      simp (disch := omega) only [SX0, SX1, SX2, SX3, SX4, SX5, SX6, SX7, SX8, SU0, SY0, SY1, Nat.reduceAdd, Nat.reduceMul, Nat.reduceSub, Nat.reduceLeDiff, Nat.reduceEqDiff, Nat.reduceLT, Nat.reduceBEq, ↓reduceIte, Int.reduceLE, Int.reduceLT, Int.reduceToNat, Int.reduceNeg, reduceCtorEq, Int.reduceEq, SF0, SF1, SF2, DWc0, DWb0, DWa0, DLa0, DCg0, DCe0, DCe1, DCe2, DDb0, DBc0, DBc1, DKa0, DHb0, DHb1, DHa0, DDe0]
      refine qc_one PF rfl ?_
      simp (disch := omega) only [SX0, SX1, SX2, SX3, SX4, SX5, SX6, SX7, SX8, SU0, SY0, SY1, Nat.reduceAdd, Nat.reduceMul, Nat.reduceSub, Nat.reduceLeDiff, Nat.reduceEqDiff, Nat.reduceLT, Nat.reduceBEq, ↓reduceIte, Int.reduceLE, Int.reduceLT, Int.reduceToNat, Int.reduceNeg, reduceCtorEq, Int.reduceEq, SF0, SF1, SF2, DWc0, DWb0, DWa0, DLa0, DCg0, DCe0, DCe1, DCe2, DDb0, DBc0, DBc1, DKa0, DHb0, DHb1, DHa0, DDe0]
      refine awp_float (bl := []) T_tt mixed [0, 1, 2, 3, 4, 5, 6] [0, 1, 2] [(3, [(0, .f 37)]), (4, [(1, .f 38)]), (5, [(2, .f 39)])] [] (by kernel_rfl) (by kernel_rfl) ?_
      simp (disch := omega) only [SX0, SX1, SX2, SX3, SX4, SX5, SX6, SX7, SX8, SU0, SY0, SY1, Nat.reduceAdd, Nat.reduceMul, Nat.reduceSub, Nat.reduceLeDiff, Nat.reduceEqDiff, Nat.reduceLT, Nat.reduceBEq, ↓reduceIte, Int.reduceLE, Int.reduceLT, Int.reduceToNat, Int.reduceNeg, reduceCtorEq, Int.reduceEq, SF0, SF1, SF2, DWc0, DWb0, DWa0, DLa0, DCg0, DCe0, DCe1, DCe2, DDb0, DBc0, DBc1, DKa0, DHb0, DHb1, DHa0, DDe0]
      exact fin_free (by simp [AV.free, freeL, Work.free, Plan.free]) ⟨rfl, k, p, q, rfl, hk⟩
    simp (disch := omega) only [SX0, SX1, SX2, SX3, SX4, SX5, SX6, SX7, SX8, SU0, SY0, SY1, Nat.reduceAdd, Nat.reduceMul, Nat.reduceSub, Nat.reduceLeDiff, Nat.reduceEqDiff, Nat.reduceLT, Nat.reduceBEq, ↓reduceIte, Int.reduceLE, Int.reduceLT, Int.reduceToNat, Int.reduceNeg, reduceCtorEq, Int.reduceEq, SF0, SF1, SF2, DWc0, DWb0, DWa0, DLa0, DCg0, DCe0, DCe1, DCe2, DDb0, DBc0, DBc1, DKa0, DHb0, DHb1, DHa0, DDe0]
    refine pick_call hx' hl' (by omega) rfl fun u2 hu1 hu2 hu3 => ?_
    simp (disch := omega) only [SX0, SX1, SX2, SX3, SX4, SX5, SX6, SX7, SX8, SU0, SY0, SY1, Nat.reduceAdd, Nat.reduceMul, Nat.reduceSub, Nat.reduceLeDiff, Nat.reduceEqDiff, Nat.reduceLT, Nat.reduceBEq, ↓reduceIte, Int.reduceLE, Int.reduceLT, Int.reduceToNat, Int.reduceNeg, reduceCtorEq, Int.reduceEq, SF0, SF1, SF2, DWc0, DWb0, DWa0, DLa0, DCg0, DCe0, DCe1, DCe2, DDb0, DBc0, DBc1, DKa0, DHb0, DHb1, DHa0, DDe0]
    refine br_dec (fun h2 => ?_) (fun h2 => ?_)
    · simp (disch := omega) only [SX0, SX1, SX2, SX3, SX4, SX5, SX6, SX7, SX8, SU0, SY0, SY1, Nat.reduceAdd, Nat.reduceMul, Nat.reduceSub, Nat.reduceLeDiff, Nat.reduceEqDiff, Nat.reduceLT, Nat.reduceBEq, ↓reduceIte, Int.reduceLE, Int.reduceLT, Int.reduceToNat, Int.reduceNeg, reduceCtorEq, Int.reduceEq, SF0, SF1, SF2, DWc0, DWb0, DWa0, DLa0, DCg0, DCe0, DCe1, DCe2, DDb0, DBc0, DBc1, DKa0, DHb0, DHb1, DHa0, DDe0]
      refine awp_float (bl := []) T_tt mixed [0, 1, 2, 3, 4, 5] [0, 1, 2] [(3, [(2, .f 45)]), (4, [(0, .f 43)]), (5, [(1, .f 44)]), (6, [])] [] (by kernel_rfl) (by kernel_rfl) ?_
      simp (disch := omega) only [SX0, SX1, SX2, SX3, SX4, SX5, SX6, SX7, SX8, SU0, SY0, SY1, Nat.reduceAdd, Nat.reduceMul, Nat.reduceSub, Nat.reduceLeDiff, Nat.reduceEqDiff, Nat.reduceLT, Nat.reduceBEq, ↓reduceIte, Int.reduceLE, Int.reduceLT, Int.reduceToNat, Int.reduceNeg, reduceCtorEq, Int.reduceEq, SF0, SF1, SF2, DWc0, DWb0, DWa0, DLa0, DCg0, DCe0, DCe1, DCe2, DDb0, DBc0, DBc1, DKa0, DHb0, DHb1, DHa0, DDe0]
      refine acall_own (prunePlanS_c p) [] [] (by simp only [SX0, SX1, SX2, SX3, SX4, SX5, SX6, SX7, SX8, SU0, SY0, SY1, Nat.reduceAdd, Nat.reduceMul, Nat.reduceSub, Nat.reduceLeDiff, Nat.reduceEqDiff, Nat.reduceLT, Nat.reduceBEq, ↓reduceIte, Int.reduceLE, Int.reduceLT, Int.reduceToNat, Int.reduceNeg, reduceCtorEq, Int.reduceEq, SF0, SF1, SF2, DWc0, DWb0, DWa0, DLa0, DCg0, DCe0, DCe1, DCe2, DDb0, DBc0, DBc1, DKa0, DHb0, DHb1, DHa0, DDe0, SX0]) (by decide) (by decide) (by rfl) (by simp only [SX0, SX1, SX2, SX3, SX4, SX5, SX6, SX7, SX8, SU0, SY0, SY1, Nat.reduceAdd, Nat.reduceMul, Nat.reduceSub, Nat.reduceLeDiff, Nat.reduceEqDiff, Nat.reduceLT, Nat.reduceBEq, ↓reduceIte, Int.reduceLE, Int.reduceLT, Int.reduceToNat, Int.reduceNeg, reduceCtorEq, Int.reduceEq, SF0, SF1, SF2, DWc0, DWb0, DWa0, DLa0, DCg0, DCe0, DCe1, DCe2, DDb0, DBc0, DBc1, DKa0, DHb0, DHb1, DHa0, DDe0, SX0]) ?_
      rintro _ _ ⟨q, rfl, rfl⟩
      simp (disch := omega) only [SX0, SX1, SX2, SX3, SX4, SX5, SX6, SX7, SX8, SU0, SY0, SY1, Nat.reduceAdd, Nat.reduceMul, Nat.reduceSub, Nat.reduceLeDiff, Nat.reduceEqDiff, Nat.reduceLT, Nat.reduceBEq, ↓reduceIte, Int.reduceLE, Int.reduceLT, Int.reduceToNat, Int.reduceNeg, reduceCtorEq, Int.reduceEq, SF0, SF1, SF2, DWc0, DWb0, DWa0, DLa0, DCg0, DCe0, DCe1, DCe2, DDb0, DBc0, DBc1, DKa0, DHb0, DHb1, DHa0, DDe0]
      exact fin_free (by simp [AV.free, freeL, Work.free, Plan.free]) ⟨rfl, k, p, q, rfl, hk⟩
    · simp (disch := omega) only [SX0, SX1, SX2, SX3, SX4, SX5, SX6, SX7, SX8, SU0, SY0, SY1, Nat.reduceAdd, Nat.reduceMul, Nat.reduceSub, Nat.reduceLeDiff, Nat.reduceEqDiff, Nat.reduceLT, Nat.reduceBEq, ↓reduceIte, Int.reduceLE, Int.reduceLT, Int.reduceToNat, Int.reduceNeg, reduceCtorEq, Int.reduceEq, SF0, SF1, SF2, DWc0, DWb0, DWa0, DLa0, DCg0, DCe0, DCe1, DCe2, DDb0, DBc0, DBc1, DKa0, DHb0, DHb1, DHa0, DDe0]
      refine awp_float (bl := []) T_tt mixed [0, 1, 2, 3, 4, 5] [0, 1, 2] [(3, [(0, .f 47)]), (4, [(1, .f 48)]), (5, [(2, .f 49)])] [] (by kernel_rfl) (by kernel_rfl) ?_
      simp (disch := omega) only [SX0, SX1, SX2, SX3, SX4, SX5, SX6, SX7, SX8, SU0, SY0, SY1, Nat.reduceAdd, Nat.reduceMul, Nat.reduceSub, Nat.reduceLeDiff, Nat.reduceEqDiff, Nat.reduceLT, Nat.reduceBEq, ↓reduceIte, Int.reduceLE, Int.reduceLT, Int.reduceToNat, Int.reduceNeg, reduceCtorEq, Int.reduceEq, SF0, SF1, SF2, DWc0, DWb0, DWa0, DLa0, DCg0, DCe0, DCe1, DCe2, DDb0, DBc0, DBc1, DKa0, DHb0, DHb1, DHa0, DDe0]
      refine fin_nrm ?_
      simp only [AV.nrm, nrmL, Work.nrmd, Plan.nrmd]
      exact fin_free (by simp [AV.free, freeL, Work.free, Plan.free]) ⟨rfl, k, p, .zero, by rw [Plan.zero_cs], hk⟩
  · simp (disch := omega) only [SX0, SX1, SX2, SX3, SX4, SX5, SX6, SX7, SX8, SU0, SY0, SY1, Nat.reduceAdd, Nat.reduceMul, Nat.reduceSub, Nat.reduceLeDiff, Nat.reduceEqDiff, Nat.reduceLT, Nat.reduceBEq, ↓reduceIte, Int.reduceLE, Int.reduceLT, Int.reduceToNat, Int.reduceNeg, reduceCtorEq, Int.reduceEq, SF0, SF1, SF2, DWc0, DWb0, DWa0, DLa0, DCg0, DCe0, DCe1, DCe2, DDb0, DBc0, DBc1, DKa0, DHb0, DHb1, DHa0, DDe0]
    refine pick_call hx' hl' (by omega) rfl fun u2 hu1 hu2 hu3 => ?_
    simp (disch := omega) only [SX0, SX1, SX2, SX3, SX4, SX5, SX6, SX7, SX8, SU0, SY0, SY1, Nat.reduceAdd, Nat.reduceMul, Nat.reduceSub, Nat.reduceLeDiff, Nat.reduceEqDiff, Nat.reduceLT, Nat.reduceBEq, ↓reduceIte, Int.reduceLE, Int.reduceLT, Int.reduceToNat, Int.reduceNeg, reduceCtorEq, Int.reduceEq, SF0, SF1, SF2, DWc0, DWb0, DWa0, DLa0, DCg0, DCe0, DCe1, DCe2, DDb0, DBc0, DBc1, DKa0, DHb0, DHb1, DHa0, DDe0]
    refine br_dec (fun h2 => ?_) (fun h2 => ?_)
    · simp (disch := omega) only [SX0, SX1, SX2, SX3, SX4, SX5, SX6, SX7, SX8, SU0, SY0, SY1, Nat.reduceAdd, Nat.reduceMul, Nat.reduceSub, Nat.reduceLeDiff, Nat.reduceEqDiff, Nat.reduceLT, Nat.reduceBEq, ↓reduceIte, Int.reduceLE, Int.reduceLT, Int.reduceToNat, Int.reduceNeg, reduceCtorEq, Int.reduceEq, SF0, SF1, SF2, DWc0, DWb0, DWa0, DLa0, DCg0, DCe0, DCe1, DCe2, DDb0, DBc0, DBc1, DKa0, DHb0, DHb1, DHa0, DDe0]
      refine awp_float (bl := []) T_tt mixed [0, 1, 2, 3, 4, 5] [0, 1, 2] [(3, [(2, .f 45)]), (4, [(0, .f 43)]), (5, [(1, .f 44)]), (6, [])] [] (by kernel_rfl) (by kernel_rfl) ?_
      simp (disch := omega) only [SX0, SX1, SX2, SX3, SX4, SX5, SX6, SX7, SX8, SU0, SY0, SY1, Nat.reduceAdd, Nat.reduceMul, Nat.reduceSub, Nat.reduceLeDiff, Nat.reduceEqDiff, Nat.reduceLT, Nat.reduceBEq, ↓reduceIte, Int.reduceLE, Int.reduceLT, Int.reduceToNat, Int.reduceNeg, reduceCtorEq, Int.reduceEq, SF0, SF1, SF2, DWc0, DWb0, DWa0, DLa0, DCg0, DCe0, DCe1, DCe2, DDb0, DBc0, DBc1, DKa0, DHb0, DHb1, DHa0, DDe0]
      refine acall_own (prunePlanS_c p) [] [] (by simp only [SX0, SX1, SX2, SX3, SX4, SX5, SX6, SX7, SX8, SU0, SY0, SY1, Nat.reduceAdd, Nat.reduceMul, Nat.reduceSub, Nat.reduceLeDiff, Nat.reduceEqDiff, Nat.reduceLT, Nat.reduceBEq, ↓reduceIte, Int.reduceLE, Int.reduceLT, Int.reduceToNat, Int.reduceNeg, reduceCtorEq, Int.reduceEq, SF0, SF1, SF2, DWc0, DWb0, DWa0, DLa0, DCg0, DCe0, DCe1, DCe2, DDb0, DBc0, DBc1, DKa0, DHb0, DHb1, DHa0, DDe0, SX0]) (by decide) (by decide) (by rfl) (by simp only [SX0, SX1, SX2, SX3, SX4, SX5, SX6, SX7, SX8, SU0, SY0, SY1, Nat.reduceAdd, Nat.reduceMul, Nat.reduceSub, Nat.reduceLeDiff, Nat.reduceEqDiff, Nat.reduceLT, Nat.reduceBEq, ↓reduceIte, Int.reduceLE, Int.reduceLT, Int.reduceToNat, Int.reduceNeg, reduceCtorEq, Int.reduceEq, SF0, SF1, SF2, DWc0, DWb0, DWa0, DLa0, DCg0, DCe0, DCe1, DCe2, DDb0, DBc0, DBc1, DKa0, DHb0, DHb1, DHa0, DDe0, SX0]) ?_
      rintro _ _ ⟨q, rfl, rfl⟩
      simp (disch := omega) only [SX0, SX1, SX2, SX3, SX4, SX5, SX6, SX7, SX8, SU0, SY0, SY1, Nat.reduceAdd, Nat.reduceMul, Nat.reduceSub, Nat.reduceLeDiff, Nat.reduceEqDiff, Nat.reduceLT, Nat.reduceBEq, ↓reduceIte, Int.reduceLE, Int.reduceLT, Int.reduceToNat, Int.reduceNeg, reduceCtorEq, Int.reduceEq, SF0, SF1, SF2, DWc0, DWb0, DWa0, DLa0, DCg0, DCe0, DCe1, DCe2, DDb0, DBc0, DBc1, DKa0, DHb0, DHb1, DHa0, DDe0]
      exact fin_free (by simp [AV.free, freeL, Work.free, Plan.free]) ⟨rfl, k, p, q, rfl, hk⟩
    · simp (disch := omega) only [SX0, SX1, SX2, SX3, SX4, SX5, SX6, SX7, SX8, SU0, SY0, SY1, Nat.reduceAdd, Nat.reduceMul, Nat.reduceSub, Nat.reduceLeDiff, Nat.reduceEqDiff, Nat.reduceLT, Nat.reduceBEq, ↓reduceIte, Int.reduceLE, Int.reduceLT, Int.reduceToNat, Int.reduceNeg, reduceCtorEq, Int.reduceEq, SF0, SF1, SF2, DWc0, DWb0, DWa0, DLa0, DCg0, DCe0, DCe1, DCe2, DDb0, DBc0, DBc1, DKa0, DHb0, DHb1, DHa0, DDe0]
      refine awp_float (bl := []) T_tt mixed [0, 1, 2, 3, 4, 5] [0, 1, 2] [(3, [(0, .f 47)]), (4, [(1, .f 48)]), (5, [(2, .f 49)])] [] (by kernel_rfl) (by kernel_rfl) ?_
      simp (disch := omega) only [SX0, SX1, SX2, SX3, SX4, SX5, SX6, SX7, SX8, SU0, SY0, SY1, Nat.reduceAdd, Nat.reduceMul, Nat.reduceSub, Nat.reduceLeDiff, Nat.reduceEqDiff, Nat.reduceLT, Nat.reduceBEq, ↓reduceIte, Int.reduceLE, Int.reduceLT, Int.reduceToNat, Int.reduceNeg, reduceCtorEq, Int.reduceEq, SF0, SF1, SF2, DWc0, DWb0, DWa0, DLa0, DCg0, DCe0, DCe1, DCe2, DDb0, DBc0, DBc1, DKa0, DHb0, DHb1, DHa0, DDe0]
      refine fin_nrm ?_
      simp only [AV.nrm, nrmL, Work.nrmd, Plan.nrmd]
      exact fin_free (by simp [AV.free, freeL, Work.free, Plan.free]) ⟨rfl, k, p, .zero, by rw [Plan.zero_cs], hk⟩

/-! ### The plain law -/

theorem Box.meets_self {b : Box} (h : b.sane) : b.meets b := by
  have ho := Box.sane_ok h
  refine ⟨ho, ho, ?_⟩
  unfold Box.sane at h
  unfold Box.meet
  simp only
  omega
theorem places_nodup {p : Plan} {k : Work} (hv : p.valid k) : (p.places k.sheet).Nodup := by
  have ha := Plan.all_apart k p hv.2.1.1 k.sheet (Work.sheet_sane hv.1) hv.2.2
  have hi := Plan.places_in k p hv.2.1.1 k.sheet (Work.sheet_sane hv.1) hv.2.2
  have h1 := (List.pairwise_append.1 ha).1
  rw [List.pairwise_map] at h1
  refine List.Pairwise.imp_of_mem (fun {a b} hma hmb hab => ?_) h1
  exact fun e => by subst e; exact hab (Box.meets_self (hi a hma).1)
theorem same_back {l m : List Place} (hl : l.Nodup) (h : sameL l m) : ∀ a ∈ m, a ∈ l := fun a ha => Classical.byContradiction fun hn => by
  have h1 : (a :: l).Nodup := List.nodup_cons.2 ⟨hn, hl⟩
  have h2 := nodup_sub (m := m) h1 (fun x hx => by
    rcases List.mem_cons.1 hx with rfl | hx
    · exact ha
    · exact h.2 x hx)
  have := h.1
  simp at h2
  omega
theorem same_symm {l m : List Place} (hl : l.Nodup) (hm : m.Nodup) : sameL l m ↔ sameL m l :=
  ⟨fun h => ⟨h.1.symm, same_back hl h⟩, fun h => ⟨h.1.symm, same_back hm h⟩⟩
theorem count_le {l m : List Place} (hl : l.Nodup) (h : ∀ a ∈ l, a ∈ m) (j : Int) : l.countP (fun q : Place => decide (q.pa = j)) ≤ m.countP (fun q : Place => decide (q.pa = j)) := by
  rw [List.countP_eq_length_filter, List.countP_eq_length_filter]
  refine nodup_sub (hl.filter _) fun x hx => ?_
  rw [List.mem_filter] at hx ⊢
  exact ⟨h x hx.1, hx.2⟩
theorem same_used {k : Work} {p q : Plan} (h : p.same q k) : p.used k = q.used k := by
  have hp := h.1.1
  have hq := h.1.2
  unfold Plan.used
  rw [if_pos hp, if_pos hq]
  unfold cnts
  refine List.map_congr_left fun j _ => ?_
  have h1 := count_le (places_nodup hp) h.2.2 (j : Int)
  have h2 := count_le (places_nodup hq) (same_back (places_nodup hp) h.2) (j : Int)
  rw [Nat.le_antisymm h1 h2]

theorem e_fnSamePlaces : Enters Try.prog 12 := enters_of Try.func12 (by kernel_rfl) (by kernel_rfl)
set_option maxRecDepth 8000 in
set_option maxHeartbeats 4000000 in
theorem fnSamePlaces_c : LawC 12 := by
  intro xs hx hl
  refine acalls_tm T_tt Try.func12 rfl e_fnSamePlaces 68 rfl (W8 _ .any .any .any .any .any .any .any (W8 .any .any .any .any .any .any .any .any (W8 .any .any .any .any .any .any .any .any (W8 .any .any .any .any .any .any .any .any (W8 .any .any .any .any .any .any .any .any (W8 .any .any .any .any .any .any .any .any (W8 .any .any .any .any .any .any .any .any (W8 .any .any .any .any .any .any .any .any [.any, .any, .any, .any, .any])))))))) rfl (rv := [.tmp 2]) rfl (sx_sound (bl := []) T_tt _ _ _ ?_)
  simp (disch := omega) only [SX0, SX1, SX2, SX3, SX4, SX5, SX6, SX7, SX8, SU0, SY0, SY1, Nat.reduceAdd, Nat.reduceMul, Nat.reduceSub, Nat.reduceLeDiff, Nat.reduceEqDiff, Nat.reduceLT, Nat.reduceBEq, ↓reduceIte, Int.reduceLE, Int.reduceLT, Int.reduceToNat, Int.reduceNeg, reduceCtorEq, Int.reduceEq, SF0, SF1, SF2, DWc0, DWb0, DWa0, DLa0, DCg0, DCe0, DCe1, DCe2, DDb0, DBc0, DBc1, DKa0, DHb0, DHb1, DHa0, DDe0, bysLen]
  refine br_dec (fun h1 => ?_) (fun h1 => ?_)
  · simp (disch := omega) only [SX0, SX1, SX2, SX3, SX4, SX5, SX6, SX7, SX8, SU0, SY0, SY1, Nat.reduceAdd, Nat.reduceMul, Nat.reduceSub, Nat.reduceLeDiff, Nat.reduceEqDiff, Nat.reduceLT, Nat.reduceBEq, ↓reduceIte, Int.reduceLE, Int.reduceLT, Int.reduceToNat, Int.reduceNeg, reduceCtorEq, Int.reduceEq, SF0, SF1, SF2, DWc0, DWb0, DWa0, DLa0, DCg0, DCe0, DCe1, DCe2, DDb0, DBc0, DBc1, DKa0, DHb0, DHb1, DHa0, DDe0]
    exact fin_val ⟨rfl, rfl⟩
  simp (disch := omega) only [SX0, SX1, SX2, SX3, SX4, SX5, SX6, SX7, SX8, SU0, SY0, SY1, Nat.reduceAdd, Nat.reduceMul, Nat.reduceSub, Nat.reduceLeDiff, Nat.reduceEqDiff, Nat.reduceLT, Nat.reduceBEq, ↓reduceIte, Int.reduceLE, Int.reduceLT, Int.reduceToNat, Int.reduceNeg, reduceCtorEq, Int.reduceEq, SF0, SF1, SF2, DWc0, DWb0, DWa0, DLa0, DCg0, DCe0, DCe1, DCe2, DDb0, DBc0, DBc1, DKa0, DHb0, DHb1, DHa0, DDe0]
  refine acall_own (drawSamePlaces_c xs hx) [] [] (by simp only [SX0, SX1, SX2, SX3, SX4, SX5, SX6, SX7, SX8, SU0, SY0, SY1, Nat.reduceAdd, Nat.reduceMul, Nat.reduceSub, Nat.reduceLeDiff, Nat.reduceEqDiff, Nat.reduceLT, Nat.reduceBEq, ↓reduceIte, Int.reduceLE, Int.reduceLT, Int.reduceToNat, Int.reduceNeg, reduceCtorEq, Int.reduceEq, SF0, SF1, SF2, DWc0, DWb0, DWa0, DLa0, DCg0, DCe0, DCe1, DCe2, DDb0, DBc0, DBc1, DKa0, DHb0, DHb1, DHa0, DDe0, SX0]) (by decide) (by decide) (by rfl) (by simp only [SX0, SX1, SX2, SX3, SX4, SX5, SX6, SX7, SX8, SU0, SY0, SY1, Nat.reduceAdd, Nat.reduceMul, Nat.reduceSub, Nat.reduceLeDiff, Nat.reduceEqDiff, Nat.reduceLT, Nat.reduceBEq, ↓reduceIte, Int.reduceLE, Int.reduceLT, Int.reduceToNat, Int.reduceNeg, reduceCtorEq, Int.reduceEq, SF0, SF1, SF2, DWc0, DWb0, DWa0, DLa0, DCg0, DCe0, DCe1, DCe2, DDb0, DBc0, DBc1, DKa0, DHb0, DHb1, DHa0, DDe0, SX0]) ?_
  rintro _ _ ⟨rfl, k, p, q, rfl, hk⟩
  have hk24 := hk.2.2.1
  have hkl : k.Ps.length < 2 ^ 40 := by omega
  have S1 := samePlacesG_c k p q hkl
  have S2 := samePlacesSS_c k p q hkl
  have V1 := validPlanI_c k p hkl
  have V2 := validPlanI_c k q hkl
  by_cases hp : p.valid k
  · by_cases hq : q.valid k
    · rw [decide_eq_true hp] at V1
      rw [decide_eq_true hq] at V2
      have hsym : p.same q k ↔ q.same p k := ⟨fun h => ⟨⟨hq, hp⟩, (same_symm (places_nodup hp) (places_nodup hq)).1 h.2⟩, fun h => ⟨⟨hp, hq⟩, (same_symm (places_nodup hp) (places_nodup hq)).2 h.2⟩⟩
      have S3 := samePlacesG_c k q p hkl
      have e3 : decide (q.same p k) = decide (p.same q k) := by simp only [hsym]
      rw [e3] at S3
      have S4 := samePlacesG_c k p p hkl
      have hself : p.same p k := ⟨⟨hp, hp⟩, rfl, fun a h => h⟩
      rw [decide_eq_true hself] at S4
      have hul : (p.used k).length < 2 ^ 40 := by unfold Plan.used; rw [if_pos hp, cnts_len]; omega
      have U1 := usedOfI_c k p hkl
      have U2 := usedOfI_c k q hkl
      have E := equalInts_self (p.used k) hul
      by_cases hs : p.same q k
      · rw [← same_used hs] at U2
        rw [decide_eq_true hs] at S1 S2 S3
        simp (disch := omega) only [SX0, SX1, SX2, SX3, SX4, SX5, SX6, SX7, SX8, SU0, SY0, SY1, Nat.reduceAdd, Nat.reduceMul, Nat.reduceSub, Nat.reduceLeDiff, Nat.reduceEqDiff, Nat.reduceLT, Nat.reduceBEq, ↓reduceIte, Int.reduceLE, Int.reduceLT, Int.reduceToNat, Int.reduceNeg, reduceCtorEq, Int.reduceEq, SF0, SF1, SF2, DWc0, DWb0, DWa0, DLa0, DCg0, DCe0, DCe1, DCe2, DDb0, DBc0, DBc1, DKa0, DHb0, DHb1, DHa0, DDe0]
        refine acall_one S1 (by simp [freeL, AV.free, Plan.free, Work.free]) rfl ?_
        simp (disch := omega) only [SX0, SX1, SX2, SX3, SX4, SX5, SX6, SX7, SX8, SU0, SY0, SY1, Nat.reduceAdd, Nat.reduceMul, Nat.reduceSub, Nat.reduceLeDiff, Nat.reduceEqDiff, Nat.reduceLT, Nat.reduceBEq, ↓reduceIte, Int.reduceLE, Int.reduceLT, Int.reduceToNat, Int.reduceNeg, reduceCtorEq, Int.reduceEq, SF0, SF1, SF2, DWc0, DWb0, DWa0, DLa0, DCg0, DCe0, DCe1, DCe2, DDb0, DBc0, DBc1, DKa0, DHb0, DHb1, DHa0, DDe0, eq_self, ne_eq, not_true, decide_false, decide_true]
        refine acall_one S2 (by simp [freeL, AV.free, Plan.free, Work.free]) rfl ?_
        simp (disch := omega) only [SX0, SX1, SX2, SX3, SX4, SX5, SX6, SX7, SX8, SU0, SY0, SY1, Nat.reduceAdd, Nat.reduceMul, Nat.reduceSub, Nat.reduceLeDiff, Nat.reduceEqDiff, Nat.reduceLT, Nat.reduceBEq, ↓reduceIte, Int.reduceLE, Int.reduceLT, Int.reduceToNat, Int.reduceNeg, reduceCtorEq, Int.reduceEq, SF0, SF1, SF2, DWc0, DWb0, DWa0, DLa0, DCg0, DCe0, DCe1, DCe2, DDb0, DBc0, DBc1, DKa0, DHb0, DHb1, DHa0, DDe0, eq_self, ne_eq, not_true, decide_false, decide_true]
        refine acall_one V1 (by simp [freeL, AV.free, Plan.free, Work.free]) rfl ?_
        simp (disch := omega) only [SX0, SX1, SX2, SX3, SX4, SX5, SX6, SX7, SX8, SU0, SY0, SY1, Nat.reduceAdd, Nat.reduceMul, Nat.reduceSub, Nat.reduceLeDiff, Nat.reduceEqDiff, Nat.reduceLT, Nat.reduceBEq, ↓reduceIte, Int.reduceLE, Int.reduceLT, Int.reduceToNat, Int.reduceNeg, reduceCtorEq, Int.reduceEq, SF0, SF1, SF2, DWc0, DWb0, DWa0, DLa0, DCg0, DCe0, DCe1, DCe2, DDb0, DBc0, DBc1, DKa0, DHb0, DHb1, DHa0, DDe0]
        refine acall_one V2 (by simp [freeL, AV.free, Plan.free, Work.free]) rfl ?_
        simp (disch := omega) only [SX0, SX1, SX2, SX3, SX4, SX5, SX6, SX7, SX8, SU0, SY0, SY1, Nat.reduceAdd, Nat.reduceMul, Nat.reduceSub, Nat.reduceLeDiff, Nat.reduceEqDiff, Nat.reduceLT, Nat.reduceBEq, ↓reduceIte, Int.reduceLE, Int.reduceLT, Int.reduceToNat, Int.reduceNeg, reduceCtorEq, Int.reduceEq, SF0, SF1, SF2, DWc0, DWb0, DWa0, DLa0, DCg0, DCe0, DCe1, DCe2, DDb0, DBc0, DBc1, DKa0, DHb0, DHb1, DHa0, DDe0]
        refine awp_drawA T_tt mixed (by decide +kernel) (by kernel_rfl) (by kernel_rfl) ?_
        simp (disch := omega) only [SX0, SX1, SX2, SX3, SX4, SX5, SX6, SX7, SX8, SU0, SY0, SY1, Nat.reduceAdd, Nat.reduceMul, Nat.reduceSub, Nat.reduceLeDiff, Nat.reduceEqDiff, Nat.reduceLT, Nat.reduceBEq, ↓reduceIte, Int.reduceLE, Int.reduceLT, Int.reduceToNat, Int.reduceNeg, reduceCtorEq, Int.reduceEq, SF0, SF1, SF2, DWc0, DWb0, DWa0, DLa0, DCg0, DCe0, DCe1, DCe2, DDb0, DBc0, DBc1, DKa0, DHb0, DHb1, DHa0, DDe0]
        refine qc_one S3 (by simp [freeL, AV.free, Plan.free, Work.free]) ?_
        simp (disch := omega) only [SX0, SX1, SX2, SX3, SX4, SX5, SX6, SX7, SX8, SU0, SY0, SY1, Nat.reduceAdd, Nat.reduceMul, Nat.reduceSub, Nat.reduceLeDiff, Nat.reduceEqDiff, Nat.reduceLT, Nat.reduceBEq, ↓reduceIte, Int.reduceLE, Int.reduceLT, Int.reduceToNat, Int.reduceNeg, reduceCtorEq, Int.reduceEq, SF0, SF1, SF2, DWc0, DWb0, DWa0, DLa0, DCg0, DCe0, DCe1, DCe2, DDb0, DBc0, DBc1, DKa0, DHb0, DHb1, DHa0, DDe0, eq_self, decide_true]
        refine qc_one S4 (by simp [freeL, AV.free, Plan.free, Work.free]) ?_
        simp (disch := omega) only [SX0, SX1, SX2, SX3, SX4, SX5, SX6, SX7, SX8, SU0, SY0, SY1, Nat.reduceAdd, Nat.reduceMul, Nat.reduceSub, Nat.reduceLeDiff, Nat.reduceEqDiff, Nat.reduceLT, Nat.reduceBEq, ↓reduceIte, Int.reduceLE, Int.reduceLT, Int.reduceToNat, Int.reduceNeg, reduceCtorEq, Int.reduceEq, SF0, SF1, SF2, DWc0, DWb0, DWa0, DLa0, DCg0, DCe0, DCe1, DCe2, DDb0, DBc0, DBc1, DKa0, DHb0, DHb1, DHa0, DDe0]
        refine qc_one U1 (by simp [freeL, AV.free, Plan.free, Work.free]) ?_
        simp (disch := omega) only [SX0, SX1, SX2, SX3, SX4, SX5, SX6, SX7, SX8, SU0, SY0, SY1, Nat.reduceAdd, Nat.reduceMul, Nat.reduceSub, Nat.reduceLeDiff, Nat.reduceEqDiff, Nat.reduceLT, Nat.reduceBEq, ↓reduceIte, Int.reduceLE, Int.reduceLT, Int.reduceToNat, Int.reduceNeg, reduceCtorEq, Int.reduceEq, SF0, SF1, SF2, DWc0, DWb0, DWa0, DLa0, DCg0, DCe0, DCe1, DCe2, DDb0, DBc0, DBc1, DKa0, DHb0, DHb1, DHa0, DDe0]
        refine qc_one U2 (by simp [freeL, AV.free, Plan.free, Work.free]) ?_
        simp (disch := omega) only [SX0, SX1, SX2, SX3, SX4, SX5, SX6, SX7, SX8, SU0, SY0, SY1, Nat.reduceAdd, Nat.reduceMul, Nat.reduceSub, Nat.reduceLeDiff, Nat.reduceEqDiff, Nat.reduceLT, Nat.reduceBEq, ↓reduceIte, Int.reduceLE, Int.reduceLT, Int.reduceToNat, Int.reduceNeg, reduceCtorEq, Int.reduceEq, SF0, SF1, SF2, DWc0, DWb0, DWa0, DLa0, DCg0, DCe0, DCe1, DCe2, DDb0, DBc0, DBc1, DKa0, DHb0, DHb1, DHa0, DDe0]
        refine qc_one E rfl ?_
        simp (disch := omega) only [SX0, SX1, SX2, SX3, SX4, SX5, SX6, SX7, SX8, SU0, SY0, SY1, Nat.reduceAdd, Nat.reduceMul, Nat.reduceSub, Nat.reduceLeDiff, Nat.reduceEqDiff, Nat.reduceLT, Nat.reduceBEq, ↓reduceIte, Int.reduceLE, Int.reduceLT, Int.reduceToNat, Int.reduceNeg, reduceCtorEq, Int.reduceEq, SF0, SF1, SF2, DWc0, DWb0, DWa0, DLa0, DCg0, DCe0, DCe1, DCe2, DDb0, DBc0, DBc1, DKa0, DHb0, DHb1, DHa0, DDe0]
        exact fin_val ⟨rfl, rfl⟩
      · rw [decide_eq_false hs] at S1 S2 S3
        simp (disch := omega) only [SX0, SX1, SX2, SX3, SX4, SX5, SX6, SX7, SX8, SU0, SY0, SY1, Nat.reduceAdd, Nat.reduceMul, Nat.reduceSub, Nat.reduceLeDiff, Nat.reduceEqDiff, Nat.reduceLT, Nat.reduceBEq, ↓reduceIte, Int.reduceLE, Int.reduceLT, Int.reduceToNat, Int.reduceNeg, reduceCtorEq, Int.reduceEq, SF0, SF1, SF2, DWc0, DWb0, DWa0, DLa0, DCg0, DCe0, DCe1, DCe2, DDb0, DBc0, DBc1, DKa0, DHb0, DHb1, DHa0, DDe0]
        refine acall_one S1 (by simp [freeL, AV.free, Plan.free, Work.free]) rfl ?_
        simp (disch := omega) only [SX0, SX1, SX2, SX3, SX4, SX5, SX6, SX7, SX8, SU0, SY0, SY1, Nat.reduceAdd, Nat.reduceMul, Nat.reduceSub, Nat.reduceLeDiff, Nat.reduceEqDiff, Nat.reduceLT, Nat.reduceBEq, ↓reduceIte, Int.reduceLE, Int.reduceLT, Int.reduceToNat, Int.reduceNeg, reduceCtorEq, Int.reduceEq, SF0, SF1, SF2, DWc0, DWb0, DWa0, DLa0, DCg0, DCe0, DCe1, DCe2, DDb0, DBc0, DBc1, DKa0, DHb0, DHb1, DHa0, DDe0, eq_self, ne_eq, not_true, decide_false, decide_true]
        refine acall_one S2 (by simp [freeL, AV.free, Plan.free, Work.free]) rfl ?_
        simp (disch := omega) only [SX0, SX1, SX2, SX3, SX4, SX5, SX6, SX7, SX8, SU0, SY0, SY1, Nat.reduceAdd, Nat.reduceMul, Nat.reduceSub, Nat.reduceLeDiff, Nat.reduceEqDiff, Nat.reduceLT, Nat.reduceBEq, ↓reduceIte, Int.reduceLE, Int.reduceLT, Int.reduceToNat, Int.reduceNeg, reduceCtorEq, Int.reduceEq, SF0, SF1, SF2, DWc0, DWb0, DWa0, DLa0, DCg0, DCe0, DCe1, DCe2, DDb0, DBc0, DBc1, DKa0, DHb0, DHb1, DHa0, DDe0, eq_self, ne_eq, not_true, decide_false, decide_true]
        refine acall_one V1 (by simp [freeL, AV.free, Plan.free, Work.free]) rfl ?_
        simp (disch := omega) only [SX0, SX1, SX2, SX3, SX4, SX5, SX6, SX7, SX8, SU0, SY0, SY1, Nat.reduceAdd, Nat.reduceMul, Nat.reduceSub, Nat.reduceLeDiff, Nat.reduceEqDiff, Nat.reduceLT, Nat.reduceBEq, ↓reduceIte, Int.reduceLE, Int.reduceLT, Int.reduceToNat, Int.reduceNeg, reduceCtorEq, Int.reduceEq, SF0, SF1, SF2, DWc0, DWb0, DWa0, DLa0, DCg0, DCe0, DCe1, DCe2, DDb0, DBc0, DBc1, DKa0, DHb0, DHb1, DHa0, DDe0]
        refine acall_one V2 (by simp [freeL, AV.free, Plan.free, Work.free]) rfl ?_
        simp (disch := omega) only [SX0, SX1, SX2, SX3, SX4, SX5, SX6, SX7, SX8, SU0, SY0, SY1, Nat.reduceAdd, Nat.reduceMul, Nat.reduceSub, Nat.reduceLeDiff, Nat.reduceEqDiff, Nat.reduceLT, Nat.reduceBEq, ↓reduceIte, Int.reduceLE, Int.reduceLT, Int.reduceToNat, Int.reduceNeg, reduceCtorEq, Int.reduceEq, SF0, SF1, SF2, DWc0, DWb0, DWa0, DLa0, DCg0, DCe0, DCe1, DCe2, DDb0, DBc0, DBc1, DKa0, DHb0, DHb1, DHa0, DDe0]
        refine awp_drawA T_tt mixed (by decide +kernel) (by kernel_rfl) (by kernel_rfl) ?_
        simp (disch := omega) only [SX0, SX1, SX2, SX3, SX4, SX5, SX6, SX7, SX8, SU0, SY0, SY1, Nat.reduceAdd, Nat.reduceMul, Nat.reduceSub, Nat.reduceLeDiff, Nat.reduceEqDiff, Nat.reduceLT, Nat.reduceBEq, ↓reduceIte, Int.reduceLE, Int.reduceLT, Int.reduceToNat, Int.reduceNeg, reduceCtorEq, Int.reduceEq, SF0, SF1, SF2, DWc0, DWb0, DWa0, DLa0, DCg0, DCe0, DCe1, DCe2, DDb0, DBc0, DBc1, DKa0, DHb0, DHb1, DHa0, DDe0]
        refine qc_one S3 (by simp [freeL, AV.free, Plan.free, Work.free]) ?_
        simp (disch := omega) only [SX0, SX1, SX2, SX3, SX4, SX5, SX6, SX7, SX8, SU0, SY0, SY1, Nat.reduceAdd, Nat.reduceMul, Nat.reduceSub, Nat.reduceLeDiff, Nat.reduceEqDiff, Nat.reduceLT, Nat.reduceBEq, ↓reduceIte, Int.reduceLE, Int.reduceLT, Int.reduceToNat, Int.reduceNeg, reduceCtorEq, Int.reduceEq, SF0, SF1, SF2, DWc0, DWb0, DWa0, DLa0, DCg0, DCe0, DCe1, DCe2, DDb0, DBc0, DBc1, DKa0, DHb0, DHb1, DHa0, DDe0, eq_self, decide_true]
        refine qc_one S4 (by simp [freeL, AV.free, Plan.free, Work.free]) ?_
        simp (disch := omega) only [SX0, SX1, SX2, SX3, SX4, SX5, SX6, SX7, SX8, SU0, SY0, SY1, Nat.reduceAdd, Nat.reduceMul, Nat.reduceSub, Nat.reduceLeDiff, Nat.reduceEqDiff, Nat.reduceLT, Nat.reduceBEq, ↓reduceIte, Int.reduceLE, Int.reduceLT, Int.reduceToNat, Int.reduceNeg, reduceCtorEq, Int.reduceEq, SF0, SF1, SF2, DWc0, DWb0, DWa0, DLa0, DCg0, DCe0, DCe1, DCe2, DDb0, DBc0, DBc1, DKa0, DHb0, DHb1, DHa0, DDe0]
        exact fin_val ⟨rfl, rfl⟩
    · rw [decide_eq_true hp] at V1
      rw [decide_eq_false hq] at V2
      have hs : ¬ p.same q k := fun h => hq h.1.2
      rw [decide_eq_false hs] at S1 S2
      simp (disch := omega) only [SX0, SX1, SX2, SX3, SX4, SX5, SX6, SX7, SX8, SU0, SY0, SY1, Nat.reduceAdd, Nat.reduceMul, Nat.reduceSub, Nat.reduceLeDiff, Nat.reduceEqDiff, Nat.reduceLT, Nat.reduceBEq, ↓reduceIte, Int.reduceLE, Int.reduceLT, Int.reduceToNat, Int.reduceNeg, reduceCtorEq, Int.reduceEq, SF0, SF1, SF2, DWc0, DWb0, DWa0, DLa0, DCg0, DCe0, DCe1, DCe2, DDb0, DBc0, DBc1, DKa0, DHb0, DHb1, DHa0, DDe0]
      refine acall_one S1 (by simp [freeL, AV.free, Plan.free, Work.free]) rfl ?_
      simp (disch := omega) only [SX0, SX1, SX2, SX3, SX4, SX5, SX6, SX7, SX8, SU0, SY0, SY1, Nat.reduceAdd, Nat.reduceMul, Nat.reduceSub, Nat.reduceLeDiff, Nat.reduceEqDiff, Nat.reduceLT, Nat.reduceBEq, ↓reduceIte, Int.reduceLE, Int.reduceLT, Int.reduceToNat, Int.reduceNeg, reduceCtorEq, Int.reduceEq, SF0, SF1, SF2, DWc0, DWb0, DWa0, DLa0, DCg0, DCe0, DCe1, DCe2, DDb0, DBc0, DBc1, DKa0, DHb0, DHb1, DHa0, DDe0]
      refine acall_one S2 (by simp [freeL, AV.free, Plan.free, Work.free]) rfl ?_
      simp (disch := omega) only [SX0, SX1, SX2, SX3, SX4, SX5, SX6, SX7, SX8, SU0, SY0, SY1, Nat.reduceAdd, Nat.reduceMul, Nat.reduceSub, Nat.reduceLeDiff, Nat.reduceEqDiff, Nat.reduceLT, Nat.reduceBEq, ↓reduceIte, Int.reduceLE, Int.reduceLT, Int.reduceToNat, Int.reduceNeg, reduceCtorEq, Int.reduceEq, SF0, SF1, SF2, DWc0, DWb0, DWa0, DLa0, DCg0, DCe0, DCe1, DCe2, DDb0, DBc0, DBc1, DKa0, DHb0, DHb1, DHa0, DDe0, eq_self, ne_eq, not_true, decide_false, decide_true]
      refine acall_one V1 (by simp [freeL, AV.free, Plan.free, Work.free]) rfl ?_
      simp (disch := omega) only [SX0, SX1, SX2, SX3, SX4, SX5, SX6, SX7, SX8, SU0, SY0, SY1, Nat.reduceAdd, Nat.reduceMul, Nat.reduceSub, Nat.reduceLeDiff, Nat.reduceEqDiff, Nat.reduceLT, Nat.reduceBEq, ↓reduceIte, Int.reduceLE, Int.reduceLT, Int.reduceToNat, Int.reduceNeg, reduceCtorEq, Int.reduceEq, SF0, SF1, SF2, DWc0, DWb0, DWa0, DLa0, DCg0, DCe0, DCe1, DCe2, DDb0, DBc0, DBc1, DKa0, DHb0, DHb1, DHa0, DDe0]
      refine acall_one V2 (by simp [freeL, AV.free, Plan.free, Work.free]) rfl ?_
      simp (disch := omega) only [SX0, SX1, SX2, SX3, SX4, SX5, SX6, SX7, SX8, SU0, SY0, SY1, Nat.reduceAdd, Nat.reduceMul, Nat.reduceSub, Nat.reduceLeDiff, Nat.reduceEqDiff, Nat.reduceLT, Nat.reduceBEq, ↓reduceIte, Int.reduceLE, Int.reduceLT, Int.reduceToNat, Int.reduceNeg, reduceCtorEq, Int.reduceEq, SF0, SF1, SF2, DWc0, DWb0, DWa0, DLa0, DCg0, DCe0, DCe1, DCe2, DDb0, DBc0, DBc1, DKa0, DHb0, DHb1, DHa0, DDe0]
      refine acall_one S2 (by simp [freeL, AV.free, Plan.free, Work.free]) rfl ?_
      simp (disch := omega) only [SX0, SX1, SX2, SX3, SX4, SX5, SX6, SX7, SX8, SU0, SY0, SY1, Nat.reduceAdd, Nat.reduceMul, Nat.reduceSub, Nat.reduceLeDiff, Nat.reduceEqDiff, Nat.reduceLT, Nat.reduceBEq, ↓reduceIte, Int.reduceLE, Int.reduceLT, Int.reduceToNat, Int.reduceNeg, reduceCtorEq, Int.reduceEq, SF0, SF1, SF2, DWc0, DWb0, DWa0, DLa0, DCg0, DCe0, DCe1, DCe2, DDb0, DBc0, DBc1, DKa0, DHb0, DHb1, DHa0, DDe0, eq_self, decide_true]
      exact fin_val ⟨rfl, rfl⟩
  · rw [decide_eq_false hp] at V1
    have hs : ¬ p.same q k := fun h => hp h.1.1
    rw [decide_eq_false hs] at S1 S2
    simp (disch := omega) only [SX0, SX1, SX2, SX3, SX4, SX5, SX6, SX7, SX8, SU0, SY0, SY1, Nat.reduceAdd, Nat.reduceMul, Nat.reduceSub, Nat.reduceLeDiff, Nat.reduceEqDiff, Nat.reduceLT, Nat.reduceBEq, ↓reduceIte, Int.reduceLE, Int.reduceLT, Int.reduceToNat, Int.reduceNeg, reduceCtorEq, Int.reduceEq, SF0, SF1, SF2, DWc0, DWb0, DWa0, DLa0, DCg0, DCe0, DCe1, DCe2, DDb0, DBc0, DBc1, DKa0, DHb0, DHb1, DHa0, DDe0]
    refine acall_one S1 (by simp [freeL, AV.free, Plan.free, Work.free]) rfl ?_
    simp (disch := omega) only [SX0, SX1, SX2, SX3, SX4, SX5, SX6, SX7, SX8, SU0, SY0, SY1, Nat.reduceAdd, Nat.reduceMul, Nat.reduceSub, Nat.reduceLeDiff, Nat.reduceEqDiff, Nat.reduceLT, Nat.reduceBEq, ↓reduceIte, Int.reduceLE, Int.reduceLT, Int.reduceToNat, Int.reduceNeg, reduceCtorEq, Int.reduceEq, SF0, SF1, SF2, DWc0, DWb0, DWa0, DLa0, DCg0, DCe0, DCe1, DCe2, DDb0, DBc0, DBc1, DKa0, DHb0, DHb1, DHa0, DDe0]
    refine acall_one S2 (by simp [freeL, AV.free, Plan.free, Work.free]) rfl ?_
    simp (disch := omega) only [SX0, SX1, SX2, SX3, SX4, SX5, SX6, SX7, SX8, SU0, SY0, SY1, Nat.reduceAdd, Nat.reduceMul, Nat.reduceSub, Nat.reduceLeDiff, Nat.reduceEqDiff, Nat.reduceLT, Nat.reduceBEq, ↓reduceIte, Int.reduceLE, Int.reduceLT, Int.reduceToNat, Int.reduceNeg, reduceCtorEq, Int.reduceEq, SF0, SF1, SF2, DWc0, DWb0, DWa0, DLa0, DCg0, DCe0, DCe1, DCe2, DDb0, DBc0, DBc1, DKa0, DHb0, DHb1, DHa0, DDe0, eq_self, ne_eq, not_true, decide_false, decide_true]
    refine acall_one V1 (by simp [freeL, AV.free, Plan.free, Work.free]) rfl ?_
    simp (disch := omega) only [SX0, SX1, SX2, SX3, SX4, SX5, SX6, SX7, SX8, SU0, SY0, SY1, Nat.reduceAdd, Nat.reduceMul, Nat.reduceSub, Nat.reduceLeDiff, Nat.reduceEqDiff, Nat.reduceLT, Nat.reduceBEq, ↓reduceIte, Int.reduceLE, Int.reduceLT, Int.reduceToNat, Int.reduceNeg, reduceCtorEq, Int.reduceEq, SF0, SF1, SF2, DWc0, DWb0, DWa0, DLa0, DCg0, DCe0, DCe1, DCe2, DDb0, DBc0, DBc1, DKa0, DHb0, DHb1, DHa0, DDe0]
    refine acall_one S2 (by simp [freeL, AV.free, Plan.free, Work.free]) rfl ?_
    simp (disch := omega) only [SX0, SX1, SX2, SX3, SX4, SX5, SX6, SX7, SX8, SU0, SY0, SY1, Nat.reduceAdd, Nat.reduceMul, Nat.reduceSub, Nat.reduceLeDiff, Nat.reduceEqDiff, Nat.reduceLT, Nat.reduceBEq, ↓reduceIte, Int.reduceLE, Int.reduceLT, Int.reduceToNat, Int.reduceNeg, reduceCtorEq, Int.reduceEq, SF0, SF1, SF2, DWc0, DWb0, DWa0, DLa0, DCg0, DCe0, DCe1, DCe2, DDb0, DBc0, DBc1, DKa0, DHb0, DHb1, DHa0, DDe0, eq_self, decide_true]
    exact fin_val ⟨rfl, rfl⟩

end Go.Pc
