/- The value of a plan, by the program and by the reference. -/
import Derived.Test.YtkcpcmobmalijaaMv
import Derived.Test.YtkcpcmobmalijaaHe
set_option linter.unusedSimpArgs false
set_option linter.unusedVariables false
namespace Go.Pc
open Go Go.Proofs

theorem sum_bd1 {M : Int} {l : List Int} (hM : 0 ≤ M) (h : ∀ x ∈ l, 0 ≤ x ∧ x ≤ M) : 0 ≤ l.sum ∧ l.sum ≤ M * l.length := by
  induction l with
  | nil => simp
  | cons x l ih =>
    have h1 := h x (by simp)
    have h2 := ih fun y hy => h y (by simp [hy])
    simp only [List.sum_cons, List.length_cons, Int.natCast_add, Int.mul_add]
    omega

theorem Plan.worth_len (p : Plan) (k : Work) (vs : List Int) : (p.worth k vs).length = (p.places k.sheet).length := by simp [Plan.worth]

theorem e_planValueI : Enters Try.prog 18 := enters_of Try.func18 (by kernel_rfl) (by kernel_rfl)
set_option maxRecDepth 8000 in
set_option maxHeartbeats 4000000 in
theorem planValueI_c (k : Work) (p : Plan) (vs : List Int) (hk : k.Ps.length < 2 ^ 40) (hvl : vs.length < 2 ^ 40) : ACalls Try.prog 18 [.agg k.cs, .agg p.cs, .sl (ints vs)] [] [] (fun r L => r = .val (.int .i64 (p.value k vs)) ∧ L = []) := by
  refine acalls_tm T_tt Try.func18 rfl e_planValueI 51 rfl (W8 _ _ _ .any .any .any .any .any (W8 .any .any .any .any .any .any .any .any (W8 .any .any .any .any .any .any .any .any (W8 .any .any .any .any .any .any .any .any (W8 .any .any .any .any .any .any .any .any (W8 .any .any .any .any .any .any .any .any [.any, .any, .any, .any, .any, .any])))))) rfl (rv := [.tmp 6]) rfl (sx_sound (bl := []) T_tt _ _ _ ?_)
  simp (disch := omega) only [SX0, SX1, SX2, SX3, SX4, SX5, SX6, SX7, SX8, SU0, SY0, SY1, Nat.reduceAdd, Nat.reduceMul, Nat.reduceSub, Nat.reduceLeDiff, Nat.reduceEqDiff, Nat.reduceLT, Nat.reduceBEq, ↓reduceIte, Int.reduceLE, Int.reduceLT, Int.reduceToNat, Int.reduceNeg, reduceCtorEq, Int.reduceEq, SF0, SF1, SF2, DHb0, DHb1, DHa0, DCg0, DCe0, DCe1, DCe2, DDb0, DBc0, DBc1, DDe0]
  refine acall_one (validPlanI_c k p hk) (by simp [freeL, AV.free, Plan.free, Work.free]) rfl ?_
  simp (disch := omega) only [SX0, SX1, SX2, SX3, SX4, SX5, SX6, SX7, SX8, SU0, SY0, SY1, Nat.reduceAdd, Nat.reduceMul, Nat.reduceSub, Nat.reduceLeDiff, Nat.reduceEqDiff, Nat.reduceLT, Nat.reduceBEq, ↓reduceIte, Int.reduceLE, Int.reduceLT, Int.reduceToNat, Int.reduceNeg, reduceCtorEq, Int.reduceEq, SF0, SF1, SF2, DHb0, DHb1, DHa0, DCg0, DCe0, DCe1, DCe2, DDb0, DBc0, DBc1, DDe0]
  refine br_ndec (fun hv => ?_) (fun hv => ?_)
  · simp (disch := omega) only [SX0, SX1, SX2, SX3, SX4, SX5, SX6, SX7, SX8, SU0, SY0, SY1, Nat.reduceAdd, Nat.reduceMul, Nat.reduceSub, Nat.reduceLeDiff, Nat.reduceEqDiff, Nat.reduceLT, Nat.reduceBEq, ↓reduceIte, Int.reduceLE, Int.reduceLT, Int.reduceToNat, Int.reduceNeg, reduceCtorEq, Int.reduceEq, SF0, SF1, SF2, DHb0, DHb1, DHa0, DCg0, DCe0, DCe1, DCe2, DDb0, DBc0, DBc1, DDe0]
    exact fin_val ⟨by unfold Plan.value; rw [if_neg fun h => hv h.1], rfl⟩
  simp (disch := omega) only [SX0, SX1, SX2, SX3, SX4, SX5, SX6, SX7, SX8, SU0, SY0, SY1, Nat.reduceAdd, Nat.reduceMul, Nat.reduceSub, Nat.reduceLeDiff, Nat.reduceEqDiff, Nat.reduceLT, Nat.reduceBEq, ↓reduceIte, Int.reduceLE, Int.reduceLT, Int.reduceToNat, Int.reduceNeg, reduceCtorEq, Int.reduceEq, SF0, SF1, SF2, DHb0, DHb1, DHa0, DCg0, DCe0, DCe1, DCe2, DDb0, DBc0, DBc1, DDe0]
  refine br_ndec (fun h1 => ?_) (fun h1 => ?_)
  · simp (disch := omega) only [SX0, SX1, SX2, SX3, SX4, SX5, SX6, SX7, SX8, SU0, SY0, SY1, Nat.reduceAdd, Nat.reduceMul, Nat.reduceSub, Nat.reduceLeDiff, Nat.reduceEqDiff, Nat.reduceLT, Nat.reduceBEq, ↓reduceIte, Int.reduceLE, Int.reduceLT, Int.reduceToNat, Int.reduceNeg, reduceCtorEq, Int.reduceEq, SF0, SF1, SF2, DHb0, DHb1, DHa0, DCg0, DCe0, DCe1, DCe2, DDb0, DBc0, DBc1, DDe0]
    exact fin_val ⟨by unfold Plan.value; rw [if_neg fun h => h1 (by rw [h.2.1])], rfl⟩
  simp (disch := omega) only [SX0, SX1, SX2, SX3, SX4, SX5, SX6, SX7, SX8, SU0, SY0, SY1, Nat.reduceAdd, Nat.reduceMul, Nat.reduceSub, Nat.reduceLeDiff, Nat.reduceEqDiff, Nat.reduceLT, Nat.reduceBEq, ↓reduceIte, Int.reduceLE, Int.reduceLT, Int.reduceToNat, Int.reduceNeg, reduceCtorEq, Int.reduceEq, SF0, SF1, SF2, DHb0, DHb1, DHa0, DCg0, DCe0, DCe1, DCe2, DDb0, DBc0, DBc1, DDe0]
  with_reducible refine awp_loop_h 7 47 (fun (i : Nat) => [(24, .sl (ints vs)), (25, .val (.int .i64 vs.length)), (26, .val (.int .i64 i))]) (fun _ => [.cells k.cs, .cells p.cs]) (fun i => i ≤ vs.length ∧ ∀ v ∈ vs.take i, 1 ≤ v ∧ v ≤ 1000) (fun i => vs.length - i) 0 ⟨Nat.zero_le _, by simp⟩ ?_ (fun i hi => sx_sound (bl := []) T_tt _ _ _ ?_)
  · simp (disch := omega) only [SX0, SX1, SX2, SX3, SX4, SX5, SX6, SX7, SX8, SU0, SY0, SY1, Nat.reduceAdd, Nat.reduceMul, Nat.reduceSub, Nat.reduceLeDiff, Nat.reduceEqDiff, Nat.reduceLT, Nat.reduceBEq, ↓reduceIte, Int.reduceLE, Int.reduceLT, Int.reduceToNat, Int.reduceNeg, reduceCtorEq, Int.reduceEq, SF0, SF1, SF2, DHb0, DHb1, DHa0, DCg0, DCe0, DCe1, DCe2, DDb0, DBc0, DBc1, DDe0]
    (refine wk_le ?_ ?_ ?_; (focus (simp [W8, leTm, leAV, AV.under, underL, Work.under, Plan.under]; done)); (focus (simp [leL, OB.under, underL, AV.under, Work.under, Plan.under]; done)); (focus (simp; done)))
  simp (disch := omega) only [SX0, SX1, SX2, SX3, SX4, SX5, SX6, SX7, SX8, SU0, SY0, SY1, Nat.reduceAdd, Nat.reduceMul, Nat.reduceSub, Nat.reduceLeDiff, Nat.reduceEqDiff, Nat.reduceLT, Nat.reduceBEq, ↓reduceIte, Int.reduceLE, Int.reduceLT, Int.reduceToNat, Int.reduceNeg, reduceCtorEq, Int.reduceEq, SF0, SF1, SF2, DHb0, DHb1, DHa0, DCg0, DCe0, DCe1, DCe2, DDb0, DBc0, DBc1, DDe0]
  refine br_dec (fun h2 => ?_) (fun h2 => ?_)
  · obtain ⟨v, hv1⟩ := get_lt (l := vs) (i := i) (by omega)
    have hbad : ¬ (1 ≤ v ∧ v ≤ 1000) → p.value k vs = -1 := fun hn => by
      unfold Plan.value; rw [if_neg fun h => hn (h.2.2 v (List.mem_of_getElem? hv1))]
    simp (disch := omega) only [SX0, SX1, SX2, SX3, SX4, SX5, SX6, SX7, SX8, SU0, SY0, SY1, Nat.reduceAdd, Nat.reduceMul, Nat.reduceSub, Nat.reduceLeDiff, Nat.reduceEqDiff, Nat.reduceLT, Nat.reduceBEq, ↓reduceIte, Int.reduceLE, Int.reduceLT, Int.reduceToNat, Int.reduceNeg, reduceCtorEq, Int.reduceEq, SF0, SF1, SF2, DHb0, DHb1, DHa0, DCg0, DCe0, DCe1, DCe2, DDb0, DBc0, DBc1, DDe0, hv1]
    refine br_dec (fun h3 => ?_) (fun h3 => ?_)
    · simp (disch := omega) only [SX0, SX1, SX2, SX3, SX4, SX5, SX6, SX7, SX8, SU0, SY0, SY1, Nat.reduceAdd, Nat.reduceMul, Nat.reduceSub, Nat.reduceLeDiff, Nat.reduceEqDiff, Nat.reduceLT, Nat.reduceBEq, ↓reduceIte, Int.reduceLE, Int.reduceLT, Int.reduceToNat, Int.reduceNeg, reduceCtorEq, Int.reduceEq, SF0, SF1, SF2, DHb0, DHb1, DHa0, DCg0, DCe0, DCe1, DCe2, DDb0, DBc0, DBc1, DDe0]
      exact fin_val ⟨by rw [hbad (by omega)], rfl⟩
    simp (disch := omega) only [SX0, SX1, SX2, SX3, SX4, SX5, SX6, SX7, SX8, SU0, SY0, SY1, Nat.reduceAdd, Nat.reduceMul, Nat.reduceSub, Nat.reduceLeDiff, Nat.reduceEqDiff, Nat.reduceLT, Nat.reduceBEq, ↓reduceIte, Int.reduceLE, Int.reduceLT, Int.reduceToNat, Int.reduceNeg, reduceCtorEq, Int.reduceEq, SF0, SF1, SF2, DHb0, DHb1, DHa0, DCg0, DCe0, DCe1, DCe2, DDb0, DBc0, DBc1, DDe0]
    refine br_dec (fun h4 => ?_) (fun h4 => ?_)
    · simp (disch := omega) only [SX0, SX1, SX2, SX3, SX4, SX5, SX6, SX7, SX8, SU0, SY0, SY1, Nat.reduceAdd, Nat.reduceMul, Nat.reduceSub, Nat.reduceLeDiff, Nat.reduceEqDiff, Nat.reduceLT, Nat.reduceBEq, ↓reduceIte, Int.reduceLE, Int.reduceLT, Int.reduceToNat, Int.reduceNeg, reduceCtorEq, Int.reduceEq, SF0, SF1, SF2, DHb0, DHb1, DHa0, DCg0, DCe0, DCe1, DCe2, DDb0, DBc0, DBc1, DDe0]
      exact fin_val ⟨by rw [hbad (by omega)], rfl⟩
    · simp (disch := omega) only [SX0, SX1, SX2, SX3, SX4, SX5, SX6, SX7, SX8, SU0, SY0, SY1, Nat.reduceAdd, Nat.reduceMul, Nat.reduceSub, Nat.reduceLeDiff, Nat.reduceEqDiff, Nat.reduceLT, Nat.reduceBEq, ↓reduceIte, Int.reduceLE, Int.reduceLT, Int.reduceToNat, Int.reduceNeg, reduceCtorEq, Int.reduceEq, SF0, SF1, SF2, DHb0, DHb1, DHa0, DCg0, DCe0, DCe1, DCe2, DDb0, DBc0, DBc1, DDe0]
      refine ⟨i + 1, ⟨by omega, take_next hv1 hi.2 ⟨by omega, by omega⟩⟩, by omega, ?_⟩
      (refine wk_le ?_ ?_ ?_; (focus (simp [W8, leTm, leAV, AV.under, underL, Work.under, Plan.under]; done)); (focus (simp [leL, OB.under, underL, AV.under, Work.under, Plan.under]; done)); (focus (simp; done)))
  have hg : goodV k vs := ⟨by omega, take_all (by omega) hi.2⟩
  have P1 := placesOfI_c k p hk
  rw [vparts_valid hv] at P1
  have hpl := places_le hv
  have hpa := Plan.places_pa k p hv.2.1.1 k.sheet hv.2.2
  have hwr := Plan.worth_rng hv hg
  have hwl := Plan.worth_len p k vs
  have hwg : ∀ (j : Nat) q, (p.places k.sheet)[j]? = some q → (p.worth k vs)[j]? = some ((vs[q.pa.toNat]?).getD 0) := fun j q hq => by unfold Plan.worth; rw [List.getElem?_map, hq]; rfl
  have he : p.value k vs = (p.worth k vs).sum := by unfold Plan.value; rw [if_pos ⟨hv, hg⟩]
  rw [he]
  generalize p.worth k vs = u at *
  generalize p.places k.sheet = l at *
  simp (disch := omega) only [SX0, SX1, SX2, SX3, SX4, SX5, SX6, SX7, SX8, SU0, SY0, SY1, Nat.reduceAdd, Nat.reduceMul, Nat.reduceSub, Nat.reduceLeDiff, Nat.reduceEqDiff, Nat.reduceLT, Nat.reduceBEq, ↓reduceIte, Int.reduceLE, Int.reduceLT, Int.reduceToNat, Int.reduceNeg, reduceCtorEq, Int.reduceEq, SF0, SF1, SF2, DHb0, DHb1, DHa0, DCg0, DCe0, DCe1, DCe2, DDb0, DBc0, DBc1, DDe0]
  refine acall_one P1 (by simp [freeL, AV.free, Plan.free, Work.free]) rfl ?_
  simp (disch := omega) only [SX0, SX1, SX2, SX3, SX4, SX5, SX6, SX7, SX8, SU0, SY0, SY1, Nat.reduceAdd, Nat.reduceMul, Nat.reduceSub, Nat.reduceLeDiff, Nat.reduceEqDiff, Nat.reduceLT, Nat.reduceBEq, ↓reduceIte, Int.reduceLE, Int.reduceLT, Int.reduceToNat, Int.reduceNeg, reduceCtorEq, Int.reduceEq, SF0, SF1, SF2, DHb0, DHb1, DHa0, DCg0, DCe0, DCe1, DCe2, DDb0, DBc0, DBc1, DDe0]
  with_reducible refine awp_loop_h 10 44 (fun (i : Nat) => [(9, .val (.int .i64 (u.take i).sum)), (39, .sl (l.map Place.cs)), (40, .val (.int .i64 l.length)), (41, .val (.int .i64 i))]) (fun _ => [.cells k.cs, .cells p.cs]) (fun i => i ≤ l.length) (fun i => l.length - i) 0 (Nat.zero_le _) ?_ (fun i hi => sx_sound (bl := []) T_tt _ _ _ ?_)
  · simp (disch := omega) only [SX0, SX1, SX2, SX3, SX4, SX5, SX6, SX7, SX8, SU0, SY0, SY1, Nat.reduceAdd, Nat.reduceMul, Nat.reduceSub, Nat.reduceLeDiff, Nat.reduceEqDiff, Nat.reduceLT, Nat.reduceBEq, ↓reduceIte, Int.reduceLE, Int.reduceLT, Int.reduceToNat, Int.reduceNeg, reduceCtorEq, Int.reduceEq, SF0, SF1, SF2, DHb0, DHb1, DHa0, DCg0, DCe0, DCe1, DCe2, DDb0, DBc0, DBc1, DDe0]
    (refine wk_le ?_ ?_ ?_; (focus (simp [W8, leTm, leAV, AV.under, underL, Work.under, Plan.under]; done)); (focus (simp [leL, OB.under, underL, AV.under, Work.under, Plan.under]; done)); (focus (simp; done)))
  simp (disch := omega) only [SX0, SX1, SX2, SX3, SX4, SX5, SX6, SX7, SX8, SU0, SY0, SY1, Nat.reduceAdd, Nat.reduceMul, Nat.reduceSub, Nat.reduceLeDiff, Nat.reduceEqDiff, Nat.reduceLT, Nat.reduceBEq, ↓reduceIte, Int.reduceLE, Int.reduceLT, Int.reduceToNat, Int.reduceNeg, reduceCtorEq, Int.reduceEq, SF0, SF1, SF2, DHb0, DHb1, DHa0, DCg0, DCe0, DCe1, DCe2, DDb0, DBc0, DBc1, DDe0]
  refine br_dec (fun h5 => ?_) (fun h5 => ?_)
  · obtain ⟨q, hq⟩ := get_lt (l := l) (i := i) (by omega)
    have hqa := hpa q (List.mem_of_getElem? hq)
    obtain ⟨v, hv1⟩ := get_lt (l := vs) (i := q.pa.toNat) (by have := hg.1; omega)
    have hu := hwg i q hq
    rw [hv1] at hu
    have e := sum_take hu
    have hs := sum_bd1 (M := 1000) (l := u.take i) (by omega) fun y hy => by have := hwr y (List.mem_of_mem_take hy); omega
    have hsl : (u.take i).length ≤ 255 := by rw [List.length_take]; omega
    have hvb := hwr _ (List.mem_of_getElem? hu)
    simp only [Option.getD_some] at hvb e
    have h0 : (0 ≤ q.pa) = True := eq_true hqa.1
    simp (disch := omega) only [SX0, SX1, SX2, SX3, SX4, SX5, SX6, SX7, SX8, SU0, SY0, SY1, Nat.reduceAdd, Nat.reduceMul, Nat.reduceSub, Nat.reduceLeDiff, Nat.reduceEqDiff, Nat.reduceLT, Nat.reduceBEq, ↓reduceIte, Int.reduceLE, Int.reduceLT, Int.reduceToNat, Int.reduceNeg, reduceCtorEq, Int.reduceEq, SF0, SF1, SF2, DHb0, DHb1, DHa0, DCg0, DCe0, DCe1, DCe2, DDb0, DBc0, DBc1, DDe0, hq, h0, hv1, Place.cs]
    refine ⟨i + 1, by omega, by omega, ?_⟩
    (refine wk_le ?_ ?_ ?_; (focus (simp [W8, leTm, leAV, AV.under, underL, Work.under, Plan.under, e]; done)); (focus (simp [leL, OB.under, underL, AV.under, Work.under, Plan.under, e]; done)); (focus (simp; done)))
  · simp (disch := omega) only [SX0, SX1, SX2, SX3, SX4, SX5, SX6, SX7, SX8, SU0, SY0, SY1, Nat.reduceAdd, Nat.reduceMul, Nat.reduceSub, Nat.reduceLeDiff, Nat.reduceEqDiff, Nat.reduceLT, Nat.reduceBEq, ↓reduceIte, Int.reduceLE, Int.reduceLT, Int.reduceToNat, Int.reduceNeg, reduceCtorEq, Int.reduceEq, SF0, SF1, SF2, DHb0, DHb1, DHa0, DCg0, DCe0, DCe1, DCe2, DDb0, DBc0, DBc1, DDe0]
    exact fin_val ⟨by rw [List.take_of_length_le (by omega)], rfl⟩

end Go.Pc
