/- How often each pane is in a plan. -/
import Derived.Test.YtkcpcmobmalijaaHb
set_option linter.unusedSimpArgs false
set_option linter.unusedVariables false
namespace Go.Pc
open Go Go.Proofs

/-- How often each number below n is told. -/
def cnts (n : Nat) (l : List Place) : List Int := (List.range n).map fun (j : Nat) => ((l.countP (fun q : Place => decide (q.pa = (j : Int))) : Nat) : Int)
theorem cnts_len (n : Nat) (l : List Place) : (cnts n l).length = n := by simp [cnts]
theorem cnts_nil (n : Nat) : cnts n [] = List.replicate n 0 := by
  refine List.ext_getElem? fun i => ?_
  simp only [cnts, List.getElem?_map, List.getElem?_replicate, List.countP_nil]
  by_cases h : i < n
  · rw [List.getElem?_range h, if_pos h]; rfl
  · rw [List.getElem?_eq_none (by simp; omega), if_neg h]; rfl
theorem cnts_get {n : Nat} {l : List Place} {j : Nat} (h : j < n) : (cnts n l)[j]? = some ((l.countP (fun q : Place => decide (q.pa = (j : Int))) : Nat) : Int) := by
  simp only [cnts, List.getElem?_map, List.getElem?_range h]; rfl
theorem cnts_next {n : Nat} {l : List Place} {q : Place} (h : 0 ≤ q.pa ∧ q.pa < n) {c : Int} (hc : (cnts n l)[q.pa.toNat]? = some c) : cnts n (l ++ [q]) = (cnts n l).set q.pa.toNat (c + 1) := by
  refine List.ext_getElem? fun i => ?_
  by_cases hi : i < n
  · rw [cnts_get hi, List.getElem?_set, cnts_len, List.countP_append]
    by_cases e : q.pa.toNat = i
    · subst e
      rw [cnts_get hi] at hc
      cases hc
      have e1 : q.pa = ((q.pa.toNat : Nat) : Int) := by omega
      rw [if_pos rfl, if_pos hi]
      simp only [List.countP_cons, List.countP_nil, decide_eq_true e1]
      simp
    · have e1 : ¬ q.pa = (i : Int) := by omega
      rw [if_neg e, cnts_get hi]
      simp [List.countP_cons, e1]
  · rw [List.getElem?_eq_none (by rw [cnts_len]; omega), List.getElem?_eq_none (by rw [List.length_set, cnts_len]; omega)]
theorem cnts_le {n : Nat} {l : List Place} : ∀ x ∈ cnts n l, 0 ≤ x ∧ x ≤ l.length := fun x hx => by
  obtain ⟨j, _, rfl⟩ := List.mem_map.1 hx
  have : l.countP (fun q : Place => decide (q.pa = (j : Int))) ≤ l.length := List.countP_le_length
  omega
theorem ints_set (l : List Int) (i : Nat) (x : Int) : (ints l).set i [.val (.int .i64 x)] = ints (l.set i x) := by simp [ints, List.map_set]

theorem places_le {p : Plan} {k : Work} (hv : p.valid k) : (p.places k.sheet).length ≤ 255 := Nat.le_trans (List.length_filterMap_le _ _) (by rw [Plan.parts_len p hv.2.1.1]; exact hv.2.1.2)
theorem vparts_valid {p : Plan} {k : Work} (hv : p.valid k) : (p.vparts k).filterMap placeOf = p.places k.sheet := by unfold Plan.vparts; rw [if_pos hv]; rfl

/-- What UsedOf tells. -/
def Plan.used (p : Plan) (k : Work) : List Int := if p.valid k then cnts k.Ps.length (p.places k.sheet) else []

theorem e_usedOfI : Enters Try.prog 35 := enters_of Try.func35 (by kernel_rfl) (by kernel_rfl)
set_option maxHeartbeats 1000000 in
theorem usedOfI_o (k : Work) (p : Plan) (hk : k.Ps.length < 2 ^ 40) : ACalls Try.prog 35 [.agg k.cs, .agg p.cs] [] [] (fun r L => r = .os 0 1 0 (p.used k).length ∧ L = [.vec 1 (ints (p.used k))]) := by
  refine acalls_tm T_tt Try.func35 rfl e_usedOfI 31 rfl (W8 _ _ .any .any .any .any .any .any (W8 .any .any .any .any .any .any .any .any (W8 .any .any .any .any .any .any .any .any (W8 .any .any .any .any .any .any .any .any [.any])))) rfl (rv := [.tmp 4]) rfl (sx_sound (bl := []) T_tt _ _ _ ?_)
  simp (disch := omega) only [SX0, SX1, SX2, SX3, SX4, SX5, SX6, SX7, SX8, SU0, SY0, SY1, Nat.reduceAdd, Nat.reduceMul, Nat.reduceSub, Nat.reduceLeDiff, Nat.reduceEqDiff, Nat.reduceLT, Nat.reduceBEq, ↓reduceIte, Int.reduceLE, Int.reduceLT, Int.reduceToNat, Int.reduceNeg, reduceCtorEq, Int.reduceEq, SF0, SF1, SF2, DHb0, DHb1, DHa0, DCg0, DCe0, DCe1, DCe2, DDb0, DBc0, DBc1]
  refine acall_one (validPlanI_c k p hk) (by simp [freeL, AV.free, Plan.free, Work.free]) rfl ?_
  simp (disch := omega) only [SX0, SX1, SX2, SX3, SX4, SX5, SX6, SX7, SX8, SU0, SY0, SY1, Nat.reduceAdd, Nat.reduceMul, Nat.reduceSub, Nat.reduceLeDiff, Nat.reduceEqDiff, Nat.reduceLT, Nat.reduceBEq, ↓reduceIte, Int.reduceLE, Int.reduceLT, Int.reduceToNat, Int.reduceNeg, reduceCtorEq, Int.reduceEq, SF0, SF1, SF2, DHb0, DHb1, DHa0, DCg0, DCe0, DCe1, DCe2, DDb0, DBc0, DBc1]
  refine br_ndec (fun hv => ?_) (fun hv => ?_)
  · have e : p.used k = [] := by unfold Plan.used; rw [if_neg hv]
    simp (disch := omega) only [SX0, SX1, SX2, SX3, SX4, SX5, SX6, SX7, SX8, SU0, SY0, SY1, Nat.reduceAdd, Nat.reduceMul, Nat.reduceSub, Nat.reduceLeDiff, Nat.reduceEqDiff, Nat.reduceLT, Nat.reduceBEq, ↓reduceIte, Int.reduceLE, Int.reduceLT, Int.reduceToNat, Int.reduceNeg, reduceCtorEq, Int.reduceEq, SF0, SF1, SF2, DHb0, DHb1, DHa0, DCg0, DCe0, DCe1, DCe2, DDb0, DBc0, DBc1]
    exact fin_nilown 1 (by decide) ⟨by rw [e]; rfl, by rw [e]; rfl⟩
  have hk24 := hv.1.2.2.2
  have hpl := places_le hv
  have hpa := Plan.places_pa k p hv.2.1.1 k.sheet hv.2.2
  have hP := placesOfI_c k p hk
  rw [vparts_valid hv] at hP
  have hu : p.used k = cnts k.Ps.length (p.places k.sheet) := by unfold Plan.used; rw [if_pos hv]
  generalize p.places k.sheet = l at *
  simp (disch := omega) only [SX0, SX1, SX2, SX3, SX4, SX5, SX6, SX7, SX8, SU0, SY0, SY1, Nat.reduceAdd, Nat.reduceMul, Nat.reduceSub, Nat.reduceLeDiff, Nat.reduceEqDiff, Nat.reduceLT, Nat.reduceBEq, ↓reduceIte, Int.reduceLE, Int.reduceLT, Int.reduceToNat, Int.reduceNeg, reduceCtorEq, Int.reduceEq, SF0, SF1, SF2, DHb0, DHb1, DHa0, DCg0, DCe0, DCe1, DCe2, DDb0, DBc0, DBc1]
  refine req (by omega) ?_
  simp (disch := omega) only [SX0, SX1, SX2, SX3, SX4, SX5, SX6, SX7, SX8, SU0, SY0, SY1, Nat.reduceAdd, Nat.reduceMul, Nat.reduceSub, Nat.reduceLeDiff, Nat.reduceEqDiff, Nat.reduceLT, Nat.reduceBEq, ↓reduceIte, Int.reduceLE, Int.reduceLT, Int.reduceToNat, Int.reduceNeg, reduceCtorEq, Int.reduceEq, SF0, SF1, SF2, DHb0, DHb1, DHa0, DCg0, DCe0, DCe1, DCe2, DDb0, DBc0, DBc1]
  refine acall_one hP (by simp [freeL, AV.free, Plan.free, Work.free]) rfl ?_
  simp (disch := omega) only [SX0, SX1, SX2, SX3, SX4, SX5, SX6, SX7, SX8, SU0, SY0, SY1, Nat.reduceAdd, Nat.reduceMul, Nat.reduceSub, Nat.reduceLeDiff, Nat.reduceEqDiff, Nat.reduceLT, Nat.reduceBEq, ↓reduceIte, Int.reduceLE, Int.reduceLT, Int.reduceToNat, Int.reduceNeg, reduceCtorEq, Int.reduceEq, SF0, SF1, SF2, DHb0, DHb1, DHa0, DCg0, DCe0, DCe1, DCe2, DDb0, DBc0, DBc1]
  with_reducible refine awp_loop_h 6 27 (fun (i : Nat) => [(18, .sl (l.map Place.cs)), (19, .val (.int .i64 l.length)), (20, .val (.int .i64 i))]) (fun i => [.cells k.cs, .cells p.cs, .vec 1 (ints (cnts k.Ps.length (l.take i)))]) (fun i => i ≤ l.length) (fun i => l.length - i) 0 (Nat.zero_le _) ?_ (fun i hi => sx_sound (bl := []) T_tt _ _ _ ?_)
  · simp (disch := omega) only [SX0, SX1, SX2, SX3, SX4, SX5, SX6, SX7, SX8, SU0, SY0, SY1, Nat.reduceAdd, Nat.reduceMul, Nat.reduceSub, Nat.reduceLeDiff, Nat.reduceEqDiff, Nat.reduceLT, Nat.reduceBEq, ↓reduceIte, Int.reduceLE, Int.reduceLT, Int.reduceToNat, Int.reduceNeg, reduceCtorEq, Int.reduceEq, SF0, SF1, SF2, DHb0, DHb1, DHa0, DCg0, DCe0, DCe1, DCe2, DDb0, DBc0, DBc1]
    (refine wk_le ?_ ?_ ?_; (focus (simp [W8, leTm, leAV, AV.under, underL, Work.under, Plan.under, cnts_nil, ints]; done)); (focus (simp [leL, OB.under, underL, AV.under, Work.under, Plan.under, cnts_nil, ints]; done)); (focus (simp; done)))
  simp (disch := omega) only [SX0, SX1, SX2, SX3, SX4, SX5, SX6, SX7, SX8, SU0, SY0, SY1, Nat.reduceAdd, Nat.reduceMul, Nat.reduceSub, Nat.reduceLeDiff, Nat.reduceEqDiff, Nat.reduceLT, Nat.reduceBEq, ↓reduceIte, Int.reduceLE, Int.reduceLT, Int.reduceToNat, Int.reduceNeg, reduceCtorEq, Int.reduceEq, SF0, SF1, SF2, DHb0, DHb1, DHa0, DCg0, DCe0, DCe1, DCe2, DDb0, DBc0, DBc1]
  refine br_dec (fun h1 => ?_) (fun h1 => ?_)
  · obtain ⟨q, hq⟩ := get_lt (l := l) (i := i) (by omega)
    have hqp := hpa q (List.mem_of_getElem? hq)
    have hq0 : (0 ≤ q.pa) = True := eq_true hqp.1
    obtain ⟨c, hc⟩ := get_lt (l := cnts k.Ps.length (l.take i)) (i := q.pa.toNat) (by rw [cnts_len]; omega)
    have hcl := cnts_le c (List.mem_of_getElem? hc)
    have hct : (l.take i).length ≤ 255 := by rw [List.length_take]; omega
    have e := cnts_next hqp hc
    have et : l.take (i + 1) = l.take i ++ [q] := by rw [List.take_add_one, hq]; rfl
    rw [← et] at e
    simp (disch := omega) only [SX0, SX1, SX2, SX3, SX4, SX5, SX6, SX7, SX8, SU0, SY0, SY1, Nat.reduceAdd, Nat.reduceMul, Nat.reduceSub, Nat.reduceLeDiff, Nat.reduceEqDiff, Nat.reduceLT, Nat.reduceBEq, ↓reduceIte, Int.reduceLE, Int.reduceLT, Int.reduceToNat, Int.reduceNeg, reduceCtorEq, Int.reduceEq, SF0, SF1, SF2, DHb0, DHb1, DHa0, DCg0, DCe0, DCe1, DCe2, DDb0, DBc0, DBc1, hq, hq0, hc, Place.cs]
    refine req hqp.2 ?_
    simp (disch := omega) only [SX0, SX1, SX2, SX3, SX4, SX5, SX6, SX7, SX8, SU0, SY0, SY1, Nat.reduceAdd, Nat.reduceMul, Nat.reduceSub, Nat.reduceLeDiff, Nat.reduceEqDiff, Nat.reduceLT, Nat.reduceBEq, ↓reduceIte, Int.reduceLE, Int.reduceLT, Int.reduceToNat, Int.reduceNeg, reduceCtorEq, Int.reduceEq, SF0, SF1, SF2, DHb0, DHb1, DHa0, DCg0, DCe0, DCe1, DCe2, DDb0, DBc0, DBc1, hq0, hc]
    refine req hqp.2 ?_
    simp (disch := omega) only [SX0, SX1, SX2, SX3, SX4, SX5, SX6, SX7, SX8, SU0, SY0, SY1, Nat.reduceAdd, Nat.reduceMul, Nat.reduceSub, Nat.reduceLeDiff, Nat.reduceEqDiff, Nat.reduceLT, Nat.reduceBEq, ↓reduceIte, Int.reduceLE, Int.reduceLT, Int.reduceToNat, Int.reduceNeg, reduceCtorEq, Int.reduceEq, SF0, SF1, SF2, DHb0, DHb1, DHa0, DCg0, DCe0, DCe1, DCe2, DDb0, DBc0, DBc1, hq0, hc]
    refine ⟨i + 1, by omega, by omega, ?_⟩
    (refine wk_le ?_ ?_ ?_; (focus (simp [W8, leTm, leAV, AV.under, underL, Work.under, Plan.under, e, ints, List.map_set]; done)); (focus (simp [leL, OB.under, underL, AV.under, Work.under, Plan.under, e, ints, List.map_set]; done)); (focus (simp; done)))
  · rw [List.take_of_length_le (by omega)]
    simp (disch := omega) only [SX0, SX1, SX2, SX3, SX4, SX5, SX6, SX7, SX8, SU0, SY0, SY1, Nat.reduceAdd, Nat.reduceMul, Nat.reduceSub, Nat.reduceLeDiff, Nat.reduceEqDiff, Nat.reduceLT, Nat.reduceBEq, ↓reduceIte, Int.reduceLE, Int.reduceLT, Int.reduceToNat, Int.reduceNeg, reduceCtorEq, Int.reduceEq, SF0, SF1, SF2, DHb0, DHb1, DHa0, DCg0, DCe0, DCe1, DCe2, DDb0, DBc0, DBc1]
    exact fin_own rfl ⟨by rw [hu, cnts_len], by rw [hu]⟩
theorem usedOfI_c (k : Work) (p : Plan) (hk : k.Ps.length < 2 ^ 40) : ACalls Try.prog 35 [.agg k.cs, .agg p.cs] [] [] (fun r L => r = .sl (ints (p.used k)) ∧ L = []) := (usedOfI_o k p hk).frozen (by simp [ints])

end Go.Pc
