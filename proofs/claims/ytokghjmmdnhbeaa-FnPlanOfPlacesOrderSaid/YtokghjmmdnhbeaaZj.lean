/- The reference's PlanOfPlaces. -/
import Derived.Test.YtokghjmmdnhbeaaZi
import Derived.Test.YtokghjmmdnhbeaaPa
import Derived.Test.YtokghjmmdnhbeaaZg
set_option linter.unusedSimpArgs false
set_option linter.unusedVariables false
namespace Go.Pc
open Go Go.Proofs

theorem e_apartS : Enters Try.prog 50 := enters_of Try.func50 (by kernel_rfl) (by kernel_rfl)
set_option maxHeartbeats 2000000 in
theorem apartS_c (l : List Box) (hl : l.length < 2 ^ 40) (hok : ∀ b ∈ l, b.ok) : ACalls Try.prog 50 [.sl (l.map Box.cs)] [] [] (fun r L => r = .val (.bool (decide (apartL l))) ∧ L = []) := by
  refine acalls_tm T_tt Try.func50 rfl e_apartS 30 rfl (W8 _ .any .any .any .any .any .any .any (W8 .any .any .any .any .any .any .any .any (W8 .any .any .any .any .any .any .any .any [.any, .any, .any, .any, .any, .any, .any]))) rfl (rv := [.tmp 2]) rfl (sx_sound (bl := []) T_tt _ _ _ ?_)
  simp (disch := omega) only [SX0, SX1, SX2, SX3, SX4, SX5, SX6, SX7, SX8, SU0, SY0, Nat.reduceAdd, Nat.reduceMul, Nat.reduceSub, Nat.reduceLeDiff, Nat.reduceEqDiff, Nat.reduceLT, Nat.reduceBEq, ↓reduceIte, Int.reduceLE, Int.reduceLT, Int.reduceToNat, Int.reduceNeg, reduceCtorEq, Int.reduceEq, SF0, SF1, SF2, DZc0, DWb0, DWa0, DLa0, DCg0, DCe0, DCe1, DCe2, DDb0, DBc0, DBc1, DKa0, DHb0, DHb1, DHa0, DDe0, DWc0, DAlh0, DPa0]
  with_reducible refine awp_loop_h 4 27 (fun (i : Nat) => [(3, .val (.int .i64 i))]) (fun _ => []) (fun i => i ≤ l.length ∧ apartL (l.take i)) (fun i => l.length - i) 0 ⟨Nat.zero_le _, by simp [apartL]⟩ ?_ (fun i hi => ?_)
  · simp (disch := omega) only [SX0, SX1, SX2, SX3, SX4, SX5, SX6, SX7, SX8, SU0, SY0, Nat.reduceAdd, Nat.reduceMul, Nat.reduceSub, Nat.reduceLeDiff, Nat.reduceEqDiff, Nat.reduceLT, Nat.reduceBEq, ↓reduceIte, Int.reduceLE, Int.reduceLT, Int.reduceToNat, Int.reduceNeg, reduceCtorEq, Int.reduceEq, SF0, SF1, SF2, DZc0, DWb0, DWa0, DLa0, DCg0, DCe0, DCe1, DCe2, DDb0, DBc0, DBc1, DKa0, DHb0, DHb1, DHa0, DDe0, DWc0, DAlh0, DPa0]
    (refine wk_le ?_ ?_ ?_; (focus (simp [W8, leTm, leAV, AV.under, underL]; done)); (focus (simp [leL, OB.under, underL, AV.under]; done)); (focus (simp; done)))
  obtain ⟨hi, hap⟩ := hi
  refine sx_sound (bl := []) T_tt _ _ _ ?_
  simp (disch := omega) only [SX0, SX1, SX2, SX3, SX4, SX5, SX6, SX7, SX8, SU0, SY0, Nat.reduceAdd, Nat.reduceMul, Nat.reduceSub, Nat.reduceLeDiff, Nat.reduceEqDiff, Nat.reduceLT, Nat.reduceBEq, ↓reduceIte, Int.reduceLE, Int.reduceLT, Int.reduceToNat, Int.reduceNeg, reduceCtorEq, Int.reduceEq, SF0, SF1, SF2, DZc0, DWb0, DWa0, DLa0, DCg0, DCe0, DCe1, DCe2, DDb0, DBc0, DBc1, DKa0, DHb0, DHb1, DHa0, DDe0, DWc0, DAlh0, DPa0]
  refine br_dec (fun h2 => ?_) (fun h2 => ?_)
  · obtain ⟨a, ha⟩ := get_lt (l := l) (i := i) (by omega)
    simp (disch := omega) only [SX0, SX1, SX2, SX3, SX4, SX5, SX6, SX7, SX8, SU0, SY0, Nat.reduceAdd, Nat.reduceMul, Nat.reduceSub, Nat.reduceLeDiff, Nat.reduceEqDiff, Nat.reduceLT, Nat.reduceBEq, ↓reduceIte, Int.reduceLE, Int.reduceLT, Int.reduceToNat, Int.reduceNeg, reduceCtorEq, Int.reduceEq, SF0, SF1, SF2, DZc0, DWb0, DWa0, DLa0, DCg0, DCe0, DCe1, DCe2, DDb0, DBc0, DBc1, DKa0, DHb0, DHb1, DHa0, DDe0, DWc0, DAlh0, DPa0]
    with_reducible refine awp_loop_h 5 26 (fun (j : Nat) => [(4, .val (.int .i64 j))]) (fun _ => []) (fun j => j ≤ i ∧ ∀ c ∈ (l.take i).take j, ¬ a.meets c) (fun j => i - j) 0 ⟨Nat.zero_le _, by simp⟩ ?_ (fun j hj => ?_)
    · simp (disch := omega) only [SX0, SX1, SX2, SX3, SX4, SX5, SX6, SX7, SX8, SU0, SY0, Nat.reduceAdd, Nat.reduceMul, Nat.reduceSub, Nat.reduceLeDiff, Nat.reduceEqDiff, Nat.reduceLT, Nat.reduceBEq, ↓reduceIte, Int.reduceLE, Int.reduceLT, Int.reduceToNat, Int.reduceNeg, reduceCtorEq, Int.reduceEq, SF0, SF1, SF2, DZc0, DWb0, DWa0, DLa0, DCg0, DCe0, DCe1, DCe2, DDb0, DBc0, DBc1, DKa0, DHb0, DHb1, DHa0, DDe0, DWc0, DAlh0, DPa0]
      (refine wk_le ?_ ?_ ?_; (focus (simp [W8, leTm, leAV, AV.under, underL]; done)); (focus (simp [leL, OB.under, underL, AV.under]; done)); (focus (simp; done)))
    obtain ⟨hj, hjm⟩ := hj
    refine sx_sound (bl := []) T_tt _ _ _ ?_
    simp (disch := omega) only [SX0, SX1, SX2, SX3, SX4, SX5, SX6, SX7, SX8, SU0, SY0, Nat.reduceAdd, Nat.reduceMul, Nat.reduceSub, Nat.reduceLeDiff, Nat.reduceEqDiff, Nat.reduceLT, Nat.reduceBEq, ↓reduceIte, Int.reduceLE, Int.reduceLT, Int.reduceToNat, Int.reduceNeg, reduceCtorEq, Int.reduceEq, SF0, SF1, SF2, DZc0, DWb0, DWa0, DLa0, DCg0, DCe0, DCe1, DCe2, DDb0, DBc0, DBc1, DKa0, DHb0, DHb1, DHa0, DDe0, DWc0, DAlh0, DPa0]
    refine br_dec (fun h3 => ?_) (fun h3 => ?_)
    · obtain ⟨c, hc⟩ := get_lt (l := l.take i) (i := j) (by rw [List.length_take]; omega)
      have hc2 : l[j]? = some c := by rw [List.getElem?_take, if_pos (by omega)] at hc; exact hc
      have M := meetOfS_c a c (hok a (List.mem_of_getElem? ha)) (hok c (List.mem_of_getElem? hc2))
      simp (disch := omega) only [SX0, SX1, SX2, SX3, SX4, SX5, SX6, SX7, SX8, SU0, SY0, Nat.reduceAdd, Nat.reduceMul, Nat.reduceSub, Nat.reduceLeDiff, Nat.reduceEqDiff, Nat.reduceLT, Nat.reduceBEq, ↓reduceIte, Int.reduceLE, Int.reduceLT, Int.reduceToNat, Int.reduceNeg, reduceCtorEq, Int.reduceEq, SF0, SF1, SF2, DZc0, DWb0, DWa0, DLa0, DCg0, DCe0, DCe1, DCe2, DDb0, DBc0, DBc1, DKa0, DHb0, DHb1, DHa0, DDe0, DWc0, DAlh0, DPa0]
      refine awp_float (bl := []) T_tt mixed [] [0, 1, 2, 3, 4, 5, 6, 7, 8, 9, 10, 11] [(13, [(0, .f 19), (1, .f 20), (2, .f 21), (3, .f 22), (4, .f 23), (5, .f 24), (6, .f 25), (7, .f 26), (8, .f 27), (9, .f 18), (10, .f 28), (12, .a 5 44)]), (14, [(11, .f 29)])] [] (by kernel_rfl) (by kernel_rfl) ?_
      simp (disch := omega) only [SX0, SX1, SX2, SX3, SX4, SX5, SX6, SX7, SX8, SU0, SY0, Nat.reduceAdd, Nat.reduceMul, Nat.reduceSub, Nat.reduceLeDiff, Nat.reduceEqDiff, Nat.reduceLT, Nat.reduceBEq, ↓reduceIte, Int.reduceLE, Int.reduceLT, Int.reduceToNat, Int.reduceNeg, reduceCtorEq, Int.reduceEq, SF0, SF1, SF2, DZc0, DWb0, DWa0, DLa0, DCg0, DCe0, DCe1, DCe2, DDb0, DBc0, DBc1, DKa0, DHb0, DHb1, DHa0, DDe0, DWc0, DAlh0, DPa0, ha, hc2]
      refine qc_one M (by simp [freeL, AV.free, Box.free]) ?_
      simp (disch := omega) only [SX0, SX1, SX2, SX3, SX4, SX5, SX6, SX7, SX8, SU0, SY0, Nat.reduceAdd, Nat.reduceMul, Nat.reduceSub, Nat.reduceLeDiff, Nat.reduceEqDiff, Nat.reduceLT, Nat.reduceBEq, ↓reduceIte, Int.reduceLE, Int.reduceLT, Int.reduceToNat, Int.reduceNeg, reduceCtorEq, Int.reduceEq, SF0, SF1, SF2, DZc0, DWb0, DWa0, DLa0, DCg0, DCe0, DCe1, DCe2, DDb0, DBc0, DBc1, DKa0, DHb0, DHb1, DHa0, DDe0, DWc0, DAlh0, DPa0]
      refine br_dec (fun h4 => ?_) (fun h4 => ?_)
      · simp (disch := omega) only [SX0, SX1, SX2, SX3, SX4, SX5, SX6, SX7, SX8, SU0, SY0, Nat.reduceAdd, Nat.reduceMul, Nat.reduceSub, Nat.reduceLeDiff, Nat.reduceEqDiff, Nat.reduceLT, Nat.reduceBEq, ↓reduceIte, Int.reduceLE, Int.reduceLT, Int.reduceToNat, Int.reduceNeg, reduceCtorEq, Int.reduceEq, SF0, SF1, SF2, DZc0, DWb0, DWa0, DLa0, DCg0, DCe0, DCe1, DCe2, DDb0, DBc0, DBc1, DKa0, DHb0, DHb1, DHa0, DDe0, DWc0, DAlh0, DPa0]
        exact fin_val ⟨vF fun hh => apartL_not ha hc2 (by omega) h4 hh, rfl⟩
      · simp (disch := omega) only [SX0, SX1, SX2, SX3, SX4, SX5, SX6, SX7, SX8, SU0, SY0, Nat.reduceAdd, Nat.reduceMul, Nat.reduceSub, Nat.reduceLeDiff, Nat.reduceEqDiff, Nat.reduceLT, Nat.reduceBEq, ↓reduceIte, Int.reduceLE, Int.reduceLT, Int.reduceToNat, Int.reduceNeg, reduceCtorEq, Int.reduceEq, SF0, SF1, SF2, DZc0, DWb0, DWa0, DLa0, DCg0, DCe0, DCe1, DCe2, DDb0, DBc0, DBc1, DKa0, DHb0, DHb1, DHa0, DDe0, DWc0, DAlh0, DPa0]
        refine ⟨j + 1, ⟨by omega, take_next hc hjm h4⟩, by omega, ?_⟩
        (refine wk_le ?_ ?_ ?_; (focus (simp [W8, leTm, leAV, AV.under, underL]; done)); (focus (simp [leL, OB.under, underL, AV.under]; done)); (focus (simp; done)))
    · simp (disch := omega) only [SX0, SX1, SX2, SX3, SX4, SX5, SX6, SX7, SX8, SU0, SY0, Nat.reduceAdd, Nat.reduceMul, Nat.reduceSub, Nat.reduceLeDiff, Nat.reduceEqDiff, Nat.reduceLT, Nat.reduceBEq, ↓reduceIte, Int.reduceLE, Int.reduceLT, Int.reduceToNat, Int.reduceNeg, reduceCtorEq, Int.reduceEq, SF0, SF1, SF2, DZc0, DWb0, DWa0, DLa0, DCg0, DCe0, DCe1, DCe2, DDb0, DBc0, DBc1, DKa0, DHb0, DHb1, DHa0, DDe0, DWc0, DAlh0, DPa0]
      refine ⟨i + 1, ⟨by omega, apartL_next ha hap (take_all (by rw [List.length_take]; omega) hjm)⟩, by omega, ?_⟩
      (refine wk_le ?_ ?_ ?_; (focus (simp [W8, leTm, leAV, AV.under, underL]; done)); (focus (simp [leL, OB.under, underL, AV.under]; done)); (focus (simp; done)))
  · simp (disch := omega) only [SX0, SX1, SX2, SX3, SX4, SX5, SX6, SX7, SX8, SU0, SY0, Nat.reduceAdd, Nat.reduceMul, Nat.reduceSub, Nat.reduceLeDiff, Nat.reduceEqDiff, Nat.reduceLT, Nat.reduceBEq, ↓reduceIte, Int.reduceLE, Int.reduceLT, Int.reduceToNat, Int.reduceNeg, reduceCtorEq, Int.reduceEq, SF0, SF1, SF2, DZc0, DWb0, DWa0, DLa0, DCg0, DCe0, DCe1, DCe2, DDb0, DBc0, DBc1, DKa0, DHb0, DHb1, DHa0, DDe0, DWc0, DAlh0, DPa0]
    refine fin_val ⟨vT ?_, rfl⟩
    rwa [List.take_of_length_le (by omega)] at hap

/-- As good, but for the work. -/
def Place.goodS (k : Work) (q : Place) : Prop := q.box.ok ∧ q.box.geo k.sheet ∧ fills k q.pa q.tu q.box.W q.box.H = true
theorem Place.goodS_iff {k : Work} (hk : k.ok) {q : Place} : q.goodS k ↔ q.good k := by
  have hs := Box.sane_ok (Work.sheet_sane hk)
  unfold Place.goodS Place.good Box.geo Box.inside
  constructor
  · rintro ⟨h1, h2, h3⟩; exact ⟨h1, ⟨h1, hs, h2⟩, h3⟩
  · rintro ⟨h1, ⟨_, _, h2⟩, h3⟩; exact ⟨h1, h2, h3⟩

theorem e_validPlacesS : Enters Try.prog 32 := enters_of Try.func32 (by kernel_rfl) (by kernel_rfl)
set_option maxRecDepth 8000 in
set_option maxHeartbeats 4000000 in
theorem validPlacesS_c (k : Work) (l : List Place) (hk : k.Ps.length < 2 ^ 40) (hl : l.length < 2 ^ 30) (hks : (-1000 ≤ k.W ∧ k.W ≤ 1000) ∧ (-1000 ≤ k.H ∧ k.H ≤ 1000)) : ACalls Try.prog 32 [.agg k.cs, .sl (l.map Place.cs)] [] [] (fun r L => r = .val (.bool (decide (placesOk k l))) ∧ L = []) := by
  refine acalls_tm T_tt Try.func32 rfl e_validPlacesS 64 rfl (W8 _ _ .any .any .any .any .any .any (W8 .any .any .any .any .any .any .any .any (W8 .any .any .any .any .any .any .any .any (W8 .any .any .any .any .any .any .any .any (W8 .any .any .any .any .any .any .any .any (W8 .any .any .any .any .any .any .any .any (W8 .any .any .any .any .any .any .any .any (W8 .any .any .any .any .any .any .any .any [.any, .any])))))))) rfl (rv := [.tmp 4]) rfl (sx_sound (bl := [8]) T_tt _ _ _ ?_)
  simp (disch := omega) only [SX0, SX1, SX2, SX3, SX4, SX5, SX6, SX7, SX8, SU0, SY0, Nat.reduceAdd, Nat.reduceMul, Nat.reduceSub, Nat.reduceLeDiff, Nat.reduceEqDiff, Nat.reduceLT, Nat.reduceBEq, ↓reduceIte, Int.reduceLE, Int.reduceLT, Int.reduceToNat, Int.reduceNeg, reduceCtorEq, Int.reduceEq, SF0, SF1, SF2, DZc0, DWb0, DWa0, DLa0, DCg0, DCe0, DCe1, DCe2, DDb0, DBc0, DBc1, DKa0, DHb0, DHb1, DHa0, DDe0, DWc0, DAlh0, DPa0]
  with_reducible refine awp_loop_h 7 59 (fun (i : Nat) => [(5, .os 1 4 0 i), (6, .val (.int .i64 i))]) (fun i => [.cells k.cs, .vec 4 ((l.take i).map fun q => q.box.cs)]) (fun i => i ≤ l.length ∧ ∀ q ∈ l.take i, q.goodS k) (fun i => l.length - i) 0 ⟨Nat.zero_le _, by simp⟩ ?_ (fun i hi => ?_)
  · simp (disch := omega) only [SX0, SX1, SX2, SX3, SX4, SX5, SX6, SX7, SX8, SU0, SY0, Nat.reduceAdd, Nat.reduceMul, Nat.reduceSub, Nat.reduceLeDiff, Nat.reduceEqDiff, Nat.reduceLT, Nat.reduceBEq, ↓reduceIte, Int.reduceLE, Int.reduceLT, Int.reduceToNat, Int.reduceNeg, reduceCtorEq, Int.reduceEq, SF0, SF1, SF2, DZc0, DWb0, DWa0, DLa0, DCg0, DCe0, DCe1, DCe2, DDb0, DBc0, DBc1, DKa0, DHb0, DHb1, DHa0, DDe0, DWc0, DAlh0, DPa0]
    (refine wk_le ?_ ?_ ?_; (focus (simp [W8, leTm, leAV, AV.under, underL, Work.under]; done)); (focus (simp [leL, OB.under, underL, AV.under, Work.under]; done)); (focus (simp; done)))
  obtain ⟨hi, hig⟩ := hi
  refine sx_sound (bl := []) T_tt _ _ _ ?_
  simp (disch := omega) only [SX0, SX1, SX2, SX3, SX4, SX5, SX6, SX7, SX8, SU0, SY0, Nat.reduceAdd, Nat.reduceMul, Nat.reduceSub, Nat.reduceLeDiff, Nat.reduceEqDiff, Nat.reduceLT, Nat.reduceBEq, ↓reduceIte, Int.reduceLE, Int.reduceLT, Int.reduceToNat, Int.reduceNeg, reduceCtorEq, Int.reduceEq, SF0, SF1, SF2, DZc0, DWb0, DWa0, DLa0, DCg0, DCe0, DCe1, DCe2, DDb0, DBc0, DBc1, DKa0, DHb0, DHb1, DHa0, DDe0, DWc0, DAlh0, DPa0]
  refine br_dec (fun h3 => ?_) (fun h3 => ?_)
  · obtain ⟨q, hq⟩ := get_lt (l := l) (i := i) (by omega)
    simp (disch := omega) only [SX0, SX1, SX2, SX3, SX4, SX5, SX6, SX7, SX8, SU0, SY0, Nat.reduceAdd, Nat.reduceMul, Nat.reduceSub, Nat.reduceLeDiff, Nat.reduceEqDiff, Nat.reduceLT, Nat.reduceBEq, ↓reduceIte, Int.reduceLE, Int.reduceLT, Int.reduceToNat, Int.reduceNeg, reduceCtorEq, Int.reduceEq, SF0, SF1, SF2, DZc0, DWb0, DWa0, DLa0, DCg0, DCe0, DCe1, DCe2, DDb0, DBc0, DBc1, DKa0, DHb0, DHb1, DHa0, DDe0, DWc0, DAlh0, DPa0, hq, Place.drop_box, Place.drop_pb]
    refine acall_one (validBoxS_c q.box) (by simp [freeL, AV.free, Box.free]) rfl ?_
    simp (disch := omega) only [SX0, SX1, SX2, SX3, SX4, SX5, SX6, SX7, SX8, SU0, SY0, Nat.reduceAdd, Nat.reduceMul, Nat.reduceSub, Nat.reduceLeDiff, Nat.reduceEqDiff, Nat.reduceLT, Nat.reduceBEq, ↓reduceIte, Int.reduceLE, Int.reduceLT, Int.reduceToNat, Int.reduceNeg, reduceCtorEq, Int.reduceEq, SF0, SF1, SF2, DZc0, DWb0, DWa0, DLa0, DCg0, DCe0, DCe1, DCe2, DDb0, DBc0, DBc1, DKa0, DHb0, DHb1, DHa0, DDe0, DWc0, DAlh0, DPa0]
    refine br_ndec (fun h4 => ?_) (fun h4 => ?_)
    · simp (disch := omega) only [SX0, SX1, SX2, SX3, SX4, SX5, SX6, SX7, SX8, SU0, SY0, Nat.reduceAdd, Nat.reduceMul, Nat.reduceSub, Nat.reduceLeDiff, Nat.reduceEqDiff, Nat.reduceLT, Nat.reduceBEq, ↓reduceIte, Int.reduceLE, Int.reduceLT, Int.reduceToNat, Int.reduceNeg, reduceCtorEq, Int.reduceEq, SF0, SF1, SF2, DZc0, DWb0, DWa0, DLa0, DCg0, DCe0, DCe1, DCe2, DDb0, DBc0, DBc1, DKa0, DHb0, DHb1, DHa0, DDe0, DWc0, DAlh0, DPa0]
      exact fin_val ⟨vF fun hh => h4 (hh.2.1 q (List.mem_of_getElem? hq)).1, rfl⟩
    have I := insideOfS_c q.box k.sheet h4 ⟨rfl, rfl⟩ (by simp only [Work.sheet]; omega)
    have h4' := h4
    unfold Box.ok at h4'
    have F := fitsS_n k hk 1 (.mk 1 0 q.pa q.tu []) q.box.W q.box.H (by rw [Plan.nodes_leaf (wf_leaf1 _ _) (by simp [Plan.cut, Plan.op])]; omega) (wf_leaf1 _ _) (by omega) (by omega)
    rw [Plan.fits_pane k _ _ _ rfl, Plan.cs_eq] at F
    simp only [Plan.op, Plan.at_, Plan.pa, Plan.tu, Plan.ks, List.map_nil] at F
    have esh : k.sheet.cs = [.val (.int .i64 0), .val (.int .i64 0), .val (.int .i64 k.W), .val (.int .i64 k.H)] := rfl
    rw [esh] at I
    have hpg : q.cs[0]? = some (.val (.int .i64 q.pa)) := rfl
    have d2 : (q.box.cs.drop 2)[0]? = some (.val (.int .i64 q.box.W)) := rfl
    have d3 : (q.box.cs.drop 3)[0]? = some (.val (.int .i64 q.box.H)) := rfl
    have t1 : (q.cs.drop 1)[0]? = some (.val (.bool q.tu)) := rfl
    have t4 : (q.cs.drop 4)[0]? = some (.val (.int .i64 q.box.W)) := rfl
    have t5 : (q.cs.drop 5)[0]? = some (.val (.int .i64 q.box.H)) := rfl
    simp (disch := omega) only [SX0, SX1, SX2, SX3, SX4, SX5, SX6, SX7, SX8, SU0, SY0, Nat.reduceAdd, Nat.reduceMul, Nat.reduceSub, Nat.reduceLeDiff, Nat.reduceEqDiff, Nat.reduceLT, Nat.reduceBEq, ↓reduceIte, Int.reduceLE, Int.reduceLT, Int.reduceToNat, Int.reduceNeg, reduceCtorEq, Int.reduceEq, SF0, SF1, SF2, DZc0, DWb0, DWa0, DLa0, DCg0, DCe0, DCe1, DCe2, DDb0, DBc0, DBc1, DKa0, DHb0, DHb1, DHa0, DDe0, DWc0, DAlh0, DPa0]
    refine acall_one I rfl rfl ?_
    simp (disch := omega) only [SX0, SX1, SX2, SX3, SX4, SX5, SX6, SX7, SX8, SU0, SY0, Nat.reduceAdd, Nat.reduceMul, Nat.reduceSub, Nat.reduceLeDiff, Nat.reduceEqDiff, Nat.reduceLT, Nat.reduceBEq, ↓reduceIte, Int.reduceLE, Int.reduceLT, Int.reduceToNat, Int.reduceNeg, reduceCtorEq, Int.reduceEq, SF0, SF1, SF2, DZc0, DWb0, DWa0, DLa0, DCg0, DCe0, DCe1, DCe2, DDb0, DBc0, DBc1, DKa0, DHb0, DHb1, DHa0, DDe0, DWc0, DAlh0, DPa0]
    refine br_ndec (fun h5 => ?_) (fun h5 => ?_)
    · simp (disch := omega) only [SX0, SX1, SX2, SX3, SX4, SX5, SX6, SX7, SX8, SU0, SY0, Nat.reduceAdd, Nat.reduceMul, Nat.reduceSub, Nat.reduceLeDiff, Nat.reduceEqDiff, Nat.reduceLT, Nat.reduceBEq, ↓reduceIte, Int.reduceLE, Int.reduceLT, Int.reduceToNat, Int.reduceNeg, reduceCtorEq, Int.reduceEq, SF0, SF1, SF2, DZc0, DWb0, DWa0, DLa0, DCg0, DCe0, DCe1, DCe2, DDb0, DBc0, DBc1, DKa0, DHb0, DHb1, DHa0, DDe0, DWc0, DAlh0, DPa0]
      refine fin_val ⟨vF fun hh => h5 ?_, rfl⟩
      have := (hh.2.1 q (List.mem_of_getElem? hq)).2.1
      unfold Box.inside at this
      unfold Box.geo
      omega
    simp (disch := omega) only [SX0, SX1, SX2, SX3, SX4, SX5, SX6, SX7, SX8, SU0, SY0, Nat.reduceAdd, Nat.reduceMul, Nat.reduceSub, Nat.reduceLeDiff, Nat.reduceEqDiff, Nat.reduceLT, Nat.reduceBEq, ↓reduceIte, Int.reduceLE, Int.reduceLT, Int.reduceToNat, Int.reduceNeg, reduceCtorEq, Int.reduceEq, SF0, SF1, SF2, DZc0, DWb0, DWa0, DLa0, DCg0, DCe0, DCe1, DCe2, DDb0, DBc0, DBc1, DKa0, DHb0, DHb1, DHa0, DDe0, DWc0, DAlh0, DPa0, hpg, d2, d3, t1, t4, t5]
    refine acall_nrm ?_
    simp only [List.map_cons, List.map_nil, AV.nrm, nrmL, Work.nrmd]
    refine acall_one F (by simp [freeL, AV.free, Work.free]) rfl ?_
    simp (disch := omega) only [SX0, SX1, SX2, SX3, SX4, SX5, SX6, SX7, SX8, SU0, SY0, Nat.reduceAdd, Nat.reduceMul, Nat.reduceSub, Nat.reduceLeDiff, Nat.reduceEqDiff, Nat.reduceLT, Nat.reduceBEq, ↓reduceIte, Int.reduceLE, Int.reduceLT, Int.reduceToNat, Int.reduceNeg, reduceCtorEq, Int.reduceEq, SF0, SF1, SF2, DZc0, DWb0, DWa0, DLa0, DCg0, DCe0, DCe1, DCe2, DDb0, DBc0, DBc1, DKa0, DHb0, DHb1, DHa0, DDe0, DWc0, DAlh0, DPa0]
    refine br_bool (fun h6 => ?_) (fun h6 => ?_)
    · simp (disch := omega) only [SX0, SX1, SX2, SX3, SX4, SX5, SX6, SX7, SX8, SU0, SY0, Nat.reduceAdd, Nat.reduceMul, Nat.reduceSub, Nat.reduceLeDiff, Nat.reduceEqDiff, Nat.reduceLT, Nat.reduceBEq, ↓reduceIte, Int.reduceLE, Int.reduceLT, Int.reduceToNat, Int.reduceNeg, reduceCtorEq, Int.reduceEq, SF0, SF1, SF2, DZc0, DWb0, DWa0, DLa0, DCg0, DCe0, DCe1, DCe2, DDb0, DBc0, DBc1, DKa0, DHb0, DHb1, DHa0, DDe0, DWc0, DAlh0, DPa0]
      exact fin_val ⟨vF fun hh => by have := (hh.2.1 q (List.mem_of_getElem? hq)).2.2; simp [this] at h6, rfl⟩
    · have h7 : fills k q.pa q.tu q.box.W q.box.H = true := by simpa using h6
      have e : (l.take (i + 1)).map (fun q : Place => q.box.cs) = (l.take i).map (fun q : Place => q.box.cs) ++ [q.box.cs] := by rw [List.take_add_one, hq]; simp
      simp only [Box.cs, List.map_take] at e
      have hli : (l.take i).length = i := by rw [List.length_take]; omega
      simp (disch := omega) only [SX0, SX1, SX2, SX3, SX4, SX5, SX6, SX7, SX8, SU0, SY0, Nat.reduceAdd, Nat.reduceMul, Nat.reduceSub, Nat.reduceLeDiff, Nat.reduceEqDiff, Nat.reduceLT, Nat.reduceBEq, ↓reduceIte, Int.reduceLE, Int.reduceLT, Int.reduceToNat, Int.reduceNeg, reduceCtorEq, Int.reduceEq, SF0, SF1, SF2, DZc0, DWb0, DWa0, DLa0, DCg0, DCe0, DCe1, DCe2, DDb0, DBc0, DBc1, DKa0, DHb0, DHb1, DHa0, DDe0, DWc0, DAlh0, DPa0, Place.drop_box, Place.drop_pb]
      refine req (by omega) ?_
      simp (disch := omega) only [SX0, SX1, SX2, SX3, SX4, SX5, SX6, SX7, SX8, SU0, SY0, Nat.reduceAdd, Nat.reduceMul, Nat.reduceSub, Nat.reduceLeDiff, Nat.reduceEqDiff, Nat.reduceLT, Nat.reduceBEq, ↓reduceIte, Int.reduceLE, Int.reduceLT, Int.reduceToNat, Int.reduceNeg, reduceCtorEq, Int.reduceEq, SF0, SF1, SF2, DZc0, DWb0, DWa0, DLa0, DCg0, DCe0, DCe1, DCe2, DDb0, DBc0, DBc1, DKa0, DHb0, DHb1, DHa0, DDe0, DWc0, DAlh0, DPa0]
      refine ⟨i + 1, ⟨by omega, take_next hq hig ⟨h4, h5, h7⟩⟩, by omega, ?_⟩
      (refine wk_le ?_ ?_ ?_; (focus (simp [W8, leTm, leAV, AV.under, underL, Work.under, e, Box.cs]; done)); (focus (simp [leL, OB.under, underL, AV.under, Work.under, e, Box.cs]; done)); (focus (simp; done)))
  · have hil : i = l.length := by omega
    have e : l.take i = l := List.take_of_length_le (by omega)
    rw [e] at hig
    have A := apartS_c (l.map Place.box) (by simp; omega) (fun b hb => by obtain ⟨q, hq, rfl⟩ := List.mem_map.1 hb; exact (hig q hq).1)
    simp (disch := omega) only [SX0, SX1, SX2, SX3, SX4, SX5, SX6, SX7, SX8, SU0, SY0, Nat.reduceAdd, Nat.reduceMul, Nat.reduceSub, Nat.reduceLeDiff, Nat.reduceEqDiff, Nat.reduceLT, Nat.reduceBEq, ↓reduceIte, Int.reduceLE, Int.reduceLT, Int.reduceToNat, Int.reduceNeg, reduceCtorEq, Int.reduceEq, SF0, SF1, SF2, DZc0, DWb0, DWa0, DLa0, DCg0, DCe0, DCe1, DCe2, DDb0, DBc0, DBc1, DKa0, DHb0, DHb1, DHa0, DDe0, DWc0, DAlh0, DPa0]
    refine acall_one (validWorkS_c k hk) (by simp [freeL, AV.free, Work.free]) rfl ?_
    simp (disch := omega) only [SX0, SX1, SX2, SX3, SX4, SX5, SX6, SX7, SX8, SU0, SY0, Nat.reduceAdd, Nat.reduceMul, Nat.reduceSub, Nat.reduceLeDiff, Nat.reduceEqDiff, Nat.reduceLT, Nat.reduceBEq, ↓reduceIte, Int.reduceLE, Int.reduceLT, Int.reduceToNat, Int.reduceNeg, reduceCtorEq, Int.reduceEq, SF0, SF1, SF2, DZc0, DWb0, DWa0, DLa0, DCg0, DCe0, DCe1, DCe2, DDb0, DBc0, DBc1, DKa0, DHb0, DHb1, DHa0, DDe0, DWc0, DAlh0, DPa0]
    refine br_dec (fun h5 => ?_) (fun h5 => ?_)
    · simp (disch := omega) only [SX0, SX1, SX2, SX3, SX4, SX5, SX6, SX7, SX8, SU0, SY0, Nat.reduceAdd, Nat.reduceMul, Nat.reduceSub, Nat.reduceLeDiff, Nat.reduceEqDiff, Nat.reduceLT, Nat.reduceBEq, ↓reduceIte, Int.reduceLE, Int.reduceLT, Int.reduceToNat, Int.reduceNeg, reduceCtorEq, Int.reduceEq, SF0, SF1, SF2, DZc0, DWb0, DWa0, DLa0, DCg0, DCe0, DCe1, DCe2, DDb0, DBc0, DBc1, DKa0, DHb0, DHb1, DHa0, DDe0, DWc0, DAlh0, DPa0]
      refine br_dec (fun h6 => ?_) (fun h6 => ?_)
      · simp (disch := omega) only [SX0, SX1, SX2, SX3, SX4, SX5, SX6, SX7, SX8, SU0, SY0, Nat.reduceAdd, Nat.reduceMul, Nat.reduceSub, Nat.reduceLeDiff, Nat.reduceEqDiff, Nat.reduceLT, Nat.reduceBEq, ↓reduceIte, Int.reduceLE, Int.reduceLT, Int.reduceToNat, Int.reduceNeg, reduceCtorEq, Int.reduceEq, SF0, SF1, SF2, DZc0, DWb0, DWa0, DLa0, DCg0, DCe0, DCe1, DCe2, DDb0, DBc0, DBc1, DKa0, DHb0, DHb1, DHa0, DDe0, DWc0, DAlh0, DPa0]
        refine acall_borrow (r := 1) (k := 4) (es := (l.take i).map fun q => q.box.cs) rfl (v := .bool (decide (apartL (l.map Place.box)))) ?_ ?_
        · subst hil
          simp only [List.map_cons, List.map_nil, AV.frz, frzL, if_true, Nat.zero_add, List.drop_zero, true_and, List.length_map, Nat.le_refl, List.take_length]
          rw [List.take_of_length_le (by simp)]
          have := qcall_one A rfl
          simpa only [List.map_map, Function.comp_def] using this
        simp (disch := omega) only [SX0, SX1, SX2, SX3, SX4, SX5, SX6, SX7, SX8, SU0, SY0, Nat.reduceAdd, Nat.reduceMul, Nat.reduceSub, Nat.reduceLeDiff, Nat.reduceEqDiff, Nat.reduceLT, Nat.reduceBEq, ↓reduceIte, Int.reduceLE, Int.reduceLT, Int.reduceToNat, Int.reduceNeg, reduceCtorEq, Int.reduceEq, SF0, SF1, SF2, DZc0, DWb0, DWa0, DLa0, DCg0, DCe0, DCe1, DCe2, DDb0, DBc0, DBc1, DKa0, DHb0, DHb1, DHa0, DDe0, DWc0, DAlh0, DPa0]
        refine fin_val ⟨vb ?_, rfl⟩
        unfold placesOk
        exact ⟨fun hh => ⟨⟨h5, by omega⟩, fun q hq => (Place.goodS_iff h5).1 (hig q hq), hh⟩, fun hh => hh.2.2⟩
      · simp (disch := omega) only [SX0, SX1, SX2, SX3, SX4, SX5, SX6, SX7, SX8, SU0, SY0, Nat.reduceAdd, Nat.reduceMul, Nat.reduceSub, Nat.reduceLeDiff, Nat.reduceEqDiff, Nat.reduceLT, Nat.reduceBEq, ↓reduceIte, Int.reduceLE, Int.reduceLT, Int.reduceToNat, Int.reduceNeg, reduceCtorEq, Int.reduceEq, SF0, SF1, SF2, DZc0, DWb0, DWa0, DLa0, DCg0, DCe0, DCe1, DCe2, DDb0, DBc0, DBc1, DKa0, DHb0, DHb1, DHa0, DDe0, DWc0, DAlh0, DPa0]
        exact fin_val ⟨vF fun hh => h6 (by have := hh.1.2; omega), rfl⟩
    · simp (disch := omega) only [SX0, SX1, SX2, SX3, SX4, SX5, SX6, SX7, SX8, SU0, SY0, Nat.reduceAdd, Nat.reduceMul, Nat.reduceSub, Nat.reduceLeDiff, Nat.reduceEqDiff, Nat.reduceLT, Nat.reduceBEq, ↓reduceIte, Int.reduceLE, Int.reduceLT, Int.reduceToNat, Int.reduceNeg, reduceCtorEq, Int.reduceEq, SF0, SF1, SF2, DZc0, DWb0, DWa0, DLa0, DCg0, DCe0, DCe1, DCe2, DDb0, DBc0, DBc1, DKa0, DHb0, DHb1, DHa0, DDe0, DWc0, DAlh0, DPa0]
      exact fin_val ⟨vF fun hh => h5 hh.1.1, rfl⟩

theorem e_planOfPlacesS : Enters Try.prog 14 := enters_of Try.func14 (by kernel_rfl) (by kernel_rfl)
set_option maxRecDepth 8000 in
theorem planOfPlacesS_no (k : Work) (l : List Place) (hk : k.Ps.length < 2 ^ 40) (hl : l.length < 2 ^ 30) (hks : (-1000 ≤ k.W ∧ k.W ≤ 1000) ∧ (-1000 ≤ k.H ∧ k.H ≤ 1000)) (h : ¬ placesOk k l) : ACalls Try.prog 14 [.agg k.cs, .sl (l.map Place.cs)] [] [] (fun x L => x = .tup [.agg Plan.zero.cs, .val (.bool false)] ∧ L = []) := by
  have V := validPlacesS_c k l hk hl hks
  rw [decide_eq_false h] at V
  refine acalls_tm T_tt Try.func14 rfl e_planOfPlacesS 18 rfl (W8 _ _ .any .any .any .any .any .any (W8 .any .any .any .any .any .any .any .any [.any, .any, .any, .any])) rfl (rv := [.cell 4 28, .tmp 5]) rfl (sx_sound (bl := []) T_tt _ _ _ ?_)
  simp (disch := omega) only [SX0, SX1, SX2, SX3, SX4, SX5, SX6, SX7, SX8, SU0, SY0, Nat.reduceAdd, Nat.reduceMul, Nat.reduceSub, Nat.reduceLeDiff, Nat.reduceEqDiff, Nat.reduceLT, Nat.reduceBEq, ↓reduceIte, Int.reduceLE, Int.reduceLT, Int.reduceToNat, Int.reduceNeg, reduceCtorEq, Int.reduceEq, SF0, SF1, SF2, DZc0, DWb0, DWa0, DLa0, DCg0, DCe0, DCe1, DCe2, DDb0, DBc0, DBc1, DKa0, DHb0, DHb1, DHa0, DDe0, DWc0, DAlh0, DPa0]
  refine acall_one V (by simp [freeL, AV.free, Work.free]) rfl ?_
  simp (disch := omega) only [SX0, SX1, SX2, SX3, SX4, SX5, SX6, SX7, SX8, SU0, SY0, Nat.reduceAdd, Nat.reduceMul, Nat.reduceSub, Nat.reduceLeDiff, Nat.reduceEqDiff, Nat.reduceLT, Nat.reduceBEq, ↓reduceIte, Int.reduceLE, Int.reduceLT, Int.reduceToNat, Int.reduceNeg, reduceCtorEq, Int.reduceEq, SF0, SF1, SF2, DZc0, DWb0, DWa0, DLa0, DCg0, DCe0, DCe1, DCe2, DDb0, DBc0, DBc1, DKa0, DHb0, DHb1, DHa0, DDe0, DWc0, DAlh0, DPa0]
  refine fin_nrm ?_
  simp only [AV.nrm, nrmL]
  exact fin_free rfl ⟨by simp [Plan.zero_cs], rfl⟩

set_option maxRecDepth 8000 in
theorem planOfPlacesS_c (k : Work) (l : List Place) (hk : k.Ps.length < 2 ^ 40) (h : placesOk k l) {r : Option Plan} (hr : PF l k.sheet r) : ACalls Try.prog 14 [.agg k.cs, .sl (l.map Place.cs)] [] [] (fun x L => x = .tup [.agg (r.getD .zero).cs, .val (.bool r.isSome)] ∧ L = []) := by
  have hll := h.1.2
  have hsh := Work.sheet_sane h.1.1
  unfold Box.sane at hsh
  have V := validPlacesS_c k l hk (by omega) (by have := h.1.1; unfold Work.ok at this; omega)
  rw [decide_eq_true h] at V
  obtain ⟨r', hr', A⟩ := planForS_p 1000 l k.sheet (by omega) (fun q hq => ok_near (h.2.1 q hq).1) (by omega) (by omega) (by omega)
  have er := hr.uniq hr'
  subst er
  have esh : k.sheet.cs = [.val (.int .i64 0), .val (.int .i64 0), .val (.int .i64 k.W), .val (.int .i64 k.H)] := rfl
  rw [esh] at A
  refine acalls_tm T_tt Try.func14 rfl e_planOfPlacesS 18 rfl (W8 _ _ .any .any .any .any .any .any (W8 .any .any .any .any .any .any .any .any [.any, .any, .any, .any])) rfl (rv := [.cell 4 28, .tmp 5]) rfl (sx_sound (bl := []) T_tt _ _ _ ?_)
  simp (disch := omega) only [SX0, SX1, SX2, SX3, SX4, SX5, SX6, SX7, SX8, SU0, SY0, Nat.reduceAdd, Nat.reduceMul, Nat.reduceSub, Nat.reduceLeDiff, Nat.reduceEqDiff, Nat.reduceLT, Nat.reduceBEq, ↓reduceIte, Int.reduceLE, Int.reduceLT, Int.reduceToNat, Int.reduceNeg, reduceCtorEq, Int.reduceEq, SF0, SF1, SF2, DZc0, DWb0, DWa0, DLa0, DCg0, DCe0, DCe1, DCe2, DDb0, DBc0, DBc1, DKa0, DHb0, DHb1, DHa0, DDe0, DWc0, DAlh0, DPa0]
  refine acall_one V (by simp [freeL, AV.free, Work.free]) rfl ?_
  simp (disch := omega) only [SX0, SX1, SX2, SX3, SX4, SX5, SX6, SX7, SX8, SU0, SY0, Nat.reduceAdd, Nat.reduceMul, Nat.reduceSub, Nat.reduceLeDiff, Nat.reduceEqDiff, Nat.reduceLT, Nat.reduceBEq, ↓reduceIte, Int.reduceLE, Int.reduceLT, Int.reduceToNat, Int.reduceNeg, reduceCtorEq, Int.reduceEq, SF0, SF1, SF2, DZc0, DWb0, DWa0, DLa0, DCg0, DCe0, DCe1, DCe2, DDb0, DBc0, DBc1, DKa0, DHb0, DHb1, DHa0, DDe0, DWc0, DAlh0, DPa0]
  refine acall_one A rfl (by simp [AV.free, freeL, Plan.free]) ?_
  simp (disch := omega) only [SX0, SX1, SX2, SX3, SX4, SX5, SX6, SX7, SX8, SU0, SY0, Nat.reduceAdd, Nat.reduceMul, Nat.reduceSub, Nat.reduceLeDiff, Nat.reduceEqDiff, Nat.reduceLT, Nat.reduceBEq, ↓reduceIte, Int.reduceLE, Int.reduceLT, Int.reduceToNat, Int.reduceNeg, reduceCtorEq, Int.reduceEq, SF0, SF1, SF2, DZc0, DWb0, DWa0, DLa0, DCg0, DCe0, DCe1, DCe2, DDb0, DBc0, DBc1, DKa0, DHb0, DHb1, DHa0, DDe0, DWc0, DAlh0, DPa0]
  exact fin_free (by simp [AV.free, freeL, Plan.free]) ⟨rfl, rfl⟩

end Go.Pc
