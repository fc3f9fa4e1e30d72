/- The law of panes that are used: it holds of all bytes. -/
import Derived.Test.YthdbcghlcipijaaDe
import Derived.Test.YthdbcghlcipijaaRow
import Derived.Test.YthdbcghlcipijaaHd
set_option linter.unusedSimpArgs false
set_option linter.unusedVariables false
namespace Go.Pc
open Go Go.Proofs

theorem e_drawUsedOf : Enters Try.prog 35 := enters_of Try.func35 (by kernel_rfl) (by kernel_rfl)
theorem drawUsedOf_c (xs : List Int) (hx : ∀ x ∈ xs, 0 ≤ x ∧ x < 256) : ACalls Try.prog 35 [.sl (bys xs)] [] [] (fun r L => L = [] ∧ ∃ (k : Work) (q : Plan), r = .tup [.agg k.cs, .agg q.cs] ∧ k.Small ∧ q.Small) := by
  have hx' := take_byte hx
  have hl' : (xs.take 2000).length ≤ 2000 := by rw [List.length_take]; omega
  refine acalls_tm T_tt Try.func35 rfl e_drawUsedOf 8 rfl (W8 _ .any .any .any .any .any .any .any [.any]) rfl (rv := [.cell 2 47, .cell 3 35]) rfl (sx_sound (bl := []) T_tt _ _ _ ?_)
  simp (disch := omega) only [SX0, SX1, SX2, SX3, SX4, SX5, SX6, SX7, SX8, SU0, SY0, SY1, Nat.reduceAdd, Nat.reduceMul, Nat.reduceSub, Nat.reduceLeDiff, Nat.reduceEqDiff, Nat.reduceLT, Nat.reduceBEq, ↓reduceIte, Int.reduceLE, Int.reduceLT, Int.reduceToNat, Int.reduceNeg, reduceCtorEq, Int.reduceEq, SF0, SF1, SF2, DDc0, DCg0, DCe0, DCa0, DCa1, DDb0, DBc0, DBa0, DHb0, DHb1, DHa0]
  refine acall_own (newReader_c xs) [] [] (by simp only [SX0, SX1, SX2, SX3, SX4, SX5, SX6, SX7, SX8, SU0, SY0, SY1, Nat.reduceAdd, Nat.reduceMul, Nat.reduceSub, Nat.reduceLeDiff, Nat.reduceEqDiff, Nat.reduceLT, Nat.reduceBEq, ↓reduceIte, Int.reduceLE, Int.reduceLT, Int.reduceToNat, Int.reduceNeg, reduceCtorEq, Int.reduceEq, SF0, SF1, SF2, DDc0, DCg0, DCe0, DCa0, DCa1, DDb0, DBc0, DBa0, DHb0, DHb1, DHa0, SX0]) (by decide) (by decide) (by rfl) (by simp only [SX0, SX1, SX2, SX3, SX4, SX5, SX6, SX7, SX8, SU0, SY0, SY1, Nat.reduceAdd, Nat.reduceMul, Nat.reduceSub, Nat.reduceLeDiff, Nat.reduceEqDiff, Nat.reduceLT, Nat.reduceBEq, ↓reduceIte, Int.reduceLE, Int.reduceLT, Int.reduceToNat, Int.reduceNeg, reduceCtorEq, Int.reduceEq, SF0, SF1, SF2, DDc0, DCg0, DCe0, DCa0, DCa1, DDb0, DBc0, DBa0, DHb0, DHb1, DHa0, SX0]) ?_
  rintro _ _ ⟨rfl, rfl⟩
  simp (disch := omega) only [SX0, SX1, SX2, SX3, SX4, SX5, SX6, SX7, SX8, SU0, SY0, SY1, Nat.reduceAdd, Nat.reduceMul, Nat.reduceSub, Nat.reduceLeDiff, Nat.reduceEqDiff, Nat.reduceLT, Nat.reduceBEq, ↓reduceIte, Int.reduceLE, Int.reduceLT, Int.reduceToNat, Int.reduceNeg, reduceCtorEq, Int.reduceEq, SF0, SF1, SF2, DDc0, DCg0, DCe0, DCa0, DCa1, DDb0, DBc0, DBa0, DHb0, DHb1, DHa0]
  refine acall_own (anyPlan_c _ 0 hx' hl' (by omega)) [2] [] (by simp only [SX0, SX1, SX2, SX3, SX4, SX5, SX6, SX7, SX8, SU0, SY0, SY1, Nat.reduceAdd, Nat.reduceMul, Nat.reduceSub, Nat.reduceLeDiff, Nat.reduceEqDiff, Nat.reduceLT, Nat.reduceBEq, ↓reduceIte, Int.reduceLE, Int.reduceLT, Int.reduceToNat, Int.reduceNeg, reduceCtorEq, Int.reduceEq, SF0, SF1, SF2, DDc0, DCg0, DCe0, DCa0, DCa1, DDb0, DBc0, DBa0, DHb0, DHb1, DHa0, SX0]) (by decide) (by decide) (by rfl) (by simp only [SX0, SX1, SX2, SX3, SX4, SX5, SX6, SX7, SX8, SU0, SY0, SY1, Nat.reduceAdd, Nat.reduceMul, Nat.reduceSub, Nat.reduceLeDiff, Nat.reduceEqDiff, Nat.reduceLT, Nat.reduceBEq, ↓reduceIte, Int.reduceLE, Int.reduceLT, Int.reduceToNat, Int.reduceNeg, reduceCtorEq, Int.reduceEq, SF0, SF1, SF2, DDc0, DCg0, DCe0, DCa0, DCa1, DDb0, DBc0, DBa0, DHb0, DHb1, DHa0, SX0]) ?_
  rintro _ _ ⟨k, q, p1, rfl, rfl, hk, hq, hp1, hkw⟩
  simp (disch := omega) only [SX0, SX1, SX2, SX3, SX4, SX5, SX6, SX7, SX8, SU0, SY0, SY1, Nat.reduceAdd, Nat.reduceMul, Nat.reduceSub, Nat.reduceLeDiff, Nat.reduceEqDiff, Nat.reduceLT, Nat.reduceBEq, ↓reduceIte, Int.reduceLE, Int.reduceLT, Int.reduceToNat, Int.reduceNeg, reduceCtorEq, Int.reduceEq, SF0, SF1, SF2, DDc0, DCg0, DCe0, DCa0, DCa1, DDb0, DBc0, DBa0, DHb0, DHb1, DHa0]
  exact fin_free (by simp [AV.free, freeL, Work.free, Plan.free]) ⟨rfl, k, q, rfl, hk, hq⟩

theorem equalInts_self (a : List Int) (ha : a.length < 2 ^ 40) : ACalls Try.prog 22 [.sl (ints a), .sl (ints a)] [] [] (fun r L => r = .val (.bool true) ∧ L = []) := (equalInts_c a a ha ha).mono fun r L ⟨h1, h2⟩ => ⟨by rw [h1, decide_eq_true rfl], h2⟩

theorem mul_rng {a b m n : Int} (ha : 0 ≤ a ∧ a ≤ m) (hb : 0 ≤ b ∧ b ≤ n) : 0 ≤ a * b ∧ a * b ≤ m * n :=
  ⟨Int.mul_nonneg ha.1 hb.1, Int.mul_le_mul ha.2 hb.2 hb.1 (by omega)⟩

theorem sum_bd {M : Int} {l : List Int} (hM : 0 ≤ M) (h : ∀ x ∈ l, 0 ≤ x ∧ x ≤ M) : 0 ≤ l.sum ∧ l.sum ≤ M * l.length := by
  induction l with
  | nil => simp
  | cons x l ih =>
    have h1 := h x (by simp)
    have h2 := ih fun y hy => h y (by simp [hy])
    simp only [List.sum_cons, List.length_cons, Int.natCast_add, Int.mul_add]
    omega

theorem e_fnUsedOf : Enters Try.prog 7 := enters_of Try.func7 (by kernel_rfl) (by kernel_rfl)
set_option maxHeartbeats 4000000 in
theorem fnUsedOf_c : LawC 7 := by
  intro xs hx hl
  refine acalls_tm T_tt Try.func7 rfl e_fnUsedOf 81 rfl (W8 _ .any .any .any .any .any .any .any (W8 .any .any .any .any .any .any .any .any (W8 .any .any .any .any .any .any .any .any (W8 .any .any .any .any .any .any .any .any (W8 .any .any .any .any .any .any .any .any (W8 .any .any .any .any .any .any .any .any (W8 .any .any .any .any .any .any .any .any (W8 .any .any .any .any .any .any .any .any (W8 .any .any .any .any .any .any .any .any (W8 .any .any .any .any .any .any .any .any [.any, .any])))))))))) rfl (rv := [.tmp 2]) rfl (sx_sound (bl := []) T_tt _ _ _ ?_)
  simp (disch := omega) only [SX0, SX1, SX2, SX3, SX4, SX5, SX6, SX7, SX8, SU0, SY0, SY1, Nat.reduceAdd, Nat.reduceMul, Nat.reduceSub, Nat.reduceLeDiff, Nat.reduceEqDiff, Nat.reduceLT, Nat.reduceBEq, ↓reduceIte, Int.reduceLE, Int.reduceLT, Int.reduceToNat, Int.reduceNeg, reduceCtorEq, Int.reduceEq, SF0, SF1, SF2, DDc0, DCg0, DCe0, DCa0, DCa1, DDb0, DBc0, DBa0, DHb0, DHb1, DHa0, bysLen]
  refine br_dec (fun h1 => ?_) (fun h1 => ?_)
  · simp (disch := omega) only [SX0, SX1, SX2, SX3, SX4, SX5, SX6, SX7, SX8, SU0, SY0, SY1, Nat.reduceAdd, Nat.reduceMul, Nat.reduceSub, Nat.reduceLeDiff, Nat.reduceEqDiff, Nat.reduceLT, Nat.reduceBEq, ↓reduceIte, Int.reduceLE, Int.reduceLT, Int.reduceToNat, Int.reduceNeg, reduceCtorEq, Int.reduceEq, SF0, SF1, SF2, DDc0, DCg0, DCe0, DCa0, DCa1, DDb0, DBc0, DBa0, DHb0, DHb1, DHa0]
    exact fin_val ⟨rfl, rfl⟩
  simp (disch := omega) only [SX0, SX1, SX2, SX3, SX4, SX5, SX6, SX7, SX8, SU0, SY0, SY1, Nat.reduceAdd, Nat.reduceMul, Nat.reduceSub, Nat.reduceLeDiff, Nat.reduceEqDiff, Nat.reduceLT, Nat.reduceBEq, ↓reduceIte, Int.reduceLE, Int.reduceLT, Int.reduceToNat, Int.reduceNeg, reduceCtorEq, Int.reduceEq, SF0, SF1, SF2, DDc0, DCg0, DCe0, DCa0, DCa1, DDb0, DBc0, DBa0, DHb0, DHb1, DHa0]
  refine acall_own (drawUsedOf_c xs hx) [] [] (by simp only [SX0, SX1, SX2, SX3, SX4, SX5, SX6, SX7, SX8, SU0, SY0, SY1, Nat.reduceAdd, Nat.reduceMul, Nat.reduceSub, Nat.reduceLeDiff, Nat.reduceEqDiff, Nat.reduceLT, Nat.reduceBEq, ↓reduceIte, Int.reduceLE, Int.reduceLT, Int.reduceToNat, Int.reduceNeg, reduceCtorEq, Int.reduceEq, SF0, SF1, SF2, DDc0, DCg0, DCe0, DCa0, DCa1, DDb0, DBc0, DBa0, DHb0, DHb1, DHa0, SX0]) (by decide) (by decide) (by rfl) (by simp only [SX0, SX1, SX2, SX3, SX4, SX5, SX6, SX7, SX8, SU0, SY0, SY1, Nat.reduceAdd, Nat.reduceMul, Nat.reduceSub, Nat.reduceLeDiff, Nat.reduceEqDiff, Nat.reduceLT, Nat.reduceBEq, ↓reduceIte, Int.reduceLE, Int.reduceLT, Int.reduceToNat, Int.reduceNeg, reduceCtorEq, Int.reduceEq, SF0, SF1, SF2, DDc0, DCg0, DCe0, DCa0, DCa1, DDb0, DBc0, DBa0, DHb0, DHb1, DHa0, SX0]) ?_
  rintro _ _ ⟨rfl, k, p, rfl, hk, hp⟩
  have hk24 := hk.2.2.1
  have hkl : k.Ps.length < 2 ^ 40 := by omega
  simp (disch := omega) only [SX0, SX1, SX2, SX3, SX4, SX5, SX6, SX7, SX8, SU0, SY0, SY1, Nat.reduceAdd, Nat.reduceMul, Nat.reduceSub, Nat.reduceLeDiff, Nat.reduceEqDiff, Nat.reduceLT, Nat.reduceBEq, ↓reduceIte, Int.reduceLE, Int.reduceLT, Int.reduceToNat, Int.reduceNeg, reduceCtorEq, Int.reduceEq, SF0, SF1, SF2, DDc0, DCg0, DCe0, DCa0, DCa1, DDb0, DBc0, DBa0, DHb0, DHb1, DHa0]
  refine acall_one (usedOfI_c k p hkl) (by simp [freeL, AV.free, Plan.free, Work.free]) rfl ?_
  simp (disch := omega) only [SX0, SX1, SX2, SX3, SX4, SX5, SX6, SX7, SX8, SU0, SY0, SY1, Nat.reduceAdd, Nat.reduceMul, Nat.reduceSub, Nat.reduceLeDiff, Nat.reduceEqDiff, Nat.reduceLT, Nat.reduceBEq, ↓reduceIte, Int.reduceLE, Int.reduceLT, Int.reduceToNat, Int.reduceNeg, reduceCtorEq, Int.reduceEq, SF0, SF1, SF2, DDc0, DCg0, DCe0, DCa0, DCa1, DDb0, DBc0, DBa0, DHb0, DHb1, DHa0]
  refine acall_one (usedOfS_c k p hkl) (by simp [freeL, AV.free, Plan.free, Work.free]) rfl ?_
  simp (disch := omega) only [SX0, SX1, SX2, SX3, SX4, SX5, SX6, SX7, SX8, SU0, SY0, SY1, Nat.reduceAdd, Nat.reduceMul, Nat.reduceSub, Nat.reduceLeDiff, Nat.reduceEqDiff, Nat.reduceLT, Nat.reduceBEq, ↓reduceIte, Int.reduceLE, Int.reduceLT, Int.reduceToNat, Int.reduceNeg, reduceCtorEq, Int.reduceEq, SF0, SF1, SF2, DDc0, DCg0, DCe0, DCa0, DCa1, DDb0, DBc0, DBa0, DHb0, DHb1, DHa0]
  have hul : (p.used k).length ≤ 24 := by
    unfold Plan.used
    split
    · rw [cnts_len]; exact hk24
    · simp
  refine acall_one (equalInts_self (p.used k) (by omega)) rfl rfl ?_
  simp (disch := omega) only [SX0, SX1, SX2, SX3, SX4, SX5, SX6, SX7, SX8, SU0, SY0, SY1, Nat.reduceAdd, Nat.reduceMul, Nat.reduceSub, Nat.reduceLeDiff, Nat.reduceEqDiff, Nat.reduceLT, Nat.reduceBEq, ↓reduceIte, Int.reduceLE, Int.reduceLT, Int.reduceToNat, Int.reduceNeg, reduceCtorEq, Int.reduceEq, SF0, SF1, SF2, DDc0, DCg0, DCe0, DCa0, DCa1, DDb0, DBc0, DBa0, DHb0, DHb1, DHa0]
  refine acall_one (validPlanI_c k p hkl) (by simp [freeL, AV.free, Plan.free, Work.free]) rfl ?_
  simp (disch := omega) only [SX0, SX1, SX2, SX3, SX4, SX5, SX6, SX7, SX8, SU0, SY0, SY1, Nat.reduceAdd, Nat.reduceMul, Nat.reduceSub, Nat.reduceLeDiff, Nat.reduceEqDiff, Nat.reduceLT, Nat.reduceBEq, ↓reduceIte, Int.reduceLE, Int.reduceLT, Int.reduceToNat, Int.reduceNeg, reduceCtorEq, Int.reduceEq, SF0, SF1, SF2, DDc0, DCg0, DCe0, DCa0, DCa1, DDb0, DBc0, DBa0, DHb0, DHb1, DHa0]
  refine br_ndec (fun hv => ?_) (fun hv => ?_)
  · simp (disch := omega) only [SX0, SX1, SX2, SX3, SX4, SX5, SX6, SX7, SX8, SU0, SY0, SY1, Nat.reduceAdd, Nat.reduceMul, Nat.reduceSub, Nat.reduceLeDiff, Nat.reduceEqDiff, Nat.reduceLT, Nat.reduceBEq, ↓reduceIte, Int.reduceLE, Int.reduceLT, Int.reduceToNat, Int.reduceNeg, reduceCtorEq, Int.reduceEq, SF0, SF1, SF2, DDc0, DCg0, DCe0, DCa0, DCa1, DDb0, DBc0, DBa0, DHb0, DHb1, DHa0]
    refine acall_one (usedOfS_c k p hkl) (by simp [freeL, AV.free, Plan.free, Work.free]) rfl ?_
    simp (disch := omega) only [SX0, SX1, SX2, SX3, SX4, SX5, SX6, SX7, SX8, SU0, SY0, SY1, Nat.reduceAdd, Nat.reduceMul, Nat.reduceSub, Nat.reduceLeDiff, Nat.reduceEqDiff, Nat.reduceLT, Nat.reduceBEq, ↓reduceIte, Int.reduceLE, Int.reduceLT, Int.reduceToNat, Int.reduceNeg, reduceCtorEq, Int.reduceEq, SF0, SF1, SF2, DDc0, DCg0, DCe0, DCa0, DCa1, DDb0, DBc0, DBa0, DHb0, DHb1, DHa0]
    refine acall_one (equalInts_self (p.used k) (by omega)) rfl rfl ?_
    simp (disch := omega) only [SX0, SX1, SX2, SX3, SX4, SX5, SX6, SX7, SX8, SU0, SY0, SY1, Nat.reduceAdd, Nat.reduceMul, Nat.reduceSub, Nat.reduceLeDiff, Nat.reduceEqDiff, Nat.reduceLT, Nat.reduceBEq, ↓reduceIte, Int.reduceLE, Int.reduceLT, Int.reduceToNat, Int.reduceNeg, reduceCtorEq, Int.reduceEq, SF0, SF1, SF2, DDc0, DCg0, DCe0, DCa0, DCa1, DDb0, DBc0, DBa0, DHb0, DHb1, DHa0]
    exact fin_val ⟨rfl, rfl⟩
  have hW := wastesOfI_c k p hkl
  have hwl : ((p.vparts k).filterMap wasteOf).length ≤ 255 := Nat.le_trans (List.length_filterMap_le _ _) (vparts_len p k)
  have hwb : ∀ x ∈ (p.vparts k).filterMap wasteOf, (0 ≤ x.W ∧ x.W ≤ 1000) ∧ (0 ≤ x.H ∧ x.H ≤ 1000) := fun x hx => by
    unfold Plan.vparts at hx
    rw [if_pos hv] at hx
    obtain ⟨q, hq, he⟩ := List.mem_filterMap.1 hx
    have := (Plan.parts_in k p hv.2.1.1 k.sheet (Work.sheet_sane hv.1) hv.2.2 q hq).1
    unfold wasteOf at he
    split at he
    · cases he
      unfold Box.sane at this
      omega
    · cases he
  simp (disch := omega) only [SX0, SX1, SX2, SX3, SX4, SX5, SX6, SX7, SX8, SU0, SY0, SY1, Nat.reduceAdd, Nat.reduceMul, Nat.reduceSub, Nat.reduceLeDiff, Nat.reduceEqDiff, Nat.reduceLT, Nat.reduceBEq, ↓reduceIte, Int.reduceLE, Int.reduceLT, Int.reduceToNat, Int.reduceNeg, reduceCtorEq, Int.reduceEq, SF0, SF1, SF2, DDc0, DCg0, DCe0, DCa0, DCa1, DDb0, DBc0, DBa0, DHb0, DHb1, DHa0]
  refine acall_one hW (by simp [freeL, AV.free, Plan.free, Work.free]) rfl ?_
  simp (disch := omega) only [SX0, SX1, SX2, SX3, SX4, SX5, SX6, SX7, SX8, SU0, SY0, SY1, Nat.reduceAdd, Nat.reduceMul, Nat.reduceSub, Nat.reduceLeDiff, Nat.reduceEqDiff, Nat.reduceLT, Nat.reduceBEq, ↓reduceIte, Int.reduceLE, Int.reduceLT, Int.reduceToNat, Int.reduceNeg, reduceCtorEq, Int.reduceEq, SF0, SF1, SF2, DDc0, DCg0, DCe0, DCa0, DCa1, DDb0, DBc0, DBa0, DHb0, DHb1, DHa0]
  refine acall_one (area_c _ hwb (by omega)) rfl rfl ?_
  have hpl := places_le hv
  have hpa := Plan.places_pa k p hv.2.1.1 k.sheet hv.2.2
  have hsum := Plan.area_sum k p hv.2.1.1 k.sheet hv.2.2
  have hus := usesOf_sum hpa
  have hcs := cnts_sum hpa
  have hu : p.used k = cnts k.Ps.length (p.places k.sheet) := by unfold Plan.used; rw [if_pos hv]
  have hwv : (p.vparts k).filterMap wasteOf = p.wastes k.sheet := by unfold Plan.vparts; rw [if_pos hv]; rfl
  have hP := placesOfI_c k p hkl
  rw [vparts_valid hv] at hP
  have hWW : k.sheet.W = k.W := rfl
  have hHH : k.sheet.H = k.H := rfl
  rw [← hus, hWW, hHH, ← hwv] at hsum
  have hkW := hv.1.1
  have hkH := hv.1.2.1
  have hWH := mul_rng (m := 200) (n := 200) ⟨by omega, hkW.2⟩ ⟨by omega, hkH.2⟩
  have hkp := hv.1.2.2.1
  rw [hu]
  generalize p.places k.sheet = l at *
  have hab : 0 ≤ (((p.vparts k).filterMap wasteOf).map Box.area).sum ∧ (((p.vparts k).filterMap wasteOf).map Box.area).sum ≤ 255000000 := by
    have := sum_bound (l := ((p.vparts k).filterMap wasteOf).map Box.area) fun y hy => by
      obtain ⟨z, hz, rfl⟩ := List.mem_map.1 hy
      have := hwb z hz
      have := mul_rng this.1 this.2
      unfold Box.area; omega
    rw [List.length_map] at this
    omega
  generalize (((p.vparts k).filterMap wasteOf).map Box.area).sum = A at *
  simp (disch := omega) only [SX0, SX1, SX2, SX3, SX4, SX5, SX6, SX7, SX8, SU0, SY0, SY1, Nat.reduceAdd, Nat.reduceMul, Nat.reduceSub, Nat.reduceLeDiff, Nat.reduceEqDiff, Nat.reduceLT, Nat.reduceBEq, ↓reduceIte, Int.reduceLE, Int.reduceLT, Int.reduceToNat, Int.reduceNeg, reduceCtorEq, Int.reduceEq, SF0, SF1, SF2, DDc0, DCg0, DCe0, DCa0, DCa1, DDb0, DBc0, DBa0, DHb0, DHb1, DHa0]
  with_reducible refine awp_loop_h 6 76 (fun (i : Nat) => [(6, .val (.int .i64 (A + ((k.usesOf l).take i).sum))), (7, .val (.int .i64 i))]) (fun i => [.cells k.cs, .cells p.cs]) (fun i => i ≤ k.Ps.length) (fun i => k.Ps.length - i) 0 (Nat.zero_le _) ?_ (fun i hi => sx_sound (bl := []) T_tt _ _ _ ?_)
  · simp (disch := omega) only [SX0, SX1, SX2, SX3, SX4, SX5, SX6, SX7, SX8, SU0, SY0, SY1, Nat.reduceAdd, Nat.reduceMul, Nat.reduceSub, Nat.reduceLeDiff, Nat.reduceEqDiff, Nat.reduceLT, Nat.reduceBEq, ↓reduceIte, Int.reduceLE, Int.reduceLT, Int.reduceToNat, Int.reduceNeg, reduceCtorEq, Int.reduceEq, SF0, SF1, SF2, DDc0, DCg0, DCe0, DCa0, DCa1, DDb0, DBc0, DBa0, DHb0, DHb1, DHa0]
    (refine wk_le ?_ ?_ ?_; (focus (simp [W8, leTm, leAV, AV.under, underL, Work.under, Plan.under]; done)); (focus (simp [leL, OB.under, underL, AV.under, Work.under, Plan.under]; done)); (focus (simp; done)))
  simp (disch := omega) only [SX0, SX1, SX2, SX3, SX4, SX5, SX6, SX7, SX8, SU0, SY0, SY1, Nat.reduceAdd, Nat.reduceMul, Nat.reduceSub, Nat.reduceLeDiff, Nat.reduceEqDiff, Nat.reduceLT, Nat.reduceBEq, ↓reduceIte, Int.reduceLE, Int.reduceLT, Int.reduceToNat, Int.reduceNeg, reduceCtorEq, Int.reduceEq, SF0, SF1, SF2, DDc0, DCg0, DCe0, DCa0, DCa1, DDb0, DBc0, DBa0, DHb0, DHb1, DHa0, cnts_len]
  refine br_dec (fun h1 => ?_) (fun h1 => ?_)
  · obtain ⟨q, hq⟩ := get_lt (l := k.Ps) (i := i) (by omega)
    obtain ⟨c, hc⟩ := get_lt (l := cnts k.Ps.length l) (i := i) (by rw [cnts_len]; omega)
    have hqo := hkp q (List.mem_of_getElem? hq)
    unfold Pane.ok at hqo
    have hcl := cnts_le c (List.mem_of_getElem? hc)
    have m1 := mul_rng (a := c) (b := q.W) (m := 255) (n := 200) ⟨hcl.1, by omega⟩ ⟨by omega, by omega⟩
    have m2 := mul_rng (a := c * q.W) (b := q.H) (m := 51000) (n := 200) ⟨m1.1, by omega⟩ ⟨by omega, by omega⟩
    have hug := usesOf_get hq hc
    have hub : ∀ y ∈ k.usesOf l, 0 ≤ y ∧ y ≤ 10200000 := fun y hy => by
      obtain ⟨j, hj⟩ := List.mem_iff_getElem?.1 hy
      have hjl : j < k.Ps.length := by
        have := (List.getElem?_eq_some_iff.1 hj).1
        simpa [Work.usesOf] using this
      obtain ⟨q', hq'⟩ := get_lt (l := k.Ps) (i := j) hjl
      have hc' := cnts_get (l := l) hjl
      rw [usesOf_get hq' hc'] at hj
      cases hj
      have hqo' := hkp q' (List.mem_of_getElem? hq')
      unfold Pane.ok at hqo'
      have hcl' := cnts_le _ (List.mem_of_getElem? hc')
      have m1' := mul_rng (b := q'.W) (m := 255) (n := 200) ⟨hcl'.1, Int.le_trans hcl'.2 (by omega)⟩ ⟨by omega, by omega⟩
      have m2' := mul_rng (b := q'.H) (m := 51000) (n := 200) ⟨m1'.1, Int.le_trans m1'.2 (by omega)⟩ ⟨by omega, by omega⟩
      exact ⟨m2'.1, Int.le_trans m2'.2 (by omega)⟩
    have hs := sum_bd (l := (k.usesOf l).take i) (M := 10200000) (by omega) fun y hy => hub y (List.mem_of_mem_take hy)
    have hsl : ((k.usesOf l).take i).length ≤ 24 := by rw [List.length_take]; omega
    have hs2 : (10200000 : Int) * (((k.usesOf l).take i).length : Int) ≤ 244800000 := by omega
    have e := sum_take hug
    have e2 : A + ((k.usesOf l).take (i + 1)).sum = A + ((k.usesOf l).take i).sum + c * q.W * q.H := by omega
    simp (disch := omega) only [SX0, SX1, SX2, SX3, SX4, SX5, SX6, SX7, SX8, SU0, SY0, SY1, Nat.reduceAdd, Nat.reduceMul, Nat.reduceSub, Nat.reduceLeDiff, Nat.reduceEqDiff, Nat.reduceLT, Nat.reduceBEq, ↓reduceIte, Int.reduceLE, Int.reduceLT, Int.reduceToNat, Int.reduceNeg, reduceCtorEq, Int.reduceEq, SF0, SF1, SF2, DDc0, DCg0, DCe0, DCa0, DCa1, DDb0, DBc0, DBa0, DHb0, DHb1, DHa0]
    refine awp_drawA T_tt mixed (by decide +kernel) (by kernel_rfl) (by kernel_rfl) ?_
    simp (disch := omega) only [SX0, SX1, SX2, SX3, SX4, SX5, SX6, SX7, SX8, SU0, SY0, SY1, Nat.reduceAdd, Nat.reduceMul, Nat.reduceSub, Nat.reduceLeDiff, Nat.reduceEqDiff, Nat.reduceLT, Nat.reduceBEq, ↓reduceIte, Int.reduceLE, Int.reduceLT, Int.reduceToNat, Int.reduceNeg, reduceCtorEq, Int.reduceEq, SF0, SF1, SF2, DDc0, DCg0, DCe0, DCa0, DCa1, DDb0, DBc0, DBa0, DHb0, DHb1, DHa0, hq, hc, Pane.cs]
    refine ⟨i + 1, by omega, by omega, ?_⟩
    (refine wk_le ?_ ?_ ?_; (focus (simp [W8, leTm, leAV, AV.under, underL, Work.under, Plan.under, e2]; done)); (focus (simp [leL, OB.under, underL, AV.under, Work.under, Plan.under, e2]; done)); (focus (simp; done)))
  · simp (disch := omega) only [SX0, SX1, SX2, SX3, SX4, SX5, SX6, SX7, SX8, SU0, SY0, SY1, Nat.reduceAdd, Nat.reduceMul, Nat.reduceSub, Nat.reduceLeDiff, Nat.reduceEqDiff, Nat.reduceLT, Nat.reduceBEq, ↓reduceIte, Int.reduceLE, Int.reduceLT, Int.reduceToNat, Int.reduceNeg, reduceCtorEq, Int.reduceEq, SF0, SF1, SF2, DDc0, DCg0, DCe0, DCa0, DCa1, DDb0, DBc0, DBa0, DHb0, DHb1, DHa0]
    refine awp_drawA T_tt mixed (by decide +kernel) (by kernel_rfl) (by kernel_rfl) ?_
    simp (disch := omega) only [SX0, SX1, SX2, SX3, SX4, SX5, SX6, SX7, SX8, SU0, SY0, SY1, Nat.reduceAdd, Nat.reduceMul, Nat.reduceSub, Nat.reduceLeDiff, Nat.reduceEqDiff, Nat.reduceLT, Nat.reduceBEq, ↓reduceIte, Int.reduceLE, Int.reduceLT, Int.reduceToNat, Int.reduceNeg, reduceCtorEq, Int.reduceEq, SF0, SF1, SF2, DDc0, DCg0, DCe0, DCa0, DCa1, DDb0, DBc0, DBa0, DHb0, DHb1, DHa0]
    refine qc_one (total_c _ (fun y hy => by have := cnts_le y hy; omega) (by rw [cnts_len]; omega)) rfl ?_
    simp (disch := omega) only [SX0, SX1, SX2, SX3, SX4, SX5, SX6, SX7, SX8, SU0, SY0, SY1, Nat.reduceAdd, Nat.reduceMul, Nat.reduceSub, Nat.reduceLeDiff, Nat.reduceEqDiff, Nat.reduceLT, Nat.reduceBEq, ↓reduceIte, Int.reduceLE, Int.reduceLT, Int.reduceToNat, Int.reduceNeg, reduceCtorEq, Int.reduceEq, SF0, SF1, SF2, DDc0, DCg0, DCe0, DCa0, DCa1, DDb0, DBc0, DBa0, DHb0, DHb1, DHa0]
    refine qc_one hP (by simp [freeL, AV.free, Plan.free, Work.free]) ?_
    simp (disch := omega) only [SX0, SX1, SX2, SX3, SX4, SX5, SX6, SX7, SX8, SU0, SY0, SY1, Nat.reduceAdd, Nat.reduceMul, Nat.reduceSub, Nat.reduceLeDiff, Nat.reduceEqDiff, Nat.reduceLT, Nat.reduceBEq, ↓reduceIte, Int.reduceLE, Int.reduceLT, Int.reduceToNat, Int.reduceNeg, reduceCtorEq, Int.reduceEq, SF0, SF1, SF2, DDc0, DCg0, DCe0, DCa0, DCa1, DDb0, DBc0, DBa0, DHb0, DHb1, DHa0]
    refine br_dec (fun h2 => ?_) (fun h2 => absurd hcs h2)
    have eT : (k.usesOf l).take i = k.usesOf l := List.take_of_length_le (by simp [Work.usesOf]; omega)
    rw [eT, hsum]
    simp (disch := omega) only [SX0, SX1, SX2, SX3, SX4, SX5, SX6, SX7, SX8, SU0, SY0, SY1, Nat.reduceAdd, Nat.reduceMul, Nat.reduceSub, Nat.reduceLeDiff, Nat.reduceEqDiff, Nat.reduceLT, Nat.reduceBEq, ↓reduceIte, Int.reduceLE, Int.reduceLT, Int.reduceToNat, Int.reduceNeg, reduceCtorEq, Int.reduceEq, SF0, SF1, SF2, DDc0, DCg0, DCe0, DCa0, DCa1, DDb0, DBc0, DBa0, DHb0, DHb1, DHa0]
    exact fin_val ⟨rfl, rfl⟩
end Go.Pc
