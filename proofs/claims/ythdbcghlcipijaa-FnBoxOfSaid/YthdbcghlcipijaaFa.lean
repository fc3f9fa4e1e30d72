/- The law of parts: it holds of all bytes. -/
import Derived.Test.YthdbcghlcipijaaDe
import Derived.Test.YthdbcghlcipijaaRow
set_option linter.unusedSimpArgs false
set_option linter.unusedVariables false
namespace Go.Pc
open Go Go.Proofs

theorem Plan.boxAt_get {p : Plan} {k : Work} {n : Int} (h : p.hasBox k n) : ∃ q, (p.parts k.sheet)[n.toNat]? = some q ∧ p.boxAt k n = q.2 := by
  obtain ⟨q, hq⟩ := get_lt (l := p.parts k.sheet) (i := n.toNat) (by rw [Plan.parts_len p h.1.2.1.1]; have := h.2.2; have := h.2.1; omega)
  exact ⟨q, hq, by unfold Plan.boxAt; rw [if_pos h, hq]; rfl⟩

theorem Plan.law_whole {p : Plan} {k : Work} {n : Int} (h : p.hasBox k n) : p.hasBox k 0 ∧ p.boxAt k 0 = k.sheet ∧ (p.boxAt k n).inside k.sheet := by
  have hn := p.nodes_pos
  have h0 : p.hasBox k 0 := ⟨h.1, Int.le_refl _, by omega⟩
  obtain ⟨q, hq, e⟩ := Plan.boxAt_get h
  obtain ⟨q0, hq0, e0⟩ := Plan.boxAt_get h0
  refine ⟨h0, ?_, ?_⟩
  · rw [e0]
    by_cases hc : p.cut
    · obtain ⟨x, y, hk, _⟩ := Plan.two h.1.2.1.1 hc
      rw [Plan.parts_cut hc hk] at hq0
      simp at hq0
      rw [← hq0]
    · rw [Plan.parts_leaf hc] at hq0
      simp at hq0
      rw [← hq0]
  · rw [e]
    exact (Plan.parts_in k p h.1.2.1.1 k.sheet (Work.sheet_sane h.1.1) h.1.2.2 q (List.mem_of_getElem? hq)).2

theorem Plan.law_above {p : Plan} {k : Work} {n : Int} (h : p.hasBox k n) (ha : 0 ≤ p.above n) : p.hasBox k (p.above n) ∧ (p.boxAt k n).inside (p.boxAt k (p.above n)) ∧ p.boxAt k n ≠ p.boxAt k (p.above n) := by
  have hab : ∃ q, (p.knots 0 (-1)).find? (fun q => decide (q.1 = n)) = some q ∧ p.above n = q.2 := by
    unfold Plan.above at *
    rw [if_pos h.1.2.1] at *
    cases hf : (p.knots 0 (-1)).find? (fun q => decide (q.1 = n)) with
    | none => rw [hf] at ha; simp at ha
    | some q => exact ⟨q, rfl, rfl⟩
  obtain ⟨q, hf, e⟩ := hab
  have hm := List.mem_of_find?_eq_some hf
  have hqn : q.1 = n := by simpa using List.find?_some hf
  have hr := Plan.knots_rng p h.1.2.1.1 _ _ q hm
  rw [e] at ha ⊢
  rcases Plan.knots_in k p h.1.2.1.1 k.sheet (Work.sheet_sane h.1.1) h.1.2.2 0 (-1) q hm with h0 | ⟨h0, u, v, hu, hv, hi, hne⟩
  · have := hr.2.2.2 h0; omega
  · simp only [Int.sub_zero] at hu hv
    rw [hqn] at hv
    have hl := (List.getElem?_eq_some_iff.1 hu).1
    rw [Plan.parts_len p h.1.2.1.1] at hl
    have hb2 : p.hasBox k q.2 := ⟨h.1, h0, by omega⟩
    obtain ⟨u', hu', e1⟩ := Plan.boxAt_get hb2
    obtain ⟨v', hv', e2⟩ := Plan.boxAt_get h
    rw [hu] at hu'; cases hu'
    rw [hv] at hv'; cases hv'
    rw [e1, e2]
    exact ⟨hb2, hi, hne⟩

theorem e_equalBox : Enters Try.prog 44 := enters_of Try.func44 (by kernel_rfl) (by kernel_rfl)
theorem equalBox_c (a b : Box) : ACalls Try.prog 44 [.agg a.cs, .agg b.cs] [] [] (fun r L => r = .val (.bool (decide (a = b))) ∧ L = []) := by
  refine acalls_tm T_tt Try.func44 rfl e_equalBox 6 rfl (W8 _ _ .any .any .any .any .any .any []) rfl (rv := [.tmp 4]) rfl (sx_sound (bl := []) T_tt _ _ _ ?_)
  simp (disch := omega) only [SX0, SX1, SX2, SX3, SX4, SX5, SX6, SX7, SX8, SU0, SY0, SY1, Nat.reduceAdd, Nat.reduceMul, Nat.reduceSub, Nat.reduceLeDiff, Nat.reduceEqDiff, Nat.reduceLT, Nat.reduceBEq, ↓reduceIte, Int.reduceLE, Int.reduceLT, Int.reduceToNat, Int.reduceNeg, reduceCtorEq, Int.reduceEq, SF0, SF1, SF2, DDc0, DCg0, DCe0, DCa0, DCa1, DDb0, DBc0, DBa0]
  exact fin_val ⟨rfl, rfl⟩
theorem equalBox_self (a : Box) : ACalls Try.prog 44 [.agg a.cs, .agg a.cs] [] [] (fun r L => r = .val (.bool true) ∧ L = []) := (equalBox_c a a).mono fun r L ⟨h1, h2⟩ => ⟨by rw [h1, decide_eq_true rfl], h2⟩

theorem e_fnBoxOf : Enters Try.prog 8 := enters_of Try.func8 (by kernel_rfl) (by kernel_rfl)
set_option maxHeartbeats 4000000 in
theorem fnBoxOf_c : LawC 8 := by
  intro xs hx hl
  refine acalls_tm T_tt Try.func8 rfl e_fnBoxOf 102 rfl (W8 _ .any .any .any .any .any .any .any (W8 .any .any .any .any .any .any .any .any (W8 .any .any .any .any .any .any .any .any (W8 .any .any .any .any .any .any .any .any (W8 .any .any .any .any .any .any .any .any (W8 .any .any .any .any .any .any .any .any (W8 .any .any .any .any .any .any .any .any (W8 .any .any .any .any .any .any .any .any (W8 .any .any .any .any .any .any .any .any (W8 .any .any .any .any .any .any .any .any (W8 .any .any .any .any .any .any .any .any (W8 .any .any .any .any .any .any .any .any [.any, .any, .any, .any, .any, .any, .any])))))))))))) rfl (rv := [.tmp 2]) rfl (sx_sound (bl := []) T_tt _ _ _ ?_)
  simp (disch := omega) only [SX0, SX1, SX2, SX3, SX4, SX5, SX6, SX7, SX8, SU0, SY0, SY1, Nat.reduceAdd, Nat.reduceMul, Nat.reduceSub, Nat.reduceLeDiff, Nat.reduceEqDiff, Nat.reduceLT, Nat.reduceBEq, ↓reduceIte, Int.reduceLE, Int.reduceLT, Int.reduceToNat, Int.reduceNeg, reduceCtorEq, Int.reduceEq, SF0, SF1, SF2, DDc0, DCg0, DCe0, DCa0, DCa1, DDb0, DBc0, DBa0, bysLen]
  refine br_dec (fun h1 => ?_) (fun h1 => ?_)
  · simp (disch := omega) only [SX0, SX1, SX2, SX3, SX4, SX5, SX6, SX7, SX8, SU0, SY0, SY1, Nat.reduceAdd, Nat.reduceMul, Nat.reduceSub, Nat.reduceLeDiff, Nat.reduceEqDiff, Nat.reduceLT, Nat.reduceBEq, ↓reduceIte, Int.reduceLE, Int.reduceLT, Int.reduceToNat, Int.reduceNeg, reduceCtorEq, Int.reduceEq, SF0, SF1, SF2, DDc0, DCg0, DCe0, DCa0, DCa1, DDb0, DBc0, DBa0]
    exact fin_val ⟨rfl, rfl⟩
  simp (disch := omega) only [SX0, SX1, SX2, SX3, SX4, SX5, SX6, SX7, SX8, SU0, SY0, SY1, Nat.reduceAdd, Nat.reduceMul, Nat.reduceSub, Nat.reduceLeDiff, Nat.reduceEqDiff, Nat.reduceLT, Nat.reduceBEq, ↓reduceIte, Int.reduceLE, Int.reduceLT, Int.reduceToNat, Int.reduceNeg, reduceCtorEq, Int.reduceEq, SF0, SF1, SF2, DDc0, DCg0, DCe0, DCa0, DCa1, DDb0, DBc0, DBa0]
  refine acall_own (drawBoxOf_c xs hx) [] [] (by simp only [SX0, SX1, SX2, SX3, SX4, SX5, SX6, SX7, SX8, SU0, SY0, SY1, Nat.reduceAdd, Nat.reduceMul, Nat.reduceSub, Nat.reduceLeDiff, Nat.reduceEqDiff, Nat.reduceLT, Nat.reduceBEq, ↓reduceIte, Int.reduceLE, Int.reduceLT, Int.reduceToNat, Int.reduceNeg, reduceCtorEq, Int.reduceEq, SF0, SF1, SF2, DDc0, DCg0, DCe0, DCa0, DCa1, DDb0, DBc0, DBa0, SX0]) (by decide) (by decide) (by rfl) (by simp only [SX0, SX1, SX2, SX3, SX4, SX5, SX6, SX7, SX8, SU0, SY0, SY1, Nat.reduceAdd, Nat.reduceMul, Nat.reduceSub, Nat.reduceLeDiff, Nat.reduceEqDiff, Nat.reduceLT, Nat.reduceBEq, ↓reduceIte, Int.reduceLE, Int.reduceLT, Int.reduceToNat, Int.reduceNeg, reduceCtorEq, Int.reduceEq, SF0, SF1, SF2, DDc0, DCg0, DCe0, DCa0, DCa1, DDb0, DBc0, DBa0, SX0]) ?_
  rintro _ _ ⟨rfl, k, p, n, rfl, hk, hp, hn⟩
  have hkl : k.Ps.length < 2 ^ 40 := by have := hk.2.2.1; omega
  simp (disch := omega) only [SX0, SX1, SX2, SX3, SX4, SX5, SX6, SX7, SX8, SU0, SY0, SY1, Nat.reduceAdd, Nat.reduceMul, Nat.reduceSub, Nat.reduceLeDiff, Nat.reduceEqDiff, Nat.reduceLT, Nat.reduceBEq, ↓reduceIte, Int.reduceLE, Int.reduceLT, Int.reduceToNat, Int.reduceNeg, reduceCtorEq, Int.reduceEq, SF0, SF1, SF2, DDc0, DCg0, DCe0, DCa0, DCa1, DDb0, DBc0, DBa0]
  by_cases hb : p.hasBox k n
  · have hI := boxOfI_c k p n hkl
    have hS := boxOfS_c k p n hkl
    rw [decide_eq_true hb] at hI hS
    refine acall_one hI (by simp [freeL, AV.free, Plan.free, Work.free]) (by simp [freeL, AV.free, Box.free]) ?_
    simp (disch := omega) only [SX0, SX1, SX2, SX3, SX4, SX5, SX6, SX7, SX8, SU0, SY0, SY1, Nat.reduceAdd, Nat.reduceMul, Nat.reduceSub, Nat.reduceLeDiff, Nat.reduceEqDiff, Nat.reduceLT, Nat.reduceBEq, ↓reduceIte, Int.reduceLE, Int.reduceLT, Int.reduceToNat, Int.reduceNeg, reduceCtorEq, Int.reduceEq, SF0, SF1, SF2, DDc0, DCg0, DCe0, DCa0, DCa1, DDb0, DBc0, DBa0]
    refine acall_one hS (by simp [freeL, AV.free, Plan.free, Work.free]) (by simp [freeL, AV.free, Box.free]) ?_
    simp (disch := omega) only [SX0, SX1, SX2, SX3, SX4, SX5, SX6, SX7, SX8, SU0, SY0, SY1, Nat.reduceAdd, Nat.reduceMul, Nat.reduceSub, Nat.reduceLeDiff, Nat.reduceEqDiff, Nat.reduceLT, Nat.reduceBEq, ↓reduceIte, Int.reduceLE, Int.reduceLT, Int.reduceToNat, Int.reduceNeg, reduceCtorEq, Int.reduceEq, SF0, SF1, SF2, DDc0, DCg0, DCe0, DCa0, DCa1, DDb0, DBc0, DBa0]
    refine acall_one (equalBox_self _) (by simp [freeL, AV.free, Box.free]) rfl ?_
    simp (disch := omega) only [SX0, SX1, SX2, SX3, SX4, SX5, SX6, SX7, SX8, SU0, SY0, SY1, Nat.reduceAdd, Nat.reduceMul, Nat.reduceSub, Nat.reduceLeDiff, Nat.reduceEqDiff, Nat.reduceLT, Nat.reduceBEq, ↓reduceIte, Int.reduceLE, Int.reduceLT, Int.reduceToNat, Int.reduceNeg, reduceCtorEq, Int.reduceEq, SF0, SF1, SF2, DDc0, DCg0, DCe0, DCa0, DCa1, DDb0, DBc0, DBa0, eq_self, decide_true]
    refine acall_one (aboveOf_c p n) (by simp [freeL, AV.free, Plan.free]) rfl ?_
    simp (disch := omega) only [SX0, SX1, SX2, SX3, SX4, SX5, SX6, SX7, SX8, SU0, SY0, SY1, Nat.reduceAdd, Nat.reduceMul, Nat.reduceSub, Nat.reduceLeDiff, Nat.reduceEqDiff, Nat.reduceLT, Nat.reduceBEq, ↓reduceIte, Int.reduceLE, Int.reduceLT, Int.reduceToNat, Int.reduceNeg, reduceCtorEq, Int.reduceEq, SF0, SF1, SF2, DDc0, DCg0, DCe0, DCa0, DCa1, DDb0, DBc0, DBa0]
    obtain ⟨h0, e0, hi0⟩ := Plan.law_whole hb
    have hI0 := boxOfI_c k p 0 hkl
    rw [decide_eq_true h0] at hI0
    refine acall_one hI0 (by simp [freeL, AV.free, Plan.free, Work.free]) (by simp [freeL, AV.free, Box.free]) ?_
    simp (disch := omega) only [SX0, SX1, SX2, SX3, SX4, SX5, SX6, SX7, SX8, SU0, SY0, SY1, Nat.reduceAdd, Nat.reduceMul, Nat.reduceSub, Nat.reduceLeDiff, Nat.reduceEqDiff, Nat.reduceLT, Nat.reduceBEq, ↓reduceIte, Int.reduceLE, Int.reduceLT, Int.reduceToNat, Int.reduceNeg, reduceCtorEq, Int.reduceEq, SF0, SF1, SF2, DDc0, DCg0, DCe0, DCa0, DCa1, DDb0, DBc0, DBa0]
    refine br_dec (fun ha => ?_) (fun ha => ?_)
    · obtain ⟨h2, hi2, hne⟩ := Plan.law_above hb ha
      have hI2 := boxOfI_c k p (p.above n) hkl
      rw [decide_eq_true h2] at hI2
      simp (disch := omega) only [SX0, SX1, SX2, SX3, SX4, SX5, SX6, SX7, SX8, SU0, SY0, SY1, Nat.reduceAdd, Nat.reduceMul, Nat.reduceSub, Nat.reduceLeDiff, Nat.reduceEqDiff, Nat.reduceLT, Nat.reduceBEq, ↓reduceIte, Int.reduceLE, Int.reduceLT, Int.reduceToNat, Int.reduceNeg, reduceCtorEq, Int.reduceEq, SF0, SF1, SF2, DDc0, DCg0, DCe0, DCa0, DCa1, DDb0, DBc0, DBa0]
      refine acall_one hI2 (by simp [freeL, AV.free, Plan.free, Work.free]) (by simp [freeL, AV.free, Box.free]) ?_
      simp (disch := omega) only [SX0, SX1, SX2, SX3, SX4, SX5, SX6, SX7, SX8, SU0, SY0, SY1, Nat.reduceAdd, Nat.reduceMul, Nat.reduceSub, Nat.reduceLeDiff, Nat.reduceEqDiff, Nat.reduceLT, Nat.reduceBEq, ↓reduceIte, Int.reduceLE, Int.reduceLT, Int.reduceToNat, Int.reduceNeg, reduceCtorEq, Int.reduceEq, SF0, SF1, SF2, DDc0, DCg0, DCe0, DCa0, DCa1, DDb0, DBc0, DBa0]
      have hin := insideOfI_c (p.boxAt k n) (p.boxAt k (p.above n))
      rw [decide_eq_true hi2] at hin
      refine acall_one hin (by simp [freeL, AV.free, Box.free]) rfl ?_
      simp (disch := omega) only [SX0, SX1, SX2, SX3, SX4, SX5, SX6, SX7, SX8, SU0, SY0, SY1, Nat.reduceAdd, Nat.reduceMul, Nat.reduceSub, Nat.reduceLeDiff, Nat.reduceEqDiff, Nat.reduceLT, Nat.reduceBEq, ↓reduceIte, Int.reduceLE, Int.reduceLT, Int.reduceToNat, Int.reduceNeg, reduceCtorEq, Int.reduceEq, SF0, SF1, SF2, DDc0, DCg0, DCe0, DCa0, DCa1, DDb0, DBc0, DBa0]
      exact fin_val ⟨by rw [decide_eq_false hne]; rfl, rfl⟩
    · simp (disch := omega) only [SX0, SX1, SX2, SX3, SX4, SX5, SX6, SX7, SX8, SU0, SY0, SY1, Nat.reduceAdd, Nat.reduceMul, Nat.reduceSub, Nat.reduceLeDiff, Nat.reduceEqDiff, Nat.reduceLT, Nat.reduceBEq, ↓reduceIte, Int.reduceLE, Int.reduceLT, Int.reduceToNat, Int.reduceNeg, reduceCtorEq, Int.reduceEq, SF0, SF1, SF2, DDc0, DCg0, DCe0, DCa0, DCa1, DDb0, DBc0, DBa0]
      have hin := insideOfI_c (p.boxAt k n) (p.boxAt k 0)
      rw [e0, decide_eq_true hi0] at hin
      have hsh : [AV.val (.int .i64 0), .val (.int .i64 0), .val (.int .i64 k.W), .val (.int .i64 k.H)] = k.sheet.cs := rfl
      rw [e0]
      simp (disch := omega) only [SX0, SX1, SX2, SX3, SX4, SX5, SX6, SX7, SX8, SU0, SY0, SY1, Nat.reduceAdd, Nat.reduceMul, Nat.reduceSub, Nat.reduceLeDiff, Nat.reduceEqDiff, Nat.reduceLT, Nat.reduceBEq, ↓reduceIte, Int.reduceLE, Int.reduceLT, Int.reduceToNat, Int.reduceNeg, reduceCtorEq, Int.reduceEq, SF0, SF1, SF2, DDc0, DCg0, DCe0, DCa0, DCa1, DDb0, DBc0, DBa0, hsh, eq_self, decide_true]
      refine acall_one hin (by simp [freeL, AV.free, Box.free]) rfl ?_
      simp (disch := omega) only [SX0, SX1, SX2, SX3, SX4, SX5, SX6, SX7, SX8, SU0, SY0, SY1, Nat.reduceAdd, Nat.reduceMul, Nat.reduceSub, Nat.reduceLeDiff, Nat.reduceEqDiff, Nat.reduceLT, Nat.reduceBEq, ↓reduceIte, Int.reduceLE, Int.reduceLT, Int.reduceToNat, Int.reduceNeg, reduceCtorEq, Int.reduceEq, SF0, SF1, SF2, DDc0, DCg0, DCe0, DCa0, DCa1, DDb0, DBc0, DBa0]
      exact fin_val ⟨rfl, rfl⟩
  · have hI := boxOfI_c k p n hkl
    have hS := boxOfS_c k p n hkl
    rw [decide_eq_false hb] at hI hS
    refine acall_one hI (by simp [freeL, AV.free, Plan.free, Work.free]) (by simp [freeL, AV.free, Box.free]) ?_
    simp (disch := omega) only [SX0, SX1, SX2, SX3, SX4, SX5, SX6, SX7, SX8, SU0, SY0, SY1, Nat.reduceAdd, Nat.reduceMul, Nat.reduceSub, Nat.reduceLeDiff, Nat.reduceEqDiff, Nat.reduceLT, Nat.reduceBEq, ↓reduceIte, Int.reduceLE, Int.reduceLT, Int.reduceToNat, Int.reduceNeg, reduceCtorEq, Int.reduceEq, SF0, SF1, SF2, DDc0, DCg0, DCe0, DCa0, DCa1, DDb0, DBc0, DBa0]
    refine acall_one hS (by simp [freeL, AV.free, Plan.free, Work.free]) (by simp [freeL, AV.free, Box.free]) ?_
    simp (disch := omega) only [SX0, SX1, SX2, SX3, SX4, SX5, SX6, SX7, SX8, SU0, SY0, SY1, Nat.reduceAdd, Nat.reduceMul, Nat.reduceSub, Nat.reduceLeDiff, Nat.reduceEqDiff, Nat.reduceLT, Nat.reduceBEq, ↓reduceIte, Int.reduceLE, Int.reduceLT, Int.reduceToNat, Int.reduceNeg, reduceCtorEq, Int.reduceEq, SF0, SF1, SF2, DDc0, DCg0, DCe0, DCa0, DCa1, DDb0, DBc0, DBa0]
    refine acall_one (equalBox_self _) (by simp [freeL, AV.free, Box.free]) rfl ?_
    simp (disch := omega) only [SX0, SX1, SX2, SX3, SX4, SX5, SX6, SX7, SX8, SU0, SY0, SY1, Nat.reduceAdd, Nat.reduceMul, Nat.reduceSub, Nat.reduceLeDiff, Nat.reduceEqDiff, Nat.reduceLT, Nat.reduceBEq, ↓reduceIte, Int.reduceLE, Int.reduceLT, Int.reduceToNat, Int.reduceNeg, reduceCtorEq, Int.reduceEq, SF0, SF1, SF2, DDc0, DCg0, DCe0, DCa0, DCa1, DDb0, DBc0, DBa0, eq_self, decide_true]
    refine acall_one (equalBox_self _) (by simp [freeL, AV.free, Box.free]) rfl ?_
    simp (disch := omega) only [SX0, SX1, SX2, SX3, SX4, SX5, SX6, SX7, SX8, SU0, SY0, SY1, Nat.reduceAdd, Nat.reduceMul, Nat.reduceSub, Nat.reduceLeDiff, Nat.reduceEqDiff, Nat.reduceLT, Nat.reduceBEq, ↓reduceIte, Int.reduceLE, Int.reduceLT, Int.reduceToNat, Int.reduceNeg, reduceCtorEq, Int.reduceEq, SF0, SF1, SF2, DDc0, DCg0, DCe0, DCa0, DCa1, DDb0, DBc0, DBa0, eq_self, decide_true]
    exact fin_val ⟨rfl, rfl⟩
end Go.Pc
