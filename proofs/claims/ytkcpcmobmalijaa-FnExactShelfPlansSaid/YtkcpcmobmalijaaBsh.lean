/- Rows of panes on sheets: the reference's plans are the program's. -/
import Derived.Test.YtkcpcmobmalijaaBsg
set_option linter.unusedSimpArgs false
set_option linter.unusedVariables false
namespace Go.Pc
open Go Go.Proofs

theorem e_shelfPlansS : Enters Try.prog 84 := enters_of Try.func84 (by kernel_rfl) (by kernel_rfl)
set_option maxRecDepth 16000 in
set_option maxHeartbeats 8000000 in
theorem shelfPlansS_c (k : Work) (hk : plainW k) (o : List Int) (ho : OrdS k o) : ACalls Try.prog 84 [.agg k.cs] [] [] (fun x L => x = .sl ((shelfPlansP k o).map Plan.cs) ∧ L = []) := by
  have hkw := hk.1
  unfold Work.ok at hkw
  have hidx : ∀ i ∈ o, 0 ≤ i ∧ i < (k.Ps.length : Int) := fun i hi => ho.mem.1 hi
  have hol := ho.len
  have hst := shRun_take hk hidx
  unfold shelfPlansP
  rw [hst]
  have FA := fallingS_c k (by omega)
  refine acalls_tm T_tt Try.func84 rfl e_shelfPlansS 50 rfl (W8 _ .any .any .any .any .any .any .any (W8 .any .any .any .any .any .any .any .any (W8 .any .any .any .any .any .any .any .any (W8 .any .any .any .any .any .any .any .any (W8 .any .any .any .any .any .any .any .any (W8 .any .any .any .any .any .any .any .any [.any, .any, .any])))))) rfl (rv := [.tmp 2]) rfl (sx_sound (bl := []) T_tt _ _ _ ?_)
  simp (disch := omega) only [SX0, SX1, SX2, SX3, SX4, SX5, SX6, SX7, SX8, SU0, SY0, SY1, Nat.reduceAdd, Nat.reduceMul, Nat.reduceSub, Nat.reduceLeDiff, Nat.reduceEqDiff, Nat.reduceLT, Nat.reduceBEq, ↓reduceIte, Int.reduceLE, Int.reduceLT, Int.reduceToNat, Int.reduceNeg, reduceCtorEq, Int.reduceEq, SF0, SF1, SF2, DHb0, DHb1, DHa0, DCg0, DCe0, DCe1, DCe2, DDb0, DBc0, DBc1, DDe0, DAlh0, DAlv0, DBtc0]
  with_reducible refine awp_loop_h (G := Nat) 5 46 (fun i => [(3, .os 1 1 0 i), (4, .val (.int .i64 i))]) (fun i => [.cells k.cs, .vec 1 (ints ((hsOf k).take i))]) (fun i => i ≤ k.Ps.length) (fun i => k.Ps.length - i) 0 (Nat.zero_le _) ?_ (fun i hi => ?_)
  · simp (disch := omega) only [SX0, SX1, SX2, SX3, SX4, SX5, SX6, SX7, SX8, SU0, SY0, SY1, Nat.reduceAdd, Nat.reduceMul, Nat.reduceSub, Nat.reduceLeDiff, Nat.reduceEqDiff, Nat.reduceLT, Nat.reduceBEq, ↓reduceIte, Int.reduceLE, Int.reduceLT, Int.reduceToNat, Int.reduceNeg, reduceCtorEq, Int.reduceEq, SF0, SF1, SF2, DHb0, DHb1, DHa0, DCg0, DCe0, DCe1, DCe2, DDb0, DBc0, DBc1, DDe0, DAlh0, DAlv0, DBtc0]
    (refine wk_le ?_ ?_ ?_; (focus (simp [W8, leTm, leAV, AV.under, underL, ints, Work.under]; done)); (focus (simp [leL, OB.under, underL, AV.under, ints, Work.under]; done)); (focus (simp; done)))
  refine sx_sound (bl := []) T_tt _ _ _ ?_
  simp (disch := omega) only [SX0, SX1, SX2, SX3, SX4, SX5, SX6, SX7, SX8, SU0, SY0, SY1, Nat.reduceAdd, Nat.reduceMul, Nat.reduceSub, Nat.reduceLeDiff, Nat.reduceEqDiff, Nat.reduceLT, Nat.reduceBEq, ↓reduceIte, Int.reduceLE, Int.reduceLT, Int.reduceToNat, Int.reduceNeg, reduceCtorEq, Int.reduceEq, SF0, SF1, SF2, DHb0, DHb1, DHa0, DCg0, DCe0, DCe1, DCe2, DDb0, DBc0, DBc1, DDe0, DAlh0, DAlv0, DBtc0]
  refine br_dec (fun h1 => ?_) (fun h1 => ?_)
  · obtain ⟨q, hq⟩ := get_lt (l := k.Ps) (i := i) (by omega)
    have ehs : (hsOf k).take (i + 1) = (hsOf k).take i ++ [q.H] := by rw [List.take_add_one]; simp [hsOf, hq]
    have hti : ((hsOf k).take i).length = i := by simp [hsOf]; omega
    repeat' first | simp (disch := omega) only [SX0, SX1, SX2, SX3, SX4, SX5, SX6, SX7, SX8, SU0, SY0, SY1, Nat.reduceAdd, Nat.reduceMul, Nat.reduceSub, Nat.reduceLeDiff, Nat.reduceEqDiff, Nat.reduceLT, Nat.reduceBEq, ↓reduceIte, Int.reduceLE, Int.reduceLT, Int.reduceToNat, Int.reduceNeg, reduceCtorEq, Int.reduceEq, SF0, SF1, SF2, DHb0, DHb1, DHa0, DCg0, DCe0, DCe1, DCe2, DDb0, DBc0, DBc1, DDe0, DAlh0, DAlv0, DBtc0, hq, Pane.cs] | refine req (by omega) ?_ | fail
    refine ⟨i + 1, by omega, by omega, ?_⟩
    (refine wk_le ?_ ?_ ?_; (focus (simp [W8, leTm, leAV, AV.under, underL, ints, Work.under, ehs]; done)); (focus (simp [leL, OB.under, underL, AV.under, ints, Work.under, ehs]; done)); (focus (simp; done)))
  · have e : i = k.Ps.length := by omega
    subst e
    have eh : (hsOf k).take k.Ps.length = hsOf k := List.take_of_length_le (by simp [hsOf])
    rw [eh]
    simp (disch := omega) only [SX0, SX1, SX2, SX3, SX4, SX5, SX6, SX7, SX8, SU0, SY0, SY1, Nat.reduceAdd, Nat.reduceMul, Nat.reduceSub, Nat.reduceLeDiff, Nat.reduceEqDiff, Nat.reduceLT, Nat.reduceBEq, ↓reduceIte, Int.reduceLE, Int.reduceLT, Int.reduceToNat, Int.reduceNeg, reduceCtorEq, Int.reduceEq, SF0, SF1, SF2, DHb0, DHb1, DHa0, DCg0, DCe0, DCe1, DCe2, DDb0, DBc0, DBc1, DDe0, DAlh0, DAlv0, DBtc0]
    have hil : (ints (hsOf k)).length = k.Ps.length := by simp [ints, hsOf]
    have hit : List.take k.Ps.length (ints (hsOf k)) = ints (hsOf k) := List.take_of_length_le (by omega)
    (refine acall_frz (r := 1) (k := 1) (es := ints (hsOf k)) rfl (by simp) ?_; simp only [AS.frz, W8_map, List.map_cons, List.map_nil, AV.frz, OB.frz, frzL, if_true, if_false, Nat.reduceEqDiff, Nat.zero_add, true_and, List.length_map, List.drop_zero, List.set_cons_succ, List.set_cons_zero, Work.frzm, Plan.frzm, Nat.le_refl, hil, hit, Work.frzB])
    refine acall_own FA [] [] (by simp only [SX0, SX1, SX2, SX3, SX4, SX5, SX6, SX7, SX8, SU0, SY0, SY1, Nat.reduceAdd, Nat.reduceMul, Nat.reduceSub, Nat.reduceLeDiff, Nat.reduceEqDiff, Nat.reduceLT, Nat.reduceBEq, ↓reduceIte, Int.reduceLE, Int.reduceLT, Int.reduceToNat, Int.reduceNeg, reduceCtorEq, Int.reduceEq, SF0, SF1, SF2, DHb0, DHb1, DHa0, DCg0, DCe0, DCe1, DCe2, DDb0, DBc0, DBc1, DDe0, DAlh0, DAlv0, DBtc0, SX0]) (by decide) (by decide) (by rfl) (by simp only [SX0, SX1, SX2, SX3, SX4, SX5, SX6, SX7, SX8, SU0, SY0, SY1, Nat.reduceAdd, Nat.reduceMul, Nat.reduceSub, Nat.reduceLeDiff, Nat.reduceEqDiff, Nat.reduceLT, Nat.reduceBEq, ↓reduceIte, Int.reduceLE, Int.reduceLT, Int.reduceToNat, Int.reduceNeg, reduceCtorEq, Int.reduceEq, SF0, SF1, SF2, DHb0, DHb1, DHa0, DCg0, DCe0, DCe1, DCe2, DDb0, DBc0, DBc1, DDe0, DAlh0, DAlv0, DBtc0, SX0]) ?_
    rintro _ _ ⟨rfl, o', ho', rfl⟩
    have := ho'.uniq ho
    subst this
    simp only [AV.ren, List.map_nil, List.append_nil]
    simp (disch := omega) only [SX0, SX1, SX2, SX3, SX4, SX5, SX6, SX7, SX8, SU0, SY0, SY1, Nat.reduceAdd, Nat.reduceMul, Nat.reduceSub, Nat.reduceLeDiff, Nat.reduceEqDiff, Nat.reduceLT, Nat.reduceBEq, ↓reduceIte, Int.reduceLE, Int.reduceLT, Int.reduceToNat, Int.reduceNeg, reduceCtorEq, Int.reduceEq, SF0, SF1, SF2, DHb0, DHb1, DHa0, DCg0, DCe0, DCe1, DCe2, DDb0, DBc0, DBc1, DDe0, DAlh0, DAlv0, DBtc0]
    have shs := srt_high ho.2
    with_reducible refine awp_loop_h (G := List (List (List Int)) × Nat × Nat) 8 43 (fun g => [(5, .sl (ints o')), (6, .os 2 5 0 g.1.length), (7, .val (.int .i64 g.2.1))]) (fun g => [.cells k.cs, .dead, .vec 5 (g.1.map fun t => (sheetP k t k.H).cs)]) (fun g => g.2.1 ≤ o'.length ∧ o'.length ≤ g.2.1 + g.2.2 ∧ g.1.length ≤ g.2.1 ∧ g.1 ++ sheetsTake k g.2.2 (o'.drop g.2.1) = sheetsTake k o'.length o') (fun g => o'.length - g.2.1) ([], 0, o'.length) ⟨Nat.zero_le _, by simp, by simp, by simp⟩ ?_ (fun g hg => ?_)
    · simp (disch := omega) only [SX0, SX1, SX2, SX3, SX4, SX5, SX6, SX7, SX8, SU0, SY0, SY1, Nat.reduceAdd, Nat.reduceMul, Nat.reduceSub, Nat.reduceLeDiff, Nat.reduceEqDiff, Nat.reduceLT, Nat.reduceBEq, ↓reduceIte, Int.reduceLE, Int.reduceLT, Int.reduceToNat, Int.reduceNeg, reduceCtorEq, Int.reduceEq, SF0, SF1, SF2, DHb0, DHb1, DHa0, DCg0, DCe0, DCe1, DCe2, DDb0, DBc0, DBc1, DDe0, DAlh0, DAlv0, DBtc0]
      (refine wk_le ?_ ?_ ?_; (focus (simp [W8, leTm, leAV, AV.under, underL, ints, Work.under]; done)); (focus (simp [leL, OB.under, underL, AV.under, ints, Work.under]; done)); (focus (simp; done)))
    obtain ⟨D, fr, f⟩ := g
    simp only at hg
    obtain ⟨hg1, hg2, hg3, hg4⟩ := hg
    refine sx_sound (bl := []) T_tt _ _ _ ?_
    simp (disch := omega) only [SX0, SX1, SX2, SX3, SX4, SX5, SX6, SX7, SX8, SU0, SY0, SY1, Nat.reduceAdd, Nat.reduceMul, Nat.reduceSub, Nat.reduceLeDiff, Nat.reduceEqDiff, Nat.reduceLT, Nat.reduceBEq, ↓reduceIte, Int.reduceLE, Int.reduceLT, Int.reduceToNat, Int.reduceNeg, reduceCtorEq, Int.reduceEq, SF0, SF1, SF2, DHb0, DHb1, DHa0, DCg0, DCe0, DCe1, DCe2, DDb0, DBc0, DBc1, DDe0, DAlh0, DAlv0, DBtc0]
    refine br_dec (fun h2 => ?_) (fun h2 => ?_)
    · obtain ⟨f, rfl⟩ : ∃ m, f = m + 1 := ⟨f - 1, by omega⟩
      obtain ⟨i, hoi⟩ := get_lt (l := o') (i := fr) (by omega)
      have hdc := drop_consB hoi
      have him := hk.pane (hidx i (List.mem_of_getElem? hoi))
      have SH := shelvesS_n k hk o' hidx (by omega) shs (f + 1) fr k.H hg2 hg1 (by omega) (by omega)
      have hrl := rowsTake_len k (f + 1) k.H (o'.drop fr)
      rw [List.length_drop] at hrl
      have hpos : 0 < (rowsTake k (f + 1) k.H (o'.drop fr)).flatten.length := by
        rw [hdc, rowsTake, if_pos (by unfold hOf; omega)]
        simp
      have hnx : sheetsTake k (f + 1) (o'.drop fr) = rowsTake k (f + 1) k.H (o'.drop fr) :: sheetsTake k f (o'.drop (fr + (rowsTake k (f + 1) k.H (o'.drop fr)).flatten.length)) := by
        rw [← List.drop_drop, hdc, sheetsTake]
      rw [hnx] at hg4
      generalize rowsTake k (f + 1) k.H (o'.drop fr) = t at *
      repeat' first | simp (disch := omega) only [SX0, SX1, SX2, SX3, SX4, SX5, SX6, SX7, SX8, SU0, SY0, SY1, Nat.reduceAdd, Nat.reduceMul, Nat.reduceSub, Nat.reduceLeDiff, Nat.reduceEqDiff, Nat.reduceLT, Nat.reduceBEq, ↓reduceIte, Int.reduceLE, Int.reduceLT, Int.reduceToNat, Int.reduceNeg, reduceCtorEq, Int.reduceEq, SF0, SF1, SF2, DHb0, DHb1, DHa0, DCg0, DCe0, DCe1, DCe2, DDb0, DBc0, DBc1, DDe0, DAlh0, DAlv0, DBtc0] | refine req (by omega) ?_ | fail
      refine acall_one SH (by simp [freeL, AV.free, Work.free]) (by simp [freeL, AV.free, Plan.free]) ?_
      repeat' first | simp (disch := omega) only [SX0, SX1, SX2, SX3, SX4, SX5, SX6, SX7, SX8, SU0, SY0, SY1, Nat.reduceAdd, Nat.reduceMul, Nat.reduceSub, Nat.reduceLeDiff, Nat.reduceEqDiff, Nat.reduceLT, Nat.reduceBEq, ↓reduceIte, Int.reduceLE, Int.reduceLT, Int.reduceToNat, Int.reduceNeg, reduceCtorEq, Int.reduceEq, SF0, SF1, SF2, DHb0, DHb1, DHa0, DCg0, DCe0, DCe1, DCe2, DDb0, DBc0, DBc1, DDe0, DAlh0, DAlv0, DBtc0] | refine req (by omega) ?_ | fail
      have ef : (fr : Int) + (t.flatten.length : Int) = ((fr + t.flatten.length : Nat) : Int) := by omega
      refine ⟨(D ++ [t], fr + t.flatten.length, f), ⟨by simp only []; omega, by simp only []; omega, by simp only [List.length_append, List.length_singleton]; omega, by simp only []; rw [← hg4]; simp⟩, by simp only []; omega, ?_⟩
      simp only [ef]
      (refine wk_le ?_ ?_ ?_; (focus (simp [W8, leTm, leAV, AV.under, underL, ints, Work.under]; done)); (focus (simp [leL, OB.under, underL, AV.under, ints, Work.under]; done)); (focus (simp; done)))
    · have e : fr = o'.length := by omega
      subst e
      rw [List.drop_length] at hg4
      have e2 : sheetsTake k f [] = [] := by cases f <;> rfl
      rw [e2, List.append_nil] at hg4
      subst hg4
      simp (disch := omega) only [SX0, SX1, SX2, SX3, SX4, SX5, SX6, SX7, SX8, SU0, SY0, SY1, Nat.reduceAdd, Nat.reduceMul, Nat.reduceSub, Nat.reduceLeDiff, Nat.reduceEqDiff, Nat.reduceLT, Nat.reduceBEq, ↓reduceIte, Int.reduceLE, Int.reduceLT, Int.reduceToNat, Int.reduceNeg, reduceCtorEq, Int.reduceEq, SF0, SF1, SF2, DHb0, DHb1, DHa0, DCg0, DCe0, DCe1, DCe2, DDb0, DBc0, DBc1, DDe0, DAlh0, DAlv0, DBtc0]
      exact fin_row rfl (by simp) ⟨by simp, rfl⟩

theorem e_shelfPlansSS : Enters Try.prog 33 := enters_of Try.func33 (by kernel_rfl) (by kernel_rfl)
theorem shelfOfS_c (k : Work) (hn : k.Ps.length < 2 ^ 40) (o : List Int) (ho : OrdS k o) : ACalls Try.prog 33 [.agg k.cs] [] [] (fun x L => x = .sl ((shelfOf k o).map Plan.cs) ∧ L = []) := by
  unfold shelfOf
  refine acalls_tm T_tt Try.func33 rfl e_shelfPlansSS 12 rfl (W8 _ .any .any .any .any .any .any .any [.any, .any, .any, .any, .any]) rfl (rv := [.tmp 2]) rfl (sx_sound (bl := []) T_tt _ _ _ ?_)
  simp (disch := omega) only [SX0, SX1, SX2, SX3, SX4, SX5, SX6, SX7, SX8, SU0, SY0, SY1, Nat.reduceAdd, Nat.reduceMul, Nat.reduceSub, Nat.reduceLeDiff, Nat.reduceEqDiff, Nat.reduceLT, Nat.reduceBEq, ↓reduceIte, Int.reduceLE, Int.reduceLT, Int.reduceToNat, Int.reduceNeg, reduceCtorEq, Int.reduceEq, SF0, SF1, SF2, DHb0, DHb1, DHa0, DCg0, DCe0, DCe1, DCe2, DDb0, DBc0, DBc1, DDe0, DAlh0, DAlv0, DBtc0]
  refine acall_one (validWorkS_c k hn) (by simp [freeL, AV.free, Work.free]) rfl ?_
  by_cases hok : k.ok
  · simp (disch := omega) only [SX0, SX1, SX2, SX3, SX4, SX5, SX6, SX7, SX8, SU0, SY0, SY1, Nat.reduceAdd, Nat.reduceMul, Nat.reduceSub, Nat.reduceLeDiff, Nat.reduceEqDiff, Nat.reduceLT, Nat.reduceBEq, ↓reduceIte, Int.reduceLE, Int.reduceLT, Int.reduceToNat, Int.reduceNeg, reduceCtorEq, Int.reduceEq, SF0, SF1, SF2, DHb0, DHb1, DHa0, DCg0, DCe0, DCe1, DCe2, DDb0, DBc0, DBc1, DDe0, DAlh0, DAlv0, DBtc0, hok, decide_true, Bool.not_true]
    refine acall_one (fixedS_c k hn) (by simp [freeL, AV.free, Work.free]) rfl ?_
    by_cases hf : ∀ q ∈ k.Ps, fitsW k q
    · have hp : plainW k := ⟨hok, hf⟩
      have hfd : decide (∀ q ∈ k.Ps, fitsW k q) = true := decide_eq_true hf
      rw [hfd, if_pos hp]
      simp (disch := omega) only [SX0, SX1, SX2, SX3, SX4, SX5, SX6, SX7, SX8, SU0, SY0, SY1, Nat.reduceAdd, Nat.reduceMul, Nat.reduceSub, Nat.reduceLeDiff, Nat.reduceEqDiff, Nat.reduceLT, Nat.reduceBEq, ↓reduceIte, Int.reduceLE, Int.reduceLT, Int.reduceToNat, Int.reduceNeg, reduceCtorEq, Int.reduceEq, SF0, SF1, SF2, DHb0, DHb1, DHa0, DCg0, DCe0, DCe1, DCe2, DDb0, DBc0, DBc1, DDe0, DAlh0, DAlv0, DBtc0]
      refine acall_one (shelfPlansS_c k hp o ho) (by simp [freeL, AV.free, Work.free]) (by simp [freeL, AV.free]) ?_
      simp (disch := omega) only [SX0, SX1, SX2, SX3, SX4, SX5, SX6, SX7, SX8, SU0, SY0, SY1, Nat.reduceAdd, Nat.reduceMul, Nat.reduceSub, Nat.reduceLeDiff, Nat.reduceEqDiff, Nat.reduceLT, Nat.reduceBEq, ↓reduceIte, Int.reduceLE, Int.reduceLT, Int.reduceToNat, Int.reduceNeg, reduceCtorEq, Int.reduceEq, SF0, SF1, SF2, DHb0, DHb1, DHa0, DCg0, DCe0, DCe1, DCe2, DDb0, DBc0, DBc1, DDe0, DAlh0, DAlv0, DBtc0]
      exact fin_free rfl ⟨rfl, rfl⟩
    · have hp : ¬ plainW k := fun h => hf h.2
      have hfd : decide (∀ q ∈ k.Ps, fitsW k q) = false := decide_eq_false hf
      rw [hfd, if_neg hp]
      simp (disch := omega) only [SX0, SX1, SX2, SX3, SX4, SX5, SX6, SX7, SX8, SU0, SY0, SY1, Nat.reduceAdd, Nat.reduceMul, Nat.reduceSub, Nat.reduceLeDiff, Nat.reduceEqDiff, Nat.reduceLT, Nat.reduceBEq, ↓reduceIte, Int.reduceLE, Int.reduceLT, Int.reduceToNat, Int.reduceNeg, reduceCtorEq, Int.reduceEq, SF0, SF1, SF2, DHb0, DHb1, DHa0, DCg0, DCe0, DCe1, DCe2, DDb0, DBc0, DBc1, DDe0, DAlh0, DAlv0, DBtc0]
      exact fin_nilrow ⟨rfl, rfl⟩
  · have hp : ¬ plainW k := fun h => hok h.1
    rw [if_neg hp]
    simp (disch := omega) only [SX0, SX1, SX2, SX3, SX4, SX5, SX6, SX7, SX8, SU0, SY0, SY1, Nat.reduceAdd, Nat.reduceMul, Nat.reduceSub, Nat.reduceLeDiff, Nat.reduceEqDiff, Nat.reduceLT, Nat.reduceBEq, ↓reduceIte, Int.reduceLE, Int.reduceLT, Int.reduceToNat, Int.reduceNeg, reduceCtorEq, Int.reduceEq, SF0, SF1, SF2, DHb0, DHb1, DHa0, DCg0, DCe0, DCe1, DCe2, DDb0, DBc0, DBc1, DDe0, DAlh0, DAlv0, DBtc0, hok, decide_false, Bool.not_false]
    exact fin_nilrow ⟨rfl, rfl⟩

end Go.Pc
