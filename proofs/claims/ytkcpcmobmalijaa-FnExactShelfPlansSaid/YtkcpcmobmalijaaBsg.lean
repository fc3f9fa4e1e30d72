/- Rows of panes on sheets: the reference's plans. -/
import Derived.Test.YtkcpcmobmalijaaBsf
import Derived.Test.YtkcpcmobmalijaaSg
set_option linter.unusedSimpArgs false
set_option linter.unusedVariables false
namespace Go.Pc
open Go Go.Proofs

theorem e_fixedS : Enters Try.prog 83 := enters_of Try.func83 (by kernel_rfl) (by kernel_rfl)
set_option maxHeartbeats 2000000 in
theorem fixedS_c (k : Work) (hk : k.Ps.length < 2 ^ 40) : ACalls Try.prog 83 [.agg k.cs] [] [] (fun r L => r = .val (.bool (decide (∀ q ∈ k.Ps, fitsW k q))) ∧ L = []) := by
  refine acalls_tm T_tt Try.func83 rfl e_fixedS 38 rfl (W8 _ .any .any .any .any .any .any .any (W8 .any .any .any .any .any .any .any .any (W8 .any .any .any .any .any .any .any .any (W8 .any .any .any .any .any .any .any .any [.any, .any, .any, .any, .any, .any, .any])))) rfl (rv := [.tmp 2]) rfl (sx_sound (bl := []) T_tt _ _ _ ?_)
  simp (disch := omega) only [SX0, SX1, SX2, SX3, SX4, SX5, SX6, SX7, SX8, SU0, SY0, SY1, Nat.reduceAdd, Nat.reduceMul, Nat.reduceSub, Nat.reduceLeDiff, Nat.reduceEqDiff, Nat.reduceLT, Nat.reduceBEq, ↓reduceIte, Int.reduceLE, Int.reduceLT, Int.reduceToNat, Int.reduceNeg, reduceCtorEq, Int.reduceEq, SF0, SF1, SF2, DHb0, DHb1, DHa0, DCg0, DCe0, DCe1, DCe2, DDb0, DBc0, DBc1, DDe0, DAlh0, DAlv0, DBtc0]
  with_reducible refine awp_loop_h (G := Nat) 4 35 (fun i => [(3, .val (.int .i64 i))]) (fun _ => [.cells k.cs]) (fun i => i ≤ k.Ps.length ∧ ∀ q ∈ k.Ps.take i, fitsW k q) (fun i => k.Ps.length - i) 0 ⟨Nat.zero_le _, by simp⟩ ?_ (fun i hi => sx_sound (bl := []) T_tt _ _ _ ?_)
  · simp (disch := omega) only [SX0, SX1, SX2, SX3, SX4, SX5, SX6, SX7, SX8, SU0, SY0, SY1, Nat.reduceAdd, Nat.reduceMul, Nat.reduceSub, Nat.reduceLeDiff, Nat.reduceEqDiff, Nat.reduceLT, Nat.reduceBEq, ↓reduceIte, Int.reduceLE, Int.reduceLT, Int.reduceToNat, Int.reduceNeg, reduceCtorEq, Int.reduceEq, SF0, SF1, SF2, DHb0, DHb1, DHa0, DCg0, DCe0, DCe1, DCe2, DDb0, DBc0, DBc1, DDe0, DAlh0, DAlv0, DBtc0]
    (refine wk_le ?_ ?_ ?_; (focus (simp [W8, leTm, leAV, AV.under, underL, Work.under]; done)); (focus (simp [leL, OB.under, underL, AV.under, Work.under]; done)); (focus (simp; done)))
  simp (disch := omega) only [SX0, SX1, SX2, SX3, SX4, SX5, SX6, SX7, SX8, SU0, SY0, SY1, Nat.reduceAdd, Nat.reduceMul, Nat.reduceSub, Nat.reduceLeDiff, Nat.reduceEqDiff, Nat.reduceLT, Nat.reduceBEq, ↓reduceIte, Int.reduceLE, Int.reduceLT, Int.reduceToNat, Int.reduceNeg, reduceCtorEq, Int.reduceEq, SF0, SF1, SF2, DHb0, DHb1, DHa0, DCg0, DCe0, DCe1, DCe2, DDb0, DBc0, DBc1, DDe0, DAlh0, DAlv0, DBtc0]
  refine br_dec (fun h1 => ?_) (fun h1 => ?_)
  · obtain ⟨q, hq⟩ := get_lt (l := k.Ps) (i := i) (by omega)
    have no : ¬ fitsW k q → ¬ ∀ q ∈ k.Ps, fitsW k q := fun h hp => h (hp q (List.mem_of_getElem? hq))
    simp (disch := omega) only [SX0, SX1, SX2, SX3, SX4, SX5, SX6, SX7, SX8, SU0, SY0, SY1, Nat.reduceAdd, Nat.reduceMul, Nat.reduceSub, Nat.reduceLeDiff, Nat.reduceEqDiff, Nat.reduceLT, Nat.reduceBEq, ↓reduceIte, Int.reduceLE, Int.reduceLT, Int.reduceToNat, Int.reduceNeg, reduceCtorEq, Int.reduceEq, SF0, SF1, SF2, DHb0, DHb1, DHa0, DCg0, DCe0, DCe1, DCe2, DDb0, DBc0, DBc1, DDe0, DAlh0, DAlv0, DBtc0]
    refine awp_drawA T_tt mixed (by decide +kernel) (by kernel_rfl) (by kernel_rfl) ?_
    repeat' first | with_reducible refine fin_val ⟨?_, rfl⟩ | with_reducible refine br_dec (fun hb => ?_) (fun hb => ?_) | with_reducible refine br_ndec (fun hb => ?_) (fun hb => ?_) | with_reducible refine br_bool (fun hb => ?_) (fun hb => ?_) | with_reducible refine pk_dec (fun hb => ?_) (fun hb => ?_) | with_reducible refine pk_ndec (fun hb => ?_) (fun hb => ?_) | with_reducible refine awp_drawA T_tt mixed (by decide +kernel) (by kernel_rfl) (by kernel_rfl) ?_ | simp (disch := omega) only [SX0, SX1, SX2, SX3, SX4, SX5, SX6, SX7, SX8, SU0, SY0, SY1, Nat.reduceAdd, Nat.reduceMul, Nat.reduceSub, Nat.reduceLeDiff, Nat.reduceEqDiff, Nat.reduceLT, Nat.reduceBEq, ↓reduceIte, Int.reduceLE, Int.reduceLT, Int.reduceToNat, Int.reduceNeg, reduceCtorEq, Int.reduceEq, SF0, SF1, SF2, DHb0, DHb1, DHa0, DCg0, DCe0, DCe1, DCe2, DDb0, DBc0, DBc1, DDe0, DAlh0, DAlv0, DBtc0, hq, Pane.cs]
    all_goals first
      | exact vF (no fun hh => by unfold fitsW at hh; simp_all <;> omega)
      | (refine ⟨i + 1, ⟨by omega, take_next hq hi.2 ?_⟩, by omega, ?_⟩
         · exact ⟨by simp_all, by omega, by omega⟩
         · (refine wk_le ?_ ?_ ?_; (focus (simp [W8, leTm, leAV, AV.under, underL, Work.under]; done)); (focus (simp [leL, OB.under, underL, AV.under, Work.under]; done)); (focus (simp; done))))
  · simp (disch := omega) only [SX0, SX1, SX2, SX3, SX4, SX5, SX6, SX7, SX8, SU0, SY0, SY1, Nat.reduceAdd, Nat.reduceMul, Nat.reduceSub, Nat.reduceLeDiff, Nat.reduceEqDiff, Nat.reduceLT, Nat.reduceBEq, ↓reduceIte, Int.reduceLE, Int.reduceLT, Int.reduceToNat, Int.reduceNeg, reduceCtorEq, Int.reduceEq, SF0, SF1, SF2, DHb0, DHb1, DHa0, DCg0, DCe0, DCe1, DCe2, DDb0, DBc0, DBc1, DDe0, DAlh0, DAlv0, DBtc0]
    refine fin_val ⟨vT (take_all (by omega) hi.2), rfl⟩

def hsOf (k : Work) : List Int := k.Ps.map Pane.H
theorem hsOf_get {k : Work} {i : Int} (h : 0 ≤ i ∧ i < k.Ps.length) : (hsOf k)[i.toNat]? = some (hOf k i) := by
  unfold hsOf hOf
  rw [List.getElem?_map, paneA_get h]; rfl

theorem upTo_next (n : Nat) : upTo (n + 1) = upTo n ++ [(n : Int)] := by simp [upTo, List.range_succ]
theorem mem_upTo {n : Nat} {x : Int} : x ∈ upTo n ↔ 0 ≤ x ∧ x < n := by
  unfold upTo
  rw [List.mem_map]
  exact ⟨fun ⟨m, h1, h2⟩ => by have := List.mem_range.1 h1; omega, fun hi => ⟨x.toNat, List.mem_range.2 (by omega), by omega⟩⟩

theorem exR_intsB (l : List Int) : exactR (ints l) = true := by
  unfold exactR
  rw [List.all_eq_true]
  intro e he
  obtain ⟨x, _, rfl⟩ := List.mem_map.1 he
  rfl

theorem e_fallingS : Enters Try.prog 134 := enters_of Try.func134 (by kernel_rfl) (by kernel_rfl)
set_option maxRecDepth 8000 in
set_option maxHeartbeats 4000000 in
theorem fallingS_c (k : Work) (hk : k.Ps.length ≤ 1000) : ACalls Try.prog 134 [.sl (ints (hsOf k))] [] [] (fun r L => L = [] ∧ ∃ o, OrdS k o ∧ r = .sl (ints o)) := by
  have hlen : (hsOf k).length = k.Ps.length := by simp [hsOf]
  refine acalls_tm T_tt Try.func134 rfl e_fallingS 47 rfl (W8 _ .any .any .any .any .any .any .any (W8 .any .any .any .any .any .any .any .any (W8 .any .any .any .any .any .any .any .any (W8 .any .any .any .any .any .any .any .any (W8 .any .any .any .any .any .any .any .any (W8 .any .any .any .any .any .any .any .any [])))))) rfl (rv := [.tmp 2]) rfl (sx_sound (bl := [44]) T_tt _ _ _ ?_)
  simp (disch := omega) only [SX0, SX1, SX2, SX3, SX4, SX5, SX6, SX7, SX8, SU0, SY0, SY1, Nat.reduceAdd, Nat.reduceMul, Nat.reduceSub, Nat.reduceLeDiff, Nat.reduceEqDiff, Nat.reduceLT, Nat.reduceBEq, ↓reduceIte, Int.reduceLE, Int.reduceLT, Int.reduceToNat, Int.reduceNeg, reduceCtorEq, Int.reduceEq, SF0, SF1, SF2, DHb0, DHb1, DHa0, DCg0, DCe0, DCe1, DCe2, DDb0, DBc0, DBc1, DDe0, DAlh0, DAlv0, DBtc0]
  with_reducible refine awp_loop_h (G := List Int × Nat) 5 43 (fun g => [(3, .os 0 1 0 g.2), (4, .val (.int .i64 g.2))]) (fun g => [.vec 1 (ints g.1)]) (fun g => g.2 ≤ k.Ps.length ∧ g.1.Perm (upTo g.2) ∧ srt (cmpS k) g.1) (fun g => k.Ps.length - g.2) ([], 0) ⟨Nat.zero_le _, .rfl, by unfold srt; simp⟩ ?_ (fun g hg => ?_)
  · simp (disch := omega) only [SX0, SX1, SX2, SX3, SX4, SX5, SX6, SX7, SX8, SU0, SY0, SY1, Nat.reduceAdd, Nat.reduceMul, Nat.reduceSub, Nat.reduceLeDiff, Nat.reduceEqDiff, Nat.reduceLT, Nat.reduceBEq, ↓reduceIte, Int.reduceLE, Int.reduceLT, Int.reduceToNat, Int.reduceNeg, reduceCtorEq, Int.reduceEq, SF0, SF1, SF2, DHb0, DHb1, DHa0, DCg0, DCe0, DCe1, DCe2, DDb0, DBc0, DBc1, DDe0, DAlh0, DAlv0, DBtc0]
    (refine wk_le ?_ ?_ ?_; (focus (simp [W8, leTm, leAV, AV.under, underL, ints]; done)); (focus (simp [leL, OB.under, underL, AV.under, ints]; done)); (focus (simp; done)))
  obtain ⟨S, i⟩ := g
  simp only at hg
  obtain ⟨hi, hp, hs⟩ := hg
  have hSl : S.length = i := by rw [hp.length_eq, upTo_len]
  refine sx_sound (bl := [44]) T_tt _ _ _ ?_
  simp (disch := omega) only [SX0, SX1, SX2, SX3, SX4, SX5, SX6, SX7, SX8, SU0, SY0, SY1, Nat.reduceAdd, Nat.reduceMul, Nat.reduceSub, Nat.reduceLeDiff, Nat.reduceEqDiff, Nat.reduceLT, Nat.reduceBEq, ↓reduceIte, Int.reduceLE, Int.reduceLT, Int.reduceToNat, Int.reduceNeg, reduceCtorEq, Int.reduceEq, SF0, SF1, SF2, DHb0, DHb1, DHa0, DCg0, DCe0, DCe1, DCe2, DDb0, DBc0, DBc1, DDe0, DAlh0, DAlv0, DBtc0]
  refine br_dec (fun h1 => ?_) (fun h1 => ?_)
  · have hin : 0 ≤ (i : Int) ∧ (i : Int) < k.Ps.length := by omega
    have gi := hsOf_get (k := k) (i := i) hin
    simp only [Int.toNat_natCast] at gi
    have hmem : ∀ y ∈ S, 0 ≤ y ∧ y < (i : Int) := fun y hy => mem_upTo.1 (hp.mem_iff.1 hy)
    simp (disch := omega) only [SX0, SX1, SX2, SX3, SX4, SX5, SX6, SX7, SX8, SU0, SY0, SY1, Nat.reduceAdd, Nat.reduceMul, Nat.reduceSub, Nat.reduceLeDiff, Nat.reduceEqDiff, Nat.reduceLT, Nat.reduceBEq, ↓reduceIte, Int.reduceLE, Int.reduceLT, Int.reduceToNat, Int.reduceNeg, reduceCtorEq, Int.reduceEq, SF0, SF1, SF2, DHb0, DHb1, DHa0, DCg0, DCe0, DCe1, DCe2, DDb0, DBc0, DBc1, DDe0, DAlh0, DAlv0, DBtc0]
    with_reducible refine awp_loop_h (G := Nat) 6 42 (fun j => [(5, .val (.int .i64 j))]) (fun _ => [.vec 1 (ints S)]) (fun j => j ≤ i ∧ ∀ y ∈ S.drop j, hOf k y < hOf k i) (fun j => j) i ⟨Nat.le_refl _, by rw [← hSl]; simp⟩ ?_ (fun j hj => ?_)
    · simp (disch := omega) only [SX0, SX1, SX2, SX3, SX4, SX5, SX6, SX7, SX8, SU0, SY0, SY1, Nat.reduceAdd, Nat.reduceMul, Nat.reduceSub, Nat.reduceLeDiff, Nat.reduceEqDiff, Nat.reduceLT, Nat.reduceBEq, ↓reduceIte, Int.reduceLE, Int.reduceLT, Int.reduceToNat, Int.reduceNeg, reduceCtorEq, Int.reduceEq, SF0, SF1, SF2, DHb0, DHb1, DHa0, DCg0, DCe0, DCe1, DCe2, DDb0, DBc0, DBc1, DDe0, DAlh0, DAlv0, DBtc0]
      (refine wk_le ?_ ?_ ?_; (focus (simp [W8, leTm, leAV, AV.under, underL, ints]; done)); (focus (simp [leL, OB.under, underL, AV.under, ints]; done)); (focus (simp; done)))
    obtain ⟨hj, hjd⟩ := hj
    refine sx_sound (bl := [44]) T_tt _ _ _ ?_
    simp (disch := omega) only [SX0, SX1, SX2, SX3, SX4, SX5, SX6, SX7, SX8, SU0, SY0, SY1, Nat.reduceAdd, Nat.reduceMul, Nat.reduceSub, Nat.reduceLeDiff, Nat.reduceEqDiff, Nat.reduceLT, Nat.reduceBEq, ↓reduceIte, Int.reduceLE, Int.reduceLT, Int.reduceToNat, Int.reduceNeg, reduceCtorEq, Int.reduceEq, SF0, SF1, SF2, DHb0, DHb1, DHa0, DCg0, DCe0, DCe1, DCe2, DDb0, DBc0, DBc1, DDe0, DAlh0, DAlv0, DBtc0]
    refine awp_drawA T_tt mixed (by decide +kernel) (by kernel_rfl) (by kernel_rfl) ?_
    have back : (∀ y, j ≠ 0 → S[j - 1]? = some y → ¬ cmpS k i y < 0) → srt (cmpS k) (insAt S i [] j) ∧ (insAt S i [] j).Perm (upTo (i + 1)) := fun h2 => by
      refine ⟨srt_ins (D := fun x => 0 ≤ x ∧ x ≤ i) (cmpS_ok k _) (by omega) (fun y hy => by have := hmem y hy; omega) (by omega) hs (fun y hy => ?_) h2, ?_⟩
      · have h3 := hjd y hy
        have h4 := hmem y (List.mem_of_mem_drop hy)
        unfold cmpS; unfold hOf at h3
        split <;> omega
      · rw [upTo_next]
        exact (insAt_perm S i [] j).trans (hp.append_right _)
    repeat' first | simp (disch := omega) only [SX0, SX1, SX2, SX3, SX4, SX5, SX6, SX7, SX8, SU0, SY0, SY1, Nat.reduceAdd, Nat.reduceMul, Nat.reduceSub, Nat.reduceLeDiff, Nat.reduceEqDiff, Nat.reduceLT, Nat.reduceBEq, ↓reduceIte, Int.reduceLE, Int.reduceLT, Int.reduceToNat, Int.reduceNeg, reduceCtorEq, Int.reduceEq, SF0, SF1, SF2, DHb0, DHb1, DHa0, DCg0, DCe0, DCe1, DCe2, DDb0, DBc0, DBc1, DDe0, DAlh0, DAlv0, DBtc0] | refine req (by omega) ?_ | fail
    refine br_dec (fun h2 => ?_) (fun h2 => ?_)
    · obtain ⟨j, rfl⟩ : ∃ m, j = m + 1 := ⟨j - 1, by omega⟩
      obtain ⟨y, hy⟩ := get_lt (l := S) (i := j) (by omega)
      have hym := hmem y (List.mem_of_getElem? hy)
      have gy := hsOf_get (k := k) (i := y) (by omega)
      have hy0 : (0 ≤ y) = True := eq_true hym.1
      have e1 : (((j + 1 : Nat) : Int) - 1) = (j : Int) := by omega
      repeat' first | simp (disch := omega) only [SX0, SX1, SX2, SX3, SX4, SX5, SX6, SX7, SX8, SU0, SY0, SY1, Nat.reduceAdd, Nat.reduceMul, Nat.reduceSub, Nat.reduceLeDiff, Nat.reduceEqDiff, Nat.reduceLT, Nat.reduceBEq, ↓reduceIte, Int.reduceLE, Int.reduceLT, Int.reduceToNat, Int.reduceNeg, reduceCtorEq, Int.reduceEq, SF0, SF1, SF2, DHb0, DHb1, DHa0, DCg0, DCe0, DCe1, DCe2, DDb0, DBc0, DBc1, DDe0, DAlh0, DAlv0, DBtc0, gi, gy, hy, hy0, e1] | refine req (by omega) ?_ | fail
      refine br_dec (fun h3 => ?_) (fun h3 => ?_)
      · simp (disch := omega) only [SX0, SX1, SX2, SX3, SX4, SX5, SX6, SX7, SX8, SU0, SY0, SY1, Nat.reduceAdd, Nat.reduceMul, Nat.reduceSub, Nat.reduceLeDiff, Nat.reduceEqDiff, Nat.reduceLT, Nat.reduceBEq, ↓reduceIte, Int.reduceLE, Int.reduceLT, Int.reduceToNat, Int.reduceNeg, reduceCtorEq, Int.reduceEq, SF0, SF1, SF2, DHb0, DHb1, DHa0, DCg0, DCe0, DCe1, DCe2, DDb0, DBc0, DBc1, DDe0, DAlh0, DAlv0, DBtc0]
        refine ⟨j, ⟨by omega, fun z hz => ?_⟩, by omega, ?_⟩
        · rw [drop_consB hy] at hz
          rcases List.mem_cons.1 hz with rfl | hz
          · exact h3
          · exact hjd z hz
        (refine wk_le ?_ ?_ ?_; (focus (simp [W8, leTm, leAV, AV.under, underL, ints]; done)); (focus (simp [leL, OB.under, underL, AV.under, ints]; done)); (focus (simp; done)))
      · have hst : ∀ y, j + 1 ≠ 0 → S[j + 1 - 1]? = some y → ¬ cmpS k i y < 0 := fun z _ hz => by
          rw [Nat.add_sub_cancel, hy] at hz
          cases hz
          unfold cmpS; unfold hOf at h3
          split <;> omega
        have back := back hst
        have CP := copyInts_c (S.drop (j + 1)) (by rw [List.length_drop]; omega)
        repeat' first | simp (disch := omega) only [SX0, SX1, SX2, SX3, SX4, SX5, SX6, SX7, SX8, SU0, SY0, SY1, Nat.reduceAdd, Nat.reduceMul, Nat.reduceSub, Nat.reduceLeDiff, Nat.reduceEqDiff, Nat.reduceLT, Nat.reduceBEq, ↓reduceIte, Int.reduceLE, Int.reduceLT, Int.reduceToNat, Int.reduceNeg, reduceCtorEq, Int.reduceEq, SF0, SF1, SF2, DHb0, DHb1, DHa0, DCg0, DCe0, DCe1, DCe2, DDb0, DBc0, DBc1, DDe0, DAlh0, DAlv0, DBtc0] | refine req (by omega) ?_ | refine req ⟨by omega, by omega⟩ ?_ | fail
        have htk : List.take (i - (j + 1)) (List.drop (j + 1) (S.map fun x => [AV.val (.int .i64 x)])) = ints (S.drop (j + 1)) := by rw [List.take_of_length_le (by simp [hSl])]; simp [ints]
        refine acall_bor CP (by rw [← htk]; exact ⟨.part 0 1 (j + 1) (i - (j + 1)) _ rfl (by simp; omega), trivial⟩) (fun r L ⟨h2, h3⟩ => by subst h2; subst h3; exact ⟨rfl, by simp only [OB.dryL, OB.dry, exR_intsB, Bool.and_self]⟩) ?_
        rintro _ _ ⟨rfl, rfl⟩
        simp only [AV.ren, OB.ren, List.map_cons, List.map_nil, List.length_cons, List.length_nil]
        simp (disch := omega) only [SX0, SX1, SX2, SX3, SX4, SX5, SX6, SX7, SX8, SU0, SY0, SY1, Nat.reduceAdd, Nat.reduceMul, Nat.reduceSub, Nat.reduceLeDiff, Nat.reduceEqDiff, Nat.reduceLT, Nat.reduceBEq, ↓reduceIte, Int.reduceLE, Int.reduceLT, Int.reduceToNat, Int.reduceNeg, reduceCtorEq, Int.reduceEq, SF0, SF1, SF2, DHb0, DHb1, DHa0, DCg0, DCe0, DCe1, DCe2, DDb0, DBc0, DBc1, DDe0, DAlh0, DAlv0, DBtc0]
        refine req (by first | omega | (simp; omega)) ?_
        simp (disch := omega) only [SX0, SX1, SX2, SX3, SX4, SX5, SX6, SX7, SX8, SU0, SY0, SY1, Nat.reduceAdd, Nat.reduceMul, Nat.reduceSub, Nat.reduceLeDiff, Nat.reduceEqDiff, Nat.reduceLT, Nat.reduceBEq, ↓reduceIte, Int.reduceLE, Int.reduceLT, Int.reduceToNat, Int.reduceNeg, reduceCtorEq, Int.reduceEq, SF0, SF1, SF2, DHb0, DHb1, DHa0, DCg0, DCe0, DCe1, DCe2, DDb0, DBc0, DBc1, DDe0, DAlh0, DAlv0, DBtc0, Nat.sub_zero]
        refine req (by omega) ?_
        have hta : (List.take (j + 1) (S.map fun x => [AV.val (.int .i64 x)])).length = (j + 1) := by simp; omega
        have htd : List.take (S.drop (j + 1)).length (List.map (fun x => [AV.val (.int .i64 x)]) (S.drop (j + 1))) = List.map (fun x => [AV.val (.int .i64 x)]) (S.drop (j + 1)) := List.take_of_length_le (by simp)
        have hdl : (S.drop (j + 1)).length = i - (j + 1) := by simp [hSl]
        simp (disch := omega) only [SX0, SX1, SX2, SX3, SX4, SX5, SX6, SX7, SX8, SU0, SY0, SY1, Nat.reduceAdd, Nat.reduceMul, Nat.reduceSub, Nat.reduceLeDiff, Nat.reduceEqDiff, Nat.reduceLT, Nat.reduceBEq, ↓reduceIte, Int.reduceLE, Int.reduceLT, Int.reduceToNat, Int.reduceNeg, reduceCtorEq, Int.reduceEq, SF0, SF1, SF2, DHb0, DHb1, DHa0, DCg0, DCe0, DCe1, DCe2, DDb0, DBc0, DBc1, DDe0, DAlh0, DAlv0, DBtc0, Nat.sub_zero, Nat.le_refl, htd]
        refine req intRows ?_
        simp (disch := omega) only [SX0, SX1, SX2, SX3, SX4, SX5, SX6, SX7, SX8, SU0, SY0, SY1, Nat.reduceAdd, Nat.reduceMul, Nat.reduceSub, Nat.reduceLeDiff, Nat.reduceEqDiff, Nat.reduceLT, Nat.reduceBEq, ↓reduceIte, Int.reduceLE, Int.reduceLT, Int.reduceToNat, Int.reduceNeg, reduceCtorEq, Int.reduceEq, SF0, SF1, SF2, DHb0, DHb1, DHa0, DCg0, DCe0, DCe1, DCe2, DDb0, DBc0, DBc1, DDe0, DAlh0, DAlv0, DBtc0]
        refine req (by first | omega | (simp; omega)) ?_
        simp (disch := omega) only [SX0, SX1, SX2, SX3, SX4, SX5, SX6, SX7, SX8, SU0, SY0, SY1, Nat.reduceAdd, Nat.reduceMul, Nat.reduceSub, Nat.reduceLeDiff, Nat.reduceEqDiff, Nat.reduceLT, Nat.reduceBEq, ↓reduceIte, Int.reduceLE, Int.reduceLT, Int.reduceToNat, Int.reduceNeg, reduceCtorEq, Int.reduceEq, SF0, SF1, SF2, DHb0, DHb1, DHa0, DCg0, DCe0, DCe1, DCe2, DDb0, DBc0, DBc1, DDe0, DAlh0, DAlv0, DBtc0]
        have eR : (List.take (j + 1) (S.map fun x => [AV.val (.int .i64 x)]) ++ [[AV.val (.int .i64 i)]] ++ List.map (fun x => [AV.val (.int .i64 x)]) (S.drop (j + 1))) = (insAt S i [] (j + 1)).map fun x => [AV.val (.int .i64 x)] := by simp [insAt]
        have e1 : (j + 1) + 1 + (S.drop (j + 1)).length = i + 1 := by omega
        rw [eR, e1]
        refine ⟨(insAt S i [] (j + 1), i + 1), ⟨by simp only []; omega, back.2, back.1⟩, by simp only []; omega, ?_⟩
        (refine wk_le ?_ ?_ ?_; (focus (simp [W8, leTm, leAV, AV.under, underL, ints]; done)); (focus (simp [leL, OB.under, underL, AV.under, ints]; done)); (focus (simp; done)))
    · have j0 : j = 0 := by omega
      have hst : ∀ y, j ≠ 0 → S[j - 1]? = some y → ¬ cmpS k i y < 0 := fun z h => absurd j0 h
      have back := back hst
      have CP := copyInts_c (S.drop j) (by rw [List.length_drop]; omega)
      repeat' first | simp (disch := omega) only [SX0, SX1, SX2, SX3, SX4, SX5, SX6, SX7, SX8, SU0, SY0, SY1, Nat.reduceAdd, Nat.reduceMul, Nat.reduceSub, Nat.reduceLeDiff, Nat.reduceEqDiff, Nat.reduceLT, Nat.reduceBEq, ↓reduceIte, Int.reduceLE, Int.reduceLT, Int.reduceToNat, Int.reduceNeg, reduceCtorEq, Int.reduceEq, SF0, SF1, SF2, DHb0, DHb1, DHa0, DCg0, DCe0, DCe1, DCe2, DDb0, DBc0, DBc1, DDe0, DAlh0, DAlv0, DBtc0] | refine req (by omega) ?_ | refine req ⟨by omega, by omega⟩ ?_ | fail
      have htk : List.take (i - j) (List.drop j (S.map fun x => [AV.val (.int .i64 x)])) = ints (S.drop j) := by rw [List.take_of_length_le (by simp [hSl])]; simp [ints]
      refine acall_bor CP (by rw [← htk]; exact ⟨.part 0 1 j (i - j) _ rfl (by simp; omega), trivial⟩) (fun r L ⟨h2, h3⟩ => by subst h2; subst h3; exact ⟨rfl, by simp only [OB.dryL, OB.dry, exR_intsB, Bool.and_self]⟩) ?_
      rintro _ _ ⟨rfl, rfl⟩
      simp only [AV.ren, OB.ren, List.map_cons, List.map_nil, List.length_cons, List.length_nil]
      simp (disch := omega) only [SX0, SX1, SX2, SX3, SX4, SX5, SX6, SX7, SX8, SU0, SY0, SY1, Nat.reduceAdd, Nat.reduceMul, Nat.reduceSub, Nat.reduceLeDiff, Nat.reduceEqDiff, Nat.reduceLT, Nat.reduceBEq, ↓reduceIte, Int.reduceLE, Int.reduceLT, Int.reduceToNat, Int.reduceNeg, reduceCtorEq, Int.reduceEq, SF0, SF1, SF2, DHb0, DHb1, DHa0, DCg0, DCe0, DCe1, DCe2, DDb0, DBc0, DBc1, DDe0, DAlh0, DAlv0, DBtc0]
      refine req (by first | omega | (simp; omega)) ?_
      simp (disch := omega) only [SX0, SX1, SX2, SX3, SX4, SX5, SX6, SX7, SX8, SU0, SY0, SY1, Nat.reduceAdd, Nat.reduceMul, Nat.reduceSub, Nat.reduceLeDiff, Nat.reduceEqDiff, Nat.reduceLT, Nat.reduceBEq, ↓reduceIte, Int.reduceLE, Int.reduceLT, Int.reduceToNat, Int.reduceNeg, reduceCtorEq, Int.reduceEq, SF0, SF1, SF2, DHb0, DHb1, DHa0, DCg0, DCe0, DCe1, DCe2, DDb0, DBc0, DBc1, DDe0, DAlh0, DAlv0, DBtc0, Nat.sub_zero]
      refine req (by omega) ?_
      have hta : (List.take j (S.map fun x => [AV.val (.int .i64 x)])).length = j := by simp; omega
      have htd : List.take (S.drop j).length (List.map (fun x => [AV.val (.int .i64 x)]) (S.drop j)) = List.map (fun x => [AV.val (.int .i64 x)]) (S.drop j) := List.take_of_length_le (by simp)
      have hdl : (S.drop j).length = i - j := by simp [hSl]
      simp (disch := omega) only [SX0, SX1, SX2, SX3, SX4, SX5, SX6, SX7, SX8, SU0, SY0, SY1, Nat.reduceAdd, Nat.reduceMul, Nat.reduceSub, Nat.reduceLeDiff, Nat.reduceEqDiff, Nat.reduceLT, Nat.reduceBEq, ↓reduceIte, Int.reduceLE, Int.reduceLT, Int.reduceToNat, Int.reduceNeg, reduceCtorEq, Int.reduceEq, SF0, SF1, SF2, DHb0, DHb1, DHa0, DCg0, DCe0, DCe1, DCe2, DDb0, DBc0, DBc1, DDe0, DAlh0, DAlv0, DBtc0, Nat.sub_zero, Nat.le_refl, htd]
      refine req intRows ?_
      simp (disch := omega) only [SX0, SX1, SX2, SX3, SX4, SX5, SX6, SX7, SX8, SU0, SY0, SY1, Nat.reduceAdd, Nat.reduceMul, Nat.reduceSub, Nat.reduceLeDiff, Nat.reduceEqDiff, Nat.reduceLT, Nat.reduceBEq, ↓reduceIte, Int.reduceLE, Int.reduceLT, Int.reduceToNat, Int.reduceNeg, reduceCtorEq, Int.reduceEq, SF0, SF1, SF2, DHb0, DHb1, DHa0, DCg0, DCe0, DCe1, DCe2, DDb0, DBc0, DBc1, DDe0, DAlh0, DAlv0, DBtc0]
      refine req (by first | omega | (simp; omega)) ?_
      simp (disch := omega) only [SX0, SX1, SX2, SX3, SX4, SX5, SX6, SX7, SX8, SU0, SY0, SY1, Nat.reduceAdd, Nat.reduceMul, Nat.reduceSub, Nat.reduceLeDiff, Nat.reduceEqDiff, Nat.reduceLT, Nat.reduceBEq, ↓reduceIte, Int.reduceLE, Int.reduceLT, Int.reduceToNat, Int.reduceNeg, reduceCtorEq, Int.reduceEq, SF0, SF1, SF2, DHb0, DHb1, DHa0, DCg0, DCe0, DCe1, DCe2, DDb0, DBc0, DBc1, DDe0, DAlh0, DAlv0, DBtc0]
      have eR : (List.take j (S.map fun x => [AV.val (.int .i64 x)]) ++ [[AV.val (.int .i64 i)]] ++ List.map (fun x => [AV.val (.int .i64 x)]) (S.drop j)) = (insAt S i [] j).map fun x => [AV.val (.int .i64 x)] := by simp [insAt]
      have e1 : j + 1 + (S.drop j).length = i + 1 := by omega
      rw [eR, e1]
      refine ⟨(insAt S i [] j, i + 1), ⟨by simp only []; omega, back.2, back.1⟩, by simp only []; omega, ?_⟩
      (refine wk_le ?_ ?_ ?_; (focus (simp [W8, leTm, leAV, AV.under, underL, ints]; done)); (focus (simp [leL, OB.under, underL, AV.under, ints]; done)); (focus (simp; done)))
  · have e : i = k.Ps.length := by omega
    subst e
    simp (disch := omega) only [SX0, SX1, SX2, SX3, SX4, SX5, SX6, SX7, SX8, SU0, SY0, SY1, Nat.reduceAdd, Nat.reduceMul, Nat.reduceSub, Nat.reduceLeDiff, Nat.reduceEqDiff, Nat.reduceLT, Nat.reduceBEq, ↓reduceIte, Int.reduceLE, Int.reduceLT, Int.reduceToNat, Int.reduceNeg, reduceCtorEq, Int.reduceEq, SF0, SF1, SF2, DHb0, DHb1, DHa0, DCg0, DCe0, DCe1, DCe2, DDb0, DBc0, DBc1, DDe0, DAlh0, DAlv0, DBtc0]
    exact fin_row rfl (by simp [hSl]) ⟨rfl, S, ⟨hp, hs⟩, rfl⟩

theorem e_shelfS : Enters Try.prog 156 := enters_of Try.func156 (by kernel_rfl) (by kernel_rfl)
set_option maxRecDepth 16000 in
set_option maxHeartbeats 8000000 in
theorem shelfS_n (k : Work) (hk : plainW k) (o : List Int) (hi : ∀ i ∈ o, 0 ≤ i ∧ i < (k.Ps.length : Int)) (hol : o.length ≤ 1000) (h : Int) : ∀ (n fr : Nat) (w : Int), fr + n = o.length → 0 ≤ w → w ≤ 200 → (∀ i ∈ o.drop fr, hOf k i ≤ h) →
    ACalls Try.prog 156 [.agg k.cs, .sl (ints o), .val (.int .i64 fr), .val (.int .i64 w), .val (.int .i64 h)] [] [] (fun x L => x = .tup [.agg (rowP k (rowTake k w (o.drop fr)) w h).cs, .val (.int .i64 (rowTake k w (o.drop fr)).length)] ∧ L = []) := by
  intro n
  induction n with
  | zero =>
    intro fr w hfr hw1 hw2 hh
    have e0 : o.drop fr = [] := List.drop_of_length_le (by omega)
    rw [e0, rowTake, rowP]
    refine acalls_tm T_tt Try.func156 rfl e_shelfS 91 rfl (W8 _ _ _ _ _ .any .any .any (W8 .any .any .any .any .any .any .any .any (W8 .any .any .any .any .any .any .any .any (W8 .any .any .any .any .any .any .any .any (W8 .any .any .any .any .any .any .any .any (W8 .any .any .any .any .any .any .any .any (W8 .any .any .any .any .any .any .any .any (W8 .any .any .any .any .any .any .any .any (W8 .any .any .any .any .any .any .any .any (W8 .any .any .any .any .any .any .any .any (W8 .any .any .any .any .any .any .any .any (W8 .any .any .any .any .any .any .any .any [])))))))))))) rfl (rv := [.cell 10 31, .tmp 11]) rfl (sx_sound (bl := []) T_tt _ _ _ ?_)
    simp (disch := omega) only [SX0, SX1, SX2, SX3, SX4, SX5, SX6, SX7, SX8, SU0, SY0, SY1, Nat.reduceAdd, Nat.reduceMul, Nat.reduceSub, Nat.reduceLeDiff, Nat.reduceEqDiff, Nat.reduceLT, Nat.reduceBEq, ↓reduceIte, Int.reduceLE, Int.reduceLT, Int.reduceToNat, Int.reduceNeg, reduceCtorEq, Int.reduceEq, SF0, SF1, SF2, DHb0, DHb1, DHa0, DCg0, DCe0, DCe1, DCe2, DDb0, DBc0, DBc1, DDe0, DAlh0, DAlv0, DBtc0]
    refine awp_drawA T_tt mixed (by decide +kernel) (by kernel_rfl) (by kernel_rfl) ?_
    repeat' first | simp (disch := omega) only [SX0, SX1, SX2, SX3, SX4, SX5, SX6, SX7, SX8, SU0, SY0, SY1, Nat.reduceAdd, Nat.reduceMul, Nat.reduceSub, Nat.reduceLeDiff, Nat.reduceEqDiff, Nat.reduceLT, Nat.reduceBEq, ↓reduceIte, Int.reduceLE, Int.reduceLT, Int.reduceToNat, Int.reduceNeg, reduceCtorEq, Int.reduceEq, SF0, SF1, SF2, DHb0, DHb1, DHa0, DCg0, DCe0, DCe1, DCe2, DDb0, DBc0, DBc1, DDe0, DAlh0, DAlv0, DBtc0] | fail
    refine br_dec (fun h1 => ?_) (fun h1 => by omega)
    repeat' first | simp (disch := omega) only [SX0, SX1, SX2, SX3, SX4, SX5, SX6, SX7, SX8, SU0, SY0, SY1, Nat.reduceAdd, Nat.reduceMul, Nat.reduceSub, Nat.reduceLeDiff, Nat.reduceEqDiff, Nat.reduceLT, Nat.reduceBEq, ↓reduceIte, Int.reduceLE, Int.reduceLT, Int.reduceToNat, Int.reduceNeg, reduceCtorEq, Int.reduceEq, SF0, SF1, SF2, DHb0, DHb1, DHa0, DCg0, DCe0, DCe1, DCe2, DDb0, DBc0, DBc1, DDe0, DAlh0, DAlv0, DBtc0] | fail
    refine fin_nrn ?_
    simp only [AV.nrn, nrnL]
    exact fin_free rfl ⟨by simp [wasteP_cs], rfl⟩
  | succ n ih =>
  intro fr w hfr hw1 hw2 hh
  obtain ⟨i, hoi⟩ := get_lt (l := o) (i := fr) (by omega)
  have hdc := drop_consB hoi
  rw [hdc] at hh
  have him := hi i (List.mem_of_getElem? hoi)
  have gi := paneA_get him
  obtain ⟨pi1, pi2, _⟩ := hk.pane him
  have hi0 : (0 ≤ i) = True := eq_true him.1
  have hkw := hk.1
  unfold Work.ok at hkw
  have hhi := hh i (by simp)
  have hh' := fun j hj => hh j (List.mem_cons_of_mem _ hj)
  rw [hdc, rowTake]
  unfold wOf hOf at *
  have ih := ih (fr + 1)
  generalize hq : paneA k i = q at *
  by_cases hw : q.W ≤ w
  · rw [if_pos hw]
    have IH := ih (w - q.W) (by omega) (by omega) (by omega) hh'
    rw [rowP, hq]
    have fin : ∀ (s : AS) (x : AV), x.nrn = .tup [.agg (if q.W = w then oneP k i h else .mk 2 q.W 0 false [oneP k i h, rowP k (rowTake k (w - q.W) (o.drop (fr + 1))) (w - q.W) h]).cs, .val (.int .i64 ((rowTake k (w - q.W) (o.drop (fr + 1))).length + 1 : Nat))] → Fin [] 0 (fun x L => x = .tup [.agg (if q.W = w then oneP k i h else .mk 2 q.W 0 false [oneP k i h, rowP k (rowTake k (w - q.W) (o.drop (fr + 1))) (w - q.W) h]).cs, .val (.int .i64 ((i :: rowTake k (w - q.W) (o.drop (fr + 1))).length : Nat))] ∧ L = []) s x := fun s x hx => by
      refine fin_nrn ?_
      rw [hx]
      exact fin_free (by simp [AV.free, freeL, Plan.free]) ⟨rfl, rfl⟩
    refine acalls_tm T_tt Try.func156 rfl e_shelfS 91 rfl (W8 _ _ _ _ _ .any .any .any (W8 .any .any .any .any .any .any .any .any (W8 .any .any .any .any .any .any .any .any (W8 .any .any .any .any .any .any .any .any (W8 .any .any .any .any .any .any .any .any (W8 .any .any .any .any .any .any .any .any (W8 .any .any .any .any .any .any .any .any (W8 .any .any .any .any .any .any .any .any (W8 .any .any .any .any .any .any .any .any (W8 .any .any .any .any .any .any .any .any (W8 .any .any .any .any .any .any .any .any (W8 .any .any .any .any .any .any .any .any [])))))))))))) rfl (rv := [.cell 10 31, .tmp 11]) rfl (sx_sound (bl := []) T_tt _ _ _ ?_)
    simp (disch := omega) only [SX0, SX1, SX2, SX3, SX4, SX5, SX6, SX7, SX8, SU0, SY0, SY1, Nat.reduceAdd, Nat.reduceMul, Nat.reduceSub, Nat.reduceLeDiff, Nat.reduceEqDiff, Nat.reduceLT, Nat.reduceBEq, ↓reduceIte, Int.reduceLE, Int.reduceLT, Int.reduceToNat, Int.reduceNeg, reduceCtorEq, Int.reduceEq, SF0, SF1, SF2, DHb0, DHb1, DHa0, DCg0, DCe0, DCe1, DCe2, DDb0, DBc0, DBc1, DDe0, DAlh0, DAlv0, DBtc0]
    refine awp_drawA T_tt mixed (by decide +kernel) (by kernel_rfl) (by kernel_rfl) ?_
    repeat' first | simp (disch := omega) only [SX0, SX1, SX2, SX3, SX4, SX5, SX6, SX7, SX8, SU0, SY0, SY1, Nat.reduceAdd, Nat.reduceMul, Nat.reduceSub, Nat.reduceLeDiff, Nat.reduceEqDiff, Nat.reduceLT, Nat.reduceBEq, ↓reduceIte, Int.reduceLE, Int.reduceLT, Int.reduceToNat, Int.reduceNeg, reduceCtorEq, Int.reduceEq, SF0, SF1, SF2, DHb0, DHb1, DHa0, DCg0, DCe0, DCe1, DCe2, DDb0, DBc0, DBc1, DDe0, DAlh0, DAlv0, DBtc0, hoi, gi, hi0, Pane.cs] | refine req (by omega) ?_ | (refine br_dec (fun h1 => by omega) (fun h1 => ?_)) | fail
    refine awp_floatG (bl := []) T_tt mixed [0, 1] [0, 1, 2, 3, 4, 5, 6, 7] [0, 1, 2, 3, 4, 5, 6, 7] [⟨9, [0, 1], [(0, .f 47), (1, .f 48), (2, .f 49), (3, .f 50), (4, .f 51), (5, .f 52), (6, .f 53), (7, .f 54), (8, .a 12 63)], [], []⟩] [] (by kernel_rfl) (by kernel_rfl) ?_
    repeat' first | simp (disch := omega) only [SX0, SX1, SX2, SX3, SX4, SX5, SX6, SX7, SX8, SU0, SY0, SY1, Nat.reduceAdd, Nat.reduceMul, Nat.reduceSub, Nat.reduceLeDiff, Nat.reduceEqDiff, Nat.reduceLT, Nat.reduceBEq, ↓reduceIte, Int.reduceLE, Int.reduceLT, Int.reduceToNat, Int.reduceNeg, reduceCtorEq, Int.reduceEq, SF0, SF1, SF2, DHb0, DHb1, DHa0, DCg0, DCe0, DCe1, DCe2, DDb0, DBc0, DBc1, DDe0, DAlh0, DAlv0, DBtc0, SX0, hoi, gi, hi0, Pane.cs] | refine req (by omega) ?_ | fail
    have hio : ∀ j ∈ o.drop (fr + 1), 0 ≤ j ∧ j < (k.Ps.length : Int) := fun j hj => hi j (List.mem_of_mem_drop hj)
    have hlr : (rowTake k (w - q.W) (o.drop (fr + 1))).length ≤ 1000 := by have := rowTake_len k (w - q.W) (o.drop (fr + 1)); rw [List.length_drop] at this; omega
    refine br_dec (fun h1 => ?_) (fun h1 => ?_)
    all_goals
      have e1 : oneP k i h = if q.H < h then .mk 3 q.H 0 false [.mk 1 0 i false [], wasteP] else .mk 1 0 i false [] := by unfold oneP; rw [hq]
      first | rw [if_pos h1] at e1 | rw [if_neg h1] at e1
      repeat' first | simp (disch := omega) only [SX0, SX1, SX2, SX3, SX4, SX5, SX6, SX7, SX8, SU0, SY0, SY1, Nat.reduceAdd, Nat.reduceMul, Nat.reduceSub, Nat.reduceLeDiff, Nat.reduceEqDiff, Nat.reduceLT, Nat.reduceBEq, ↓reduceIte, Int.reduceLE, Int.reduceLT, Int.reduceToNat, Int.reduceNeg, reduceCtorEq, Int.reduceEq, SF0, SF1, SF2, DHb0, DHb1, DHa0, DCg0, DCe0, DCe1, DCe2, DDb0, DBc0, DBc1, DDe0, DAlh0, DAlv0, DBtc0, hoi, hi0] | refine req (by omega) ?_ | fail
      refine br_dec (fun h2 => ?_) (fun h2 => ?_)
      · have hz : rowTake k (w - q.W) (o.drop (fr + 1)) = [] := by rw [show w - q.W = 0 by omega]; exact rowTake_zero hk hio
        simp (disch := omega) only [SX0, SX1, SX2, SX3, SX4, SX5, SX6, SX7, SX8, SU0, SY0, SY1, Nat.reduceAdd, Nat.reduceMul, Nat.reduceSub, Nat.reduceLeDiff, Nat.reduceEqDiff, Nat.reduceLT, Nat.reduceBEq, ↓reduceIte, Int.reduceLE, Int.reduceLT, Int.reduceToNat, Int.reduceNeg, reduceCtorEq, Int.reduceEq, SF0, SF1, SF2, DHb0, DHb1, DHa0, DCg0, DCe0, DCe1, DCe2, DDb0, DBc0, DBc1, DDe0, DAlh0, DAlv0, DBtc0]
        refine fin _ _ ?_
        rw [if_pos h2, e1, hz]
        simp only [AV.nrn, nrnL, nrnLL, cut2_cs, paneP_cs, wasteP_cs, List.length_nil, Nat.zero_add, Int.natCast_one]
      repeat' first | simp (disch := omega) only [SX0, SX1, SX2, SX3, SX4, SX5, SX6, SX7, SX8, SU0, SY0, SY1, Nat.reduceAdd, Nat.reduceMul, Nat.reduceSub, Nat.reduceLeDiff, Nat.reduceEqDiff, Nat.reduceLT, Nat.reduceBEq, ↓reduceIte, Int.reduceLE, Int.reduceLT, Int.reduceToNat, Int.reduceNeg, reduceCtorEq, Int.reduceEq, SF0, SF1, SF2, DHb0, DHb1, DHa0, DCg0, DCe0, DCe1, DCe2, DDb0, DBc0, DBc1, DDe0, DAlh0, DAlv0, DBtc0] | refine req (by omega) ?_ | fail
      refine acall_one IH (by simp [freeL, AV.free, Work.free]) (by simp [freeL, AV.free, Plan.free]) ?_
      repeat' first | simp (disch := omega) only [SX0, SX1, SX2, SX3, SX4, SX5, SX6, SX7, SX8, SU0, SY0, SY1, Nat.reduceAdd, Nat.reduceMul, Nat.reduceSub, Nat.reduceLeDiff, Nat.reduceEqDiff, Nat.reduceLT, Nat.reduceBEq, ↓reduceIte, Int.reduceLE, Int.reduceLT, Int.reduceToNat, Int.reduceNeg, reduceCtorEq, Int.reduceEq, SF0, SF1, SF2, DHb0, DHb1, DHa0, DCg0, DCe0, DCe1, DCe2, DDb0, DBc0, DBc1, DDe0, DAlh0, DAlv0, DBtc0] | refine req (by omega) ?_ | fail
      refine fin _ _ ?_
      rw [if_neg h2, e1]
      simp only [AV.nrn, nrnL, nrnLL, cut2_cs, paneP_cs, wasteP_cs, Plan.nrn, Int.natCast_add, Int.natCast_one]
  · rw [if_neg hw, rowP]
    refine acalls_tm T_tt Try.func156 rfl e_shelfS 91 rfl (W8 _ _ _ _ _ .any .any .any (W8 .any .any .any .any .any .any .any .any (W8 .any .any .any .any .any .any .any .any (W8 .any .any .any .any .any .any .any .any (W8 .any .any .any .any .any .any .any .any (W8 .any .any .any .any .any .any .any .any (W8 .any .any .any .any .any .any .any .any (W8 .any .any .any .any .any .any .any .any (W8 .any .any .any .any .any .any .any .any (W8 .any .any .any .any .any .any .any .any (W8 .any .any .any .any .any .any .any .any (W8 .any .any .any .any .any .any .any .any [])))))))))))) rfl (rv := [.cell 10 31, .tmp 11]) rfl (sx_sound (bl := []) T_tt _ _ _ ?_)
    simp (disch := omega) only [SX0, SX1, SX2, SX3, SX4, SX5, SX6, SX7, SX8, SU0, SY0, SY1, Nat.reduceAdd, Nat.reduceMul, Nat.reduceSub, Nat.reduceLeDiff, Nat.reduceEqDiff, Nat.reduceLT, Nat.reduceBEq, ↓reduceIte, Int.reduceLE, Int.reduceLT, Int.reduceToNat, Int.reduceNeg, reduceCtorEq, Int.reduceEq, SF0, SF1, SF2, DHb0, DHb1, DHa0, DCg0, DCe0, DCe1, DCe2, DDb0, DBc0, DBc1, DDe0, DAlh0, DAlv0, DBtc0]
    refine awp_drawA T_tt mixed (by decide +kernel) (by kernel_rfl) (by kernel_rfl) ?_
    repeat' first | simp (disch := omega) only [SX0, SX1, SX2, SX3, SX4, SX5, SX6, SX7, SX8, SU0, SY0, SY1, Nat.reduceAdd, Nat.reduceMul, Nat.reduceSub, Nat.reduceLeDiff, Nat.reduceEqDiff, Nat.reduceLT, Nat.reduceBEq, ↓reduceIte, Int.reduceLE, Int.reduceLT, Int.reduceToNat, Int.reduceNeg, reduceCtorEq, Int.reduceEq, SF0, SF1, SF2, DHb0, DHb1, DHa0, DCg0, DCe0, DCe1, DCe2, DDb0, DBc0, DBc1, DDe0, DAlh0, DAlv0, DBtc0, hoi, gi, hi0, Pane.cs] | refine req (by omega) ?_ | (refine br_dec (fun h1 => by omega) (fun h1 => ?_)) | (refine br_dec (fun h1 => ?_) (fun h1 => by omega)) | fail
    refine fin_nrn ?_
    simp only [AV.nrn, nrnL]
    exact fin_free rfl ⟨by simp [wasteP_cs], rfl⟩

theorem e_shelvesS : Enters Try.prog 135 := enters_of Try.func135 (by kernel_rfl) (by kernel_rfl)
set_option maxRecDepth 16000 in
set_option maxHeartbeats 8000000 in
theorem shelvesS_n (k : Work) (hk : plainW k) (o : List Int) (hi : ∀ i ∈ o, 0 ≤ i ∧ i < (k.Ps.length : Int)) (hol : o.length ≤ 1000) (hs : o.Pairwise fun x y => hOf k y ≤ hOf k x) : ∀ (f fr : Nat) (h : Int), o.length ≤ fr + f → fr ≤ o.length → 0 ≤ h → h ≤ 200 →
    ACalls Try.prog 135 [.agg k.cs, .sl (ints o), .val (.int .i64 fr), .val (.int .i64 h)] [] [] (fun x L => x = .tup [.agg (sheetP k (rowsTake k f h (o.drop fr)) h).cs, .val (.int .i64 (rowsTake k f h (o.drop fr)).flatten.length)] ∧ L = []) := by
  have base : ∀ (f fr : Nat) (h : Int), fr = o.length → ACalls Try.prog 135 [.agg k.cs, .sl (ints o), .val (.int .i64 fr), .val (.int .i64 h)] [] [] (fun x L => x = .tup [.agg (sheetP k (rowsTake k f h (o.drop fr)) h).cs, .val (.int .i64 (rowsTake k f h (o.drop fr)).flatten.length)] ∧ L = []) := by
    intro f fr h hfr
    have e0 : o.drop fr = [] := List.drop_of_length_le (by omega)
    have e1 : rowsTake k f h [] = [] := by cases f <;> rfl
    rw [e0, e1, sheetP]
    refine acalls_tm T_tt Try.func135 rfl e_shelvesS 76 rfl (W8 _ _ _ _ .any .any .any .any (W8 .any .any .any .any .any .any .any .any (W8 .any .any .any .any .any .any .any .any (W8 .any .any .any .any .any .any .any .any (W8 .any .any .any .any .any .any .any .any (W8 .any .any .any .any .any .any .any .any (W8 .any .any .any .any .any .any .any .any (W8 .any .any .any .any .any .any .any .any (W8 .any .any .any .any .any .any .any .any (W8 .any .any .any .any .any .any .any .any [])))))))))) rfl (rv := [.cell 8 31, .tmp 9]) rfl (sx_sound (bl := []) T_tt _ _ _ ?_)
    simp (disch := omega) only [SX0, SX1, SX2, SX3, SX4, SX5, SX6, SX7, SX8, SU0, SY0, SY1, Nat.reduceAdd, Nat.reduceMul, Nat.reduceSub, Nat.reduceLeDiff, Nat.reduceEqDiff, Nat.reduceLT, Nat.reduceBEq, ↓reduceIte, Int.reduceLE, Int.reduceLT, Int.reduceToNat, Int.reduceNeg, reduceCtorEq, Int.reduceEq, SF0, SF1, SF2, DHb0, DHb1, DHa0, DCg0, DCe0, DCe1, DCe2, DDb0, DBc0, DBc1, DDe0, DAlh0, DAlv0, DBtc0]
    refine awp_drawA T_tt mixed (by decide +kernel) (by kernel_rfl) (by kernel_rfl) ?_
    repeat' first | simp (disch := omega) only [SX0, SX1, SX2, SX3, SX4, SX5, SX6, SX7, SX8, SU0, SY0, SY1, Nat.reduceAdd, Nat.reduceMul, Nat.reduceSub, Nat.reduceLeDiff, Nat.reduceEqDiff, Nat.reduceLT, Nat.reduceBEq, ↓reduceIte, Int.reduceLE, Int.reduceLT, Int.reduceToNat, Int.reduceNeg, reduceCtorEq, Int.reduceEq, SF0, SF1, SF2, DHb0, DHb1, DHa0, DCg0, DCe0, DCe1, DCe2, DDb0, DBc0, DBc1, DDe0, DAlh0, DAlv0, DBtc0] | fail
    refine br_dec (fun h1 => ?_) (fun h1 => by omega)
    repeat' first | simp (disch := omega) only [SX0, SX1, SX2, SX3, SX4, SX5, SX6, SX7, SX8, SU0, SY0, SY1, Nat.reduceAdd, Nat.reduceMul, Nat.reduceSub, Nat.reduceLeDiff, Nat.reduceEqDiff, Nat.reduceLT, Nat.reduceBEq, ↓reduceIte, Int.reduceLE, Int.reduceLT, Int.reduceToNat, Int.reduceNeg, reduceCtorEq, Int.reduceEq, SF0, SF1, SF2, DHb0, DHb1, DHa0, DCg0, DCe0, DCe1, DCe2, DDb0, DBc0, DBc1, DDe0, DAlh0, DAlv0, DBtc0] | fail
    refine fin_nrn ?_
    simp only [AV.nrn, nrnL]
    exact fin_free rfl ⟨by simp [wasteP_cs], rfl⟩
  intro f
  induction f with
  | zero => intro fr h h1 h2 _ _; exact base 0 fr h (by omega)
  | succ f ih =>
  intro fr h hfr hfl hh1 hh2
  by_cases hfe : fr = o.length
  · exact base (f + 1) fr h hfe
  obtain ⟨i, hoi⟩ := get_lt (l := o) (i := fr) (by omega)
  have hdc := drop_consB hoi
  have him := hi i (List.mem_of_getElem? hoi)
  have gi := paneA_get him
  obtain ⟨pi1, pi2, _⟩ := hk.pane him
  have hi0 : (0 ≤ i) = True := eq_true him.1
  have hkw := hk.1
  unfold Work.ok at hkw
  have hhi : ∀ j ∈ o.drop fr, hOf k j ≤ hOf k i := fun j hj => by
    rw [hdc] at hj
    rcases List.mem_cons.1 hj with rfl | hj
    · exact Int.le_refl _
    · obtain ⟨a, ha, rfl⟩ := List.mem_iff_getElem.1 hj
      rw [List.getElem_drop]
      have hal : fr + 1 + a < o.length := by simp at ha; omega
      have := List.pairwise_iff_getElem.1 hs fr (fr + 1 + a) (by omega) hal (by omega)
      rwa [(List.getElem?_eq_some_iff.1 hoi).2] at this
  have SH := shelfS_n k hk o hi hol (hOf k i) (o.length - fr) fr k.W (by omega) (by omega) (by omega) hhi
  rw [hdc, rowTake, if_pos (by unfold wOf; omega)] at SH
  have hrl : (rowTake k (k.W - wOf k i) (o.drop (fr + 1))).length ≤ o.length - (fr + 1) := by have := rowTake_len k (k.W - wOf k i) (o.drop (fr + 1)); rwa [List.length_drop] at this
  rw [hdc, rowsTake]
  by_cases hc : hOf k i ≤ h
  · rw [if_pos hc]
    have hHo : hOf k i = (paneA k i).H := rfl
    have IH := ih (fr + (rowTake k (k.W - wOf k i) (o.drop (fr + 1))).length + 1) (h - hOf k i) (by omega) (by omega) (by omega) (by omega)
    rw [show fr + (rowTake k (k.W - wOf k i) (o.drop (fr + 1))).length + 1 = fr + 1 + (rowTake k (k.W - wOf k i) (o.drop (fr + 1))).length by omega, show o.drop (fr + 1 + (rowTake k (k.W - wOf k i) (o.drop (fr + 1))).length) = (o.drop (fr + 1)).drop (rowTake k (k.W - wOf k i) (o.drop (fr + 1))).length by rw [List.drop_drop]] at IH
    have hz : h = hOf k i → rowsTake k f (h - hOf k i) ((o.drop (fr + 1)).drop (rowTake k (k.W - wOf k i) (o.drop (fr + 1))).length) = [] := fun e => by
      rw [e, Int.sub_self]
      exact rowsTake_zero hk (fun j hj => hi j (List.mem_of_mem_drop (List.mem_of_mem_drop hj))) f
    have hrl2 := rowsTake_len k f (h - hOf k i) ((o.drop (fr + 1)).drop (rowTake k (k.W - wOf k i) (o.drop (fr + 1))).length)
    rw [List.length_drop, List.length_drop] at hrl2
    generalize rowsTake k f (h - hOf k i) ((o.drop (fr + 1)).drop (rowTake k (k.W - wOf k i) (o.drop (fr + 1))).length) = R at *
    generalize rowTake k (k.W - wOf k i) (o.drop (fr + 1)) = r at *
    have hsp : sheetP k ((i :: r) :: R) h = if (paneA k i).H = h then rowP k (i :: r) k.W (paneA k i).H else .mk 3 (paneA k i).H 0 false [rowP k (i :: r) k.W (paneA k i).H, sheetP k R (h - (paneA k i).H)] := by rw [sheetP]
    rw [hsp]
    have hfl : ((i :: r) :: R).flatten.length = r.length + 1 + R.flatten.length := by simp; omega
    rw [hfl]
    unfold hOf at *
    generalize hrp : rowP k (i :: r) k.W (paneA k i).H = rp at *
    generalize hq : paneA k i = q at *
    have fin : ∀ (s : AS) (x : AV), x.nrn = .tup [.agg (if q.H = h then rp else .mk 3 q.H 0 false [rp, sheetP k R (h - q.H)]).cs, .val (.int .i64 (r.length + 1 + R.flatten.length : Nat))] → Fin [] 0 (fun x L => x = .tup [.agg (if q.H = h then rp else .mk 3 q.H 0 false [rp, sheetP k R (h - q.H)]).cs, .val (.int .i64 (r.length + 1 + R.flatten.length : Nat))] ∧ L = []) s x := fun s x hx => by
      refine fin_nrn ?_
      rw [hx]
      exact fin_free (by simp [AV.free, freeL, Plan.free]) ⟨rfl, rfl⟩
    refine acalls_tm T_tt Try.func135 rfl e_shelvesS 76 rfl (W8 _ _ _ _ .any .any .any .any (W8 .any .any .any .any .any .any .any .any (W8 .any .any .any .any .any .any .any .any (W8 .any .any .any .any .any .any .any .any (W8 .any .any .any .any .any .any .any .any (W8 .any .any .any .any .any .any .any .any (W8 .any .any .any .any .any .any .any .any (W8 .any .any .any .any .any .any .any .any (W8 .any .any .any .any .any .any .any .any (W8 .any .any .any .any .any .any .any .any [])))))))))) rfl (rv := [.cell 8 31, .tmp 9]) rfl (sx_sound (bl := []) T_tt _ _ _ ?_)
    simp (disch := omega) only [SX0, SX1, SX2, SX3, SX4, SX5, SX6, SX7, SX8, SU0, SY0, SY1, Nat.reduceAdd, Nat.reduceMul, Nat.reduceSub, Nat.reduceLeDiff, Nat.reduceEqDiff, Nat.reduceLT, Nat.reduceBEq, ↓reduceIte, Int.reduceLE, Int.reduceLT, Int.reduceToNat, Int.reduceNeg, reduceCtorEq, Int.reduceEq, SF0, SF1, SF2, DHb0, DHb1, DHa0, DCg0, DCe0, DCe1, DCe2, DDb0, DBc0, DBc1, DDe0, DAlh0, DAlv0, DBtc0]
    refine awp_drawA T_tt mixed (by decide +kernel) (by kernel_rfl) (by kernel_rfl) ?_
    repeat' first | simp (disch := omega) only [SX0, SX1, SX2, SX3, SX4, SX5, SX6, SX7, SX8, SU0, SY0, SY1, Nat.reduceAdd, Nat.reduceMul, Nat.reduceSub, Nat.reduceLeDiff, Nat.reduceEqDiff, Nat.reduceLT, Nat.reduceBEq, ↓reduceIte, Int.reduceLE, Int.reduceLT, Int.reduceToNat, Int.reduceNeg, reduceCtorEq, Int.reduceEq, SF0, SF1, SF2, DHb0, DHb1, DHa0, DCg0, DCe0, DCe1, DCe2, DDb0, DBc0, DBc1, DDe0, DAlh0, DAlv0, DBtc0, hoi, gi, hi0, Pane.cs] | refine req (by omega) ?_ | (refine br_dec (fun h1 => by omega) (fun h1 => ?_)) | fail
    refine awp_floatG (bl := []) T_tt mixed [0, 1] [0, 1, 2, 3, 4, 5, 6, 7] [0, 1, 2, 3, 4, 5, 6, 7] [⟨9, [0, 1], [(0, .f 33), (1, .f 34), (2, .f 35), (3, .f 36), (4, .f 37), (5, .f 38), (6, .f 39), (7, .f 40), (8, .a 10 63)], [], []⟩] [] (by kernel_rfl) (by kernel_rfl) ?_
    repeat' first | simp (disch := omega) only [SX0, SX1, SX2, SX3, SX4, SX5, SX6, SX7, SX8, SU0, SY0, SY1, Nat.reduceAdd, Nat.reduceMul, Nat.reduceSub, Nat.reduceLeDiff, Nat.reduceEqDiff, Nat.reduceLT, Nat.reduceBEq, ↓reduceIte, Int.reduceLE, Int.reduceLT, Int.reduceToNat, Int.reduceNeg, reduceCtorEq, Int.reduceEq, SF0, SF1, SF2, DHb0, DHb1, DHa0, DCg0, DCe0, DCe1, DCe2, DDb0, DBc0, DBc1, DDe0, DAlh0, DAlv0, DBtc0, SX0, hoi, gi, hi0, Pane.cs] | refine req (by omega) ?_ | fail
    refine acall_one SH (by simp [freeL, AV.free, Work.free]) (by simp [freeL, AV.free, Plan.free]) ?_
    repeat' first | simp (disch := omega) only [SX0, SX1, SX2, SX3, SX4, SX5, SX6, SX7, SX8, SU0, SY0, SY1, Nat.reduceAdd, Nat.reduceMul, Nat.reduceSub, Nat.reduceLeDiff, Nat.reduceEqDiff, Nat.reduceLT, Nat.reduceBEq, ↓reduceIte, Int.reduceLE, Int.reduceLT, Int.reduceToNat, Int.reduceNeg, reduceCtorEq, Int.reduceEq, SF0, SF1, SF2, DHb0, DHb1, DHa0, DCg0, DCe0, DCe1, DCe2, DDb0, DBc0, DBc1, DDe0, DAlh0, DAlv0, DBtc0] | refine req (by omega) ?_ | fail
    refine br_dec (fun h2 => ?_) (fun h2 => ?_)
    · have hz := hz h2.symm
      subst hz
      simp (disch := omega) only [SX0, SX1, SX2, SX3, SX4, SX5, SX6, SX7, SX8, SU0, SY0, SY1, Nat.reduceAdd, Nat.reduceMul, Nat.reduceSub, Nat.reduceLeDiff, Nat.reduceEqDiff, Nat.reduceLT, Nat.reduceBEq, ↓reduceIte, Int.reduceLE, Int.reduceLT, Int.reduceToNat, Int.reduceNeg, reduceCtorEq, Int.reduceEq, SF0, SF1, SF2, DHb0, DHb1, DHa0, DCg0, DCe0, DCe1, DCe2, DDb0, DBc0, DBc1, DDe0, DAlh0, DAlv0, DBtc0]
      refine fin _ _ ?_
      rw [if_pos h2]
      simp only [AV.nrn, nrnL, Plan.nrn, List.flatten_nil, List.length_nil, Nat.add_zero, List.length_cons]
    have ef : (fr : Int) + ((r.length + 1 : Nat) : Int) = ((fr + 1 + r.length : Nat) : Int) := by omega
    have ef2 : ((r.length + 1 : Nat) : Int) + (R.flatten.length : Int) = ((r.length + 1 + R.flatten.length : Nat) : Int) := by omega
    repeat' first | simp (disch := omega) only [SX0, SX1, SX2, SX3, SX4, SX5, SX6, SX7, SX8, SU0, SY0, SY1, Nat.reduceAdd, Nat.reduceMul, Nat.reduceSub, Nat.reduceLeDiff, Nat.reduceEqDiff, Nat.reduceLT, Nat.reduceBEq, ↓reduceIte, Int.reduceLE, Int.reduceLT, Int.reduceToNat, Int.reduceNeg, reduceCtorEq, Int.reduceEq, SF0, SF1, SF2, DHb0, DHb1, DHa0, DCg0, DCe0, DCe1, DCe2, DDb0, DBc0, DBc1, DDe0, DAlh0, DAlv0, DBtc0, ef] | refine req (by omega) ?_ | fail
    refine acall_one IH (by simp [freeL, AV.free, Work.free]) (by simp [freeL, AV.free, Plan.free]) ?_
    repeat' first | simp (disch := omega) only [SX0, SX1, SX2, SX3, SX4, SX5, SX6, SX7, SX8, SU0, SY0, SY1, Nat.reduceAdd, Nat.reduceMul, Nat.reduceSub, Nat.reduceLeDiff, Nat.reduceEqDiff, Nat.reduceLT, Nat.reduceBEq, ↓reduceIte, Int.reduceLE, Int.reduceLT, Int.reduceToNat, Int.reduceNeg, reduceCtorEq, Int.reduceEq, SF0, SF1, SF2, DHb0, DHb1, DHa0, DCg0, DCe0, DCe1, DCe2, DDb0, DBc0, DBc1, DDe0, DAlh0, DAlv0, DBtc0, ef2] | refine req (by omega) ?_ | fail
    refine fin _ _ ?_
    rw [if_neg h2]
    simp only [AV.nrn, nrnL, nrnLL, cut2_cs, Plan.nrn]
  · rw [if_neg hc, sheetP]
    unfold hOf at *
    generalize hq : paneA k i = q at *
    refine acalls_tm T_tt Try.func135 rfl e_shelvesS 76 rfl (W8 _ _ _ _ .any .any .any .any (W8 .any .any .any .any .any .any .any .any (W8 .any .any .any .any .any .any .any .any (W8 .any .any .any .any .any .any .any .any (W8 .any .any .any .any .any .any .any .any (W8 .any .any .any .any .any .any .any .any (W8 .any .any .any .any .any .any .any .any (W8 .any .any .any .any .any .any .any .any (W8 .any .any .any .any .any .any .any .any (W8 .any .any .any .any .any .any .any .any [])))))))))) rfl (rv := [.cell 8 31, .tmp 9]) rfl (sx_sound (bl := []) T_tt _ _ _ ?_)
    simp (disch := omega) only [SX0, SX1, SX2, SX3, SX4, SX5, SX6, SX7, SX8, SU0, SY0, SY1, Nat.reduceAdd, Nat.reduceMul, Nat.reduceSub, Nat.reduceLeDiff, Nat.reduceEqDiff, Nat.reduceLT, Nat.reduceBEq, ↓reduceIte, Int.reduceLE, Int.reduceLT, Int.reduceToNat, Int.reduceNeg, reduceCtorEq, Int.reduceEq, SF0, SF1, SF2, DHb0, DHb1, DHa0, DCg0, DCe0, DCe1, DCe2, DDb0, DBc0, DBc1, DDe0, DAlh0, DAlv0, DBtc0]
    refine awp_drawA T_tt mixed (by decide +kernel) (by kernel_rfl) (by kernel_rfl) ?_
    repeat' first | simp (disch := omega) only [SX0, SX1, SX2, SX3, SX4, SX5, SX6, SX7, SX8, SU0, SY0, SY1, Nat.reduceAdd, Nat.reduceMul, Nat.reduceSub, Nat.reduceLeDiff, Nat.reduceEqDiff, Nat.reduceLT, Nat.reduceBEq, ↓reduceIte, Int.reduceLE, Int.reduceLT, Int.reduceToNat, Int.reduceNeg, reduceCtorEq, Int.reduceEq, SF0, SF1, SF2, DHb0, DHb1, DHa0, DCg0, DCe0, DCe1, DCe2, DDb0, DBc0, DBc1, DDe0, DAlh0, DAlv0, DBtc0, hoi, gi, hi0, Pane.cs] | refine req (by omega) ?_ | (refine br_dec (fun h1 => by omega) (fun h1 => ?_)) | (refine br_dec (fun h1 => ?_) (fun h1 => by omega)) | fail
    refine fin_nrn ?_
    simp only [AV.nrn, nrnL]
    exact fin_free rfl ⟨by simp [wasteP_cs], rfl⟩

end Go.Pc
