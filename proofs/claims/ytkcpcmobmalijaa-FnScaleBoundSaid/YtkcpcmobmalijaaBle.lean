/- Fewest sheets: the program. -/
import Derived.Test.YtkcpcmobmalijaaBld
import Derived.Test.YtkcpcmobmalijaaBkc
set_option linter.unusedSimpArgs false
set_option linter.unusedVariables false
namespace Go.Pc
open Go Go.Proofs

def fewOk (k : Work) : Prop := k.ok ∧ k.W ≤ 16 ∧ k.H ≤ 16 ∧ k.Ps.length ≤ 4 ∧ ∀ q ∈ k.Ps, wayOk q k.W k.H
instance (k : Work) : Decidable (fewOk k) := inferInstanceAs (Decidable (_ ∧ _))
def sheetF (k : Work) (S : Nat) : Prop := Cut k S k.W.toNat k.H.toNat
theorem fewOk.toNat {k : Work} (h : fewOk k) : k.W = (k.W.toNat : Int) ∧ k.H = (k.H.toNat : Int) ∧ 1 ≤ k.W.toNat ∧ k.W.toNat ≤ 16 ∧ 1 ≤ k.H.toNat ∧ k.H.toNat ≤ 16 := by
  obtain ⟨h1, h2, h3, _⟩ := h
  unfold Work.ok at h1
  omega
theorem sheetF_one {k : Work} (h : fewOk k) : ∀ i, i < k.Ps.length → sheetF k (2 ^ i) := fun i hi => by
  obtain ⟨q, hq⟩ := get_lt (l := k.Ps) (i := i) hi
  have hw := h.2.2.2.2 q (List.mem_of_getElem? hq)
  obtain ⟨e1, e2, _⟩ := h.toNat
  exact .one i q _ _ hq (by rw [← e1, ← e2]; exact hw)

theorem e_cutsTold : Enters Try.prog 87 := enters_of Try.func87 (by kernel_rfl) (by kernel_rfl)
set_option maxHeartbeats 2000000 in
theorem cutsTold_c (k : Work) (hk : k.Ps.length < 2 ^ 40) : ACalls Try.prog 87 [.agg k.cs] [] [] (fun r L => r = .val (.bool (decide (fewOk k))) ∧ L = []) := by
  refine acalls_tm T_tt Try.func87 rfl e_cutsTold 38 rfl (W8 _ .any .any .any .any .any .any .any (W8 .any .any .any .any .any .any .any .any (W8 .any .any .any .any .any .any .any .any (W8 .any .any .any .any .any .any .any .any [.any, .any, .any, .any, .any, .any, .any])))) rfl (rv := [.tmp 2]) rfl (sx_sound (bl := []) T_tt _ _ _ ?_)
  simp (disch := omega) only [SX0, SX1, SX2, SX3, SX4, SX5, SX6, SX7, SX8, SU0, SY0, SY1, Nat.reduceAdd, Nat.reduceMul, Nat.reduceSub, Nat.reduceLeDiff, Nat.reduceEqDiff, Nat.reduceLT, Nat.reduceBEq, ↓reduceIte, Int.reduceLE, Int.reduceLT, Int.reduceToNat, Int.reduceNeg, reduceCtorEq, Int.reduceEq, SF0, SF1, SF2, DBka0, DAlh0, DHb0, DHb1, DHa0, DCg0, DCe0, DCe1, DCe2, DDb0, DBc0, DBc1, DDe0, DAlv0, DBla0]
  refine acall_one (validWorkI_c k hk) (by simp [freeL, AV.free, Work.free]) rfl ?_
  by_cases hok : k.ok
  · rw [decide_eq_true hok]
    have hkw := hok
    unfold Work.ok at hkw
    repeat' first | with_reducible refine fin_val ⟨?_, rfl⟩ | with_reducible refine br_dec (fun hb => ?_) (fun hb => ?_) | with_reducible refine br_ndec (fun hb => ?_) (fun hb => ?_) | with_reducible refine br_bool (fun hb => ?_) (fun hb => ?_) | with_reducible refine pk_dec (fun hb => ?_) (fun hb => ?_) | with_reducible refine pk_ndec (fun hb => ?_) (fun hb => ?_) | with_reducible refine awp_drawA T_tt mixed (by decide +kernel) (by kernel_rfl) (by kernel_rfl) ?_ | simp (disch := omega) only [SX0, SX1, SX2, SX3, SX4, SX5, SX6, SX7, SX8, SU0, SY0, SY1, Nat.reduceAdd, Nat.reduceMul, Nat.reduceSub, Nat.reduceLeDiff, Nat.reduceEqDiff, Nat.reduceLT, Nat.reduceBEq, ↓reduceIte, Int.reduceLE, Int.reduceLT, Int.reduceToNat, Int.reduceNeg, reduceCtorEq, Int.reduceEq, SF0, SF1, SF2, DBka0, DAlh0, DHb0, DHb1, DHa0, DCg0, DCe0, DCe1, DCe2, DDb0, DBc0, DBc1, DDe0, DAlv0, DBla0]
    all_goals first | exact vF (fun hh => by unfold fewOk at hh; omega) | skip
    with_reducible refine awp_loop_h (G := Nat) 4 35 (fun i => [(25, .sl (k.Ps.map Pane.cs)), (26, .val (.int .i64 k.Ps.length)), (27, .val (.int .i64 i))]) (fun _ => [.cells k.cs]) (fun i => i ≤ k.Ps.length ∧ ∀ q ∈ k.Ps.take i, wayOk q k.W k.H) (fun i => k.Ps.length - i) 0 ⟨Nat.zero_le _, by simp⟩ ?_ (fun i hi => sx_sound (bl := []) T_tt _ _ _ ?_)
    · simp (disch := omega) only [SX0, SX1, SX2, SX3, SX4, SX5, SX6, SX7, SX8, SU0, SY0, SY1, Nat.reduceAdd, Nat.reduceMul, Nat.reduceSub, Nat.reduceLeDiff, Nat.reduceEqDiff, Nat.reduceLT, Nat.reduceBEq, ↓reduceIte, Int.reduceLE, Int.reduceLT, Int.reduceToNat, Int.reduceNeg, reduceCtorEq, Int.reduceEq, SF0, SF1, SF2, DBka0, DAlh0, DHb0, DHb1, DHa0, DCg0, DCe0, DCe1, DCe2, DDb0, DBc0, DBc1, DDe0, DAlv0, DBla0]
      (refine wk_le ?_ ?_ ?_; (focus (simp [W8, leTm, leAV, AV.under, underL, Work.under]; done)); (focus (simp [leL, OB.under, underL, AV.under, Work.under]; done)); (focus (simp; done)))
    simp (disch := omega) only [SX0, SX1, SX2, SX3, SX4, SX5, SX6, SX7, SX8, SU0, SY0, SY1, Nat.reduceAdd, Nat.reduceMul, Nat.reduceSub, Nat.reduceLeDiff, Nat.reduceEqDiff, Nat.reduceLT, Nat.reduceBEq, ↓reduceIte, Int.reduceLE, Int.reduceLT, Int.reduceToNat, Int.reduceNeg, reduceCtorEq, Int.reduceEq, SF0, SF1, SF2, DBka0, DAlh0, DHb0, DHb1, DHa0, DCg0, DCe0, DCe1, DCe2, DDb0, DBc0, DBc1, DDe0, DAlv0, DBla0]
    refine br_dec (fun h1 => ?_) (fun h1 => ?_)
    · obtain ⟨q, hq⟩ := get_lt (l := k.Ps) (i := i) (by omega)
      have hqok := hok.2.2.1 q (List.mem_of_getElem? hq)
      have WI := waysIn_c q k.W k.H
      obtain ⟨w1, w2, w3, w4⟩ := ways_pos (q := q) (w := k.W) (h := k.H) hqok (by omega) (by omega)
      rw [w1] at WI
      repeat' first | simp (disch := omega) only [SX0, SX1, SX2, SX3, SX4, SX5, SX6, SX7, SX8, SU0, SY0, SY1, Nat.reduceAdd, Nat.reduceMul, Nat.reduceSub, Nat.reduceLeDiff, Nat.reduceEqDiff, Nat.reduceLT, Nat.reduceBEq, ↓reduceIte, Int.reduceLE, Int.reduceLT, Int.reduceToNat, Int.reduceNeg, reduceCtorEq, Int.reduceEq, SF0, SF1, SF2, DBka0, DAlh0, DHb0, DHb1, DHa0, DCg0, DCe0, DCe1, DCe2, DDb0, DBc0, DBc1, DDe0, DAlv0, DBla0, hq] | refine req (by omega) ?_ | fail
      refine acall_one WI (by simp [freeL, AV.free, Pane.free]) rfl ?_
      simp (disch := omega) only [SX0, SX1, SX2, SX3, SX4, SX5, SX6, SX7, SX8, SU0, SY0, SY1, Nat.reduceAdd, Nat.reduceMul, Nat.reduceSub, Nat.reduceLeDiff, Nat.reduceEqDiff, Nat.reduceLT, Nat.reduceBEq, ↓reduceIte, Int.reduceLE, Int.reduceLT, Int.reduceToNat, Int.reduceNeg, reduceCtorEq, Int.reduceEq, SF0, SF1, SF2, DBka0, DAlh0, DHb0, DHb1, DHa0, DCg0, DCe0, DCe1, DCe2, DDb0, DBc0, DBc1, DDe0, DAlv0, DBla0]
      refine br_dec (fun h2 => ?_) (fun h2 => ?_)
      · simp (disch := omega) only [SX0, SX1, SX2, SX3, SX4, SX5, SX6, SX7, SX8, SU0, SY0, SY1, Nat.reduceAdd, Nat.reduceMul, Nat.reduceSub, Nat.reduceLeDiff, Nat.reduceEqDiff, Nat.reduceLT, Nat.reduceBEq, ↓reduceIte, Int.reduceLE, Int.reduceLT, Int.reduceToNat, Int.reduceNeg, reduceCtorEq, Int.reduceEq, SF0, SF1, SF2, DBka0, DAlh0, DHb0, DHb1, DHa0, DCg0, DCe0, DCe1, DCe2, DDb0, DBc0, DBc1, DDe0, DAlv0, DBla0]
        exact fin_val ⟨vF fun hh => by have := w2.2 (hh.2.2.2.2 q (List.mem_of_getElem? hq)); omega, rfl⟩
      · simp (disch := omega) only [SX0, SX1, SX2, SX3, SX4, SX5, SX6, SX7, SX8, SU0, SY0, SY1, Nat.reduceAdd, Nat.reduceMul, Nat.reduceSub, Nat.reduceLeDiff, Nat.reduceEqDiff, Nat.reduceLT, Nat.reduceBEq, ↓reduceIte, Int.reduceLE, Int.reduceLT, Int.reduceToNat, Int.reduceNeg, reduceCtorEq, Int.reduceEq, SF0, SF1, SF2, DBka0, DAlh0, DHb0, DHb1, DHa0, DCg0, DCe0, DCe1, DCe2, DDb0, DBc0, DBc1, DDe0, DAlv0, DBla0]
        refine ⟨i + 1, ⟨by omega, take_next hq hi.2 (w2.1 (by omega))⟩, by omega, ?_⟩
        (refine wk_le ?_ ?_ ?_; (focus (simp [W8, leTm, leAV, AV.under, underL, Work.under]; done)); (focus (simp [leL, OB.under, underL, AV.under, Work.under]; done)); (focus (simp; done)))
    · simp (disch := omega) only [SX0, SX1, SX2, SX3, SX4, SX5, SX6, SX7, SX8, SU0, SY0, SY1, Nat.reduceAdd, Nat.reduceMul, Nat.reduceSub, Nat.reduceLeDiff, Nat.reduceEqDiff, Nat.reduceLT, Nat.reduceBEq, ↓reduceIte, Int.reduceLE, Int.reduceLT, Int.reduceToNat, Int.reduceNeg, reduceCtorEq, Int.reduceEq, SF0, SF1, SF2, DBka0, DAlh0, DHb0, DHb1, DHa0, DCg0, DCe0, DCe1, DCe2, DDb0, DBc0, DBc1, DDe0, DAlv0, DBla0]
      refine fin_val ⟨vT ⟨hok, by omega, by omega, by omega, take_all (by omega) hi.2⟩, rfl⟩
  · rw [decide_eq_false hok]
    simp (disch := omega) only [SX0, SX1, SX2, SX3, SX4, SX5, SX6, SX7, SX8, SU0, SY0, SY1, Nat.reduceAdd, Nat.reduceMul, Nat.reduceSub, Nat.reduceLeDiff, Nat.reduceEqDiff, Nat.reduceLT, Nat.reduceBEq, ↓reduceIte, Int.reduceLE, Int.reduceLT, Int.reduceToNat, Int.reduceNeg, reduceCtorEq, Int.reduceEq, SF0, SF1, SF2, DBka0, DAlh0, DHb0, DHb1, DHa0, DCg0, DCe0, DCe1, DCe2, DDb0, DBc0, DBc1, DDe0, DAlv0, DBla0]
    exact fin_val ⟨vF fun hh => hok hh.1, rfl⟩

noncomputable instance (k : Work) : DecidablePred (sheetF k) := fun S => Classical.propDecidable _
theorem cutB_dec (k : Work) (S : Nat) : cutB k S k.W.toNat k.H.toNat = decide (sheetF k S) := by
  rw [Bool.eq_iff_iff, cutB_iff, decide_eq_true_eq]
  rfl
noncomputable def fewS (k : Work) : Int := if fewOk k then (mD (sheetF k) (2 ^ k.Ps.length - 1) : Int) else -1

theorem e_fewestSheets1 : Enters Try.prog 90 := enters_of Try.func90 (by kernel_rfl) (by kernel_rfl)
theorem fewestSheets1_c (k : Work) (f : Nat → Nat → Nat → Bool) (h : fewOk k) (S : Nat) (hS : S < 16) (hf : f S k.W.toNat k.H.toNat = cutB k S k.W.toNat k.H.toNat) : ACalls Try.prog 90 [.val (.int .i64 S), .ptr 2 0, .ptr 0 0] [.cells k.cs, .cells (tabB f), .cells [.ptr 1 0]] [0, 1, 2] (fun r L => r = .val (.bool (decide (sheetF k S))) ∧ L = [.cells k.cs, .cells (tabB f), .cells [.ptr 1 0]]) := by
  obtain ⟨e1, e2, b1, b2, b3, b4⟩ := h.toNat
  rw [← cutB_dec]
  have t1 := tabB_get (f := f) (s := S) (w := k.W.toNat) (h := k.H.toNat) (by omega) (by omega) (by omega)
  rw [hf] at t1
  generalize k.W.toNat = W at *
  generalize k.H.toNat = H at *
  generalize cutB k S W H = b at *
  refine acalls_tm T_tt Try.func90 rfl e_fewestSheets1 13 rfl (W8 _ _ _ .any .any .any .any .any (W8 .any .any .any .any .any .any .any .any [])) rfl (rv := [.tmp 4]) rfl (sx_sound (bl := []) T_tt _ _ _ ?_)
  simp (disch := omega) only [SX0, SX1, SX2, SX3, SX4, SX5, SX6, SX7, SX8, SU0, SY0, SY1, Nat.reduceAdd, Nat.reduceMul, Nat.reduceSub, Nat.reduceLeDiff, Nat.reduceEqDiff, Nat.reduceLT, Nat.reduceBEq, ↓reduceIte, Int.reduceLE, Int.reduceLT, Int.reduceToNat, Int.reduceNeg, reduceCtorEq, Int.reduceEq, SF0, SF1, SF2, DBka0, DAlh0, DHb0, DHb1, DHa0, DCg0, DCe0, DCe1, DCe2, DDb0, DBc0, DBc1, DDe0, DAlv0, DBla0]
  refine awp_drawA T_tt mixed (by decide +kernel) (by kernel_rfl) (by kernel_rfl) ?_
  repeat' first | simp (disch := omega) only [SX0, SX1, SX2, SX3, SX4, SX5, SX6, SX7, SX8, SU0, SY0, SY1, Nat.reduceAdd, Nat.reduceMul, Nat.reduceSub, Nat.reduceLeDiff, Nat.reduceEqDiff, Nat.reduceLT, Nat.reduceBEq, ↓reduceIte, Int.reduceLE, Int.reduceLT, Int.reduceToNat, Int.reduceNeg, reduceCtorEq, Int.reduceEq, SF0, SF1, SF2, DBka0, DAlh0, DHb0, DHb1, DHa0, DCg0, DCe0, DCe1, DCe2, DDb0, DBc0, DBc1, DDe0, DAlv0, DBla0, e1, e2, t1] | refine req (by omega) ?_ | fail
  exact fin_ks [0, 1, 2] (.val (.bool b)) [.cells k.cs, .cells (tabB f), .cells [.ptr 1 0]] ⟨rfl, rfl⟩ (by simp [AV.ren, nameK]) (by simp [keepL, nameK, ob_cells, tabB_rend, Work.rend, renL, AV.ren]) (by simp) (by simp) (by simp)

theorem e_fewestSheetsI : Enters Try.prog 40 := enters_of Try.func40 (by kernel_rfl) (by kernel_rfl)
set_option maxHeartbeats 2000000 in
theorem fewestSheetsI_c (k : Work) (hk : k.Ps.length < 2 ^ 40) : ACalls Try.prog 40 [.agg k.cs] [] [] (fun r L => r = .val (.int .i64 (fewS k)) ∧ L = []) := by
  unfold fewS
  refine acalls_tm T_tt Try.func40 rfl e_fewestSheetsI 13 rfl (W8 _ .any .any .any .any .any .any .any [.any, .any, .any, .any, .any, .any]) rfl (rv := [.tmp 2]) rfl (sx_sound (bl := []) T_tt _ _ _ ?_)
  simp (disch := omega) only [SX0, SX1, SX2, SX3, SX4, SX5, SX6, SX7, SX8, SU0, SY0, SY1, Nat.reduceAdd, Nat.reduceMul, Nat.reduceSub, Nat.reduceLeDiff, Nat.reduceEqDiff, Nat.reduceLT, Nat.reduceBEq, ↓reduceIte, Int.reduceLE, Int.reduceLT, Int.reduceToNat, Int.reduceNeg, reduceCtorEq, Int.reduceEq, SF0, SF1, SF2, DBka0, DAlh0, DHb0, DHb1, DHa0, DCg0, DCe0, DCe1, DCe2, DDb0, DBc0, DBc1, DDe0, DAlv0, DBla0]
  refine acall_one (cutsTold_c k hk) (by simp [freeL, AV.free, Work.free]) rfl ?_
  by_cases h : fewOk k
  · rw [if_pos h, decide_eq_true h]
    obtain ⟨e1, e2, b1, b2, b3, b4⟩ := h.toNat
    have h4 := h.2.2.2.1
    have SO := setsOf_c k k.W.toNat k.H.toNat h.1 e1 e2 b2 b4 h4
    have hN2 : 2 ^ k.Ps.length ≤ 2 ^ 4 := Nat.pow_le_pow_right (by omega) h4
    have hd := sheetF_one h
    simp (disch := omega) only [SX0, SX1, SX2, SX3, SX4, SX5, SX6, SX7, SX8, SU0, SY0, SY1, Nat.reduceAdd, Nat.reduceMul, Nat.reduceSub, Nat.reduceLeDiff, Nat.reduceEqDiff, Nat.reduceLT, Nat.reduceBEq, ↓reduceIte, Int.reduceLE, Int.reduceLT, Int.reduceToNat, Int.reduceNeg, reduceCtorEq, Int.reduceEq, SF0, SF1, SF2, DBka0, DAlh0, DHb0, DHb1, DHa0, DCg0, DCe0, DCe1, DCe2, DDb0, DBc0, DBc1, DDe0, DAlv0, DBla0]
    refine acall_own SO [] [] (by simp only [SX0, SX1, SX2, SX3, SX4, SX5, SX6, SX7, SX8, SU0, SY0, SY1, Nat.reduceAdd, Nat.reduceMul, Nat.reduceSub, Nat.reduceLeDiff, Nat.reduceEqDiff, Nat.reduceLT, Nat.reduceBEq, ↓reduceIte, Int.reduceLE, Int.reduceLT, Int.reduceToNat, Int.reduceNeg, reduceCtorEq, Int.reduceEq, SF0, SF1, SF2, DBka0, DAlh0, DHb0, DHb1, DHa0, DCg0, DCe0, DCe1, DCe2, DDb0, DBc0, DBc1, DDe0, DAlv0, DBla0, SX0]) (by decide) (by decide) (by rfl) (by simp only [SX0, SX1, SX2, SX3, SX4, SX5, SX6, SX7, SX8, SU0, SY0, SY1, Nat.reduceAdd, Nat.reduceMul, Nat.reduceSub, Nat.reduceLeDiff, Nat.reduceEqDiff, Nat.reduceLT, Nat.reduceBEq, ↓reduceIte, Int.reduceLE, Int.reduceLT, Int.reduceToNat, Int.reduceNeg, reduceCtorEq, Int.reduceEq, SF0, SF1, SF2, DBka0, DAlh0, DHb0, DHb1, DHa0, DCg0, DCe0, DCe1, DCe2, DDb0, DBc0, DBc1, DDe0, DAlv0, DBla0, SX0]) ?_
    rintro _ _ ⟨f, rfl, rfl, hf⟩
    have FG := fgSheets_c k f (sheetF k) (mD (sheetF k)) k.Ps.length (by omega) (fun s hs => (mD_ok hd hs).1) (mD_zero _) (fun s hs => by have := (mD_ok hd hs).2; omega) 90 (fun s hs => fewestSheets1_c k f h s (by omega) (hf s _ _ hs b1 (Nat.le_refl _) b3 (Nat.le_refl _)))
    simp (disch := omega) only [SX0, SX1, SX2, SX3, SX4, SX5, SX6, SX7, SX8, SU0, SY0, SY1, Nat.reduceAdd, Nat.reduceMul, Nat.reduceSub, Nat.reduceLeDiff, Nat.reduceEqDiff, Nat.reduceLT, Nat.reduceBEq, ↓reduceIte, Int.reduceLE, Int.reduceLT, Int.reduceToNat, Int.reduceNeg, reduceCtorEq, Int.reduceEq, SF0, SF1, SF2, DBka0, DAlh0, DHb0, DHb1, DHa0, DCg0, DCe0, DCe1, DCe2, DDb0, DBc0, DBc1, DDe0, DAlv0, DBla0]
    refine acall_own FG [0, 1, 2] [] (by simp [keepL, nameIn, ob_cells, tabB_rend, Work.rend, renL, AV.ren]) (by decide) (by decide) (by rfl) (by simp [AV.ren, nameIn, renL]) ?_
    rintro _ _ ⟨rfl, rfl⟩
    simp (disch := omega) only [SX0, SX1, SX2, SX3, SX4, SX5, SX6, SX7, SX8, SU0, SY0, SY1, Nat.reduceAdd, Nat.reduceMul, Nat.reduceSub, Nat.reduceLeDiff, Nat.reduceEqDiff, Nat.reduceLT, Nat.reduceBEq, ↓reduceIte, Int.reduceLE, Int.reduceLT, Int.reduceToNat, Int.reduceNeg, reduceCtorEq, Int.reduceEq, SF0, SF1, SF2, DBka0, DAlh0, DHb0, DHb1, DHa0, DCg0, DCe0, DCe1, DCe2, DDb0, DBc0, DBc1, DDe0, DAlv0, DBla0]
    exact fin_val ⟨rfl, rfl⟩
  · rw [if_neg h, decide_eq_false h]
    simp (disch := omega) only [SX0, SX1, SX2, SX3, SX4, SX5, SX6, SX7, SX8, SU0, SY0, SY1, Nat.reduceAdd, Nat.reduceMul, Nat.reduceSub, Nat.reduceLeDiff, Nat.reduceEqDiff, Nat.reduceLT, Nat.reduceBEq, ↓reduceIte, Int.reduceLE, Int.reduceLT, Int.reduceToNat, Int.reduceNeg, reduceCtorEq, Int.reduceEq, SF0, SF1, SF2, DBka0, DAlh0, DHb0, DHb1, DHa0, DCg0, DCe0, DCe1, DCe2, DDb0, DBc0, DBc1, DDe0, DAlv0, DBla0]
    exact fin_val ⟨rfl, rfl⟩

end Go.Pc
