/- What sets of panes can be cut: the reference's table. -/
import Derived.Test.YtkcpcmobmalijaaBlh
import Derived.Test.YtkcpcmobmalijaaJa
set_option linter.unusedSimpArgs false
set_option linter.unusedVariables false
namespace Go.Pc
open Go Go.Proofs

theorem Work.frzC (r j : Nat) (es : List (List AV)) (w : Work) : frzL r j es w.cs = w.cs := freeL_frz r j es w.free
noncomputable def onlyB (k : Work) (S w h : Nat) : Bool := @decide (onlyP k S w h) (Classical.propDecidable _)
theorem onlyB_iff {k : Work} {S w h : Nat} : onlyB k S w h = true ↔ onlyP k S w h := @decide_eq_true_iff _ (Classical.propDecidable _)
/-- How the reference tells it. -/
theorem cutB_ref {k : Work} (hk : k.ok) {S w h : Nat} (hw : 1 ≤ w) (hh : 1 ≤ h) : cutB k S w h = (decide (S = 0) || (decide (1 < w) && cutB k S (w - 1) h) || (decide (1 < h) && cutB k S w (h - 1)) || onlyB k S w h || partsB k S w h) := by
  rw [Bool.eq_iff_iff, cutB_iff]
  simp only [Bool.or_eq_true, Bool.and_eq_true, decide_eq_true_eq, cutB_iff, onlyB_iff, partsB_iff]
  constructor
  · intro H
    rcases H.inv hk with e | ⟨i, q, e, hq, hw'⟩ | hp
    · exact .inl (.inl (.inl (.inl e)))
    · have hqo := hk.2.2.1 q (List.mem_of_getElem? hq)
      unfold Pane.ok at hqo
      have down : ∀ w' h' : Nat, wayOk q w' h' → Cut k S w' h' := fun w' h' hx => by rw [e]; exact .one i q w' h' hq hx
      unfold wayOk at hw'
      rcases hw' with ⟨a, b⟩ | ⟨a, b, c, d⟩
      · by_cases c1 : q.W < w
        · exact .inl (.inl (.inl (.inr ⟨by omega, down _ _ (.inl (by omega))⟩)))
        · by_cases c2 : q.H < h
          · exact .inl (.inl (.inr ⟨by omega, down _ _ (.inl (by omega))⟩))
          · exact .inl (.inr ⟨i, q, e, hq, .inl (by omega)⟩)
      · by_cases c1 : q.H < w
        · exact .inl (.inl (.inl (.inr ⟨by omega, down _ _ (.inr ⟨a, b, by omega, by omega⟩)⟩)))
        · by_cases c2 : q.W < h
          · exact .inl (.inl (.inr ⟨by omega, down _ _ (.inr ⟨a, b, by omega, by omega⟩)⟩))
          · exact .inl (.inr ⟨i, q, e, hq, .inr ⟨a, b, by omega, by omega⟩⟩)
    · exact .inr hp
  · rintro ((((e | ⟨_, H⟩) | ⟨_, H⟩) | ⟨i, q, e, hq, hx⟩) | H)
    · rw [e]; exact .zero w h hw hh
    · exact H.mono w h (by omega) (Nat.le_refl _)
    · exact H.mono w h (Nat.le_refl _) (by omega)
    · rw [e]
      refine .one i q w h hq ?_
      unfold wayOk
      rcases hx with hx | hx
      · exact .inl (by omega)
      · exact .inr ⟨hx.1, hx.2.1, by omega, by omega⟩
    · exact parts_cut H
theorem cutB_low {k : Work} (hk : k.ok) {S w h : Nat} (hx : w = 0 ∨ h = 0) : cutB k S w h = false := cutB_false fun H => by have := H.pos hk; omega

theorem e_cutTableS : Enters Try.prog 141 := enters_of Try.func141 (by kernel_rfl) (by kernel_rfl)
set_option maxRecDepth 16000 in
set_option maxHeartbeats 8000000 in
theorem cutTableS_c (k : Work) (W D : Nat) (hk : k.ok) (hkW : k.W = W) (hkH : k.H + 1 = D) (hW : W ≤ 16) (hD : D ≤ 17) (hn : k.Ps.length ≤ 4) : ACalls Try.prog 141 [.agg k.cs] [] [] (fun r L => r = .sl ((tabC k (2 ^ k.Ps.length) W D).map fun c => [c]) ∧ L = []) := by
  have hN1 : 1 ≤ 2 ^ k.Ps.length := Nat.one_le_two_pow
  have hN2 : 2 ^ k.Ps.length ≤ 2 ^ 4 := Nat.pow_le_pow_right (by omega) hn
  have PW := powerS_c k.Ps.length (by omega)
  have hkw := hk
  unfold Work.ok at hkw
  generalize hN : 2 ^ k.Ps.length = N at *
  refine acalls_tm T_tt Try.func141 rfl e_cutTableS 99 rfl (W8 _ .any .any .any .any .any .any .any (W8 .any .any .any .any .any .any .any .any (W8 .any .any .any .any .any .any .any .any (W8 .any .any .any .any .any .any .any .any (W8 .any .any .any .any .any .any .any .any (W8 .any .any .any .any .any .any .any .any (W8 .any .any .any .any .any .any .any .any (W8 .any .any .any .any .any .any .any .any (W8 .any .any .any .any .any .any .any .any (W8 .any .any .any .any .any .any .any .any (W8 .any .any .any .any .any .any .any .any (W8 .any .any .any .any .any .any .any .any [.any, .any, .any, .any])))))))))))) rfl (rv := [.tmp 2]) rfl (sx_sound (bl := []) T_tt _ _ _ ?_)
  simp (disch := omega) only [SX0, SX1, SX2, SX3, SX4, SX5, SX6, SX7, SX8, SU0, SY0, SY1, Nat.reduceAdd, Nat.reduceMul, Nat.reduceSub, Nat.reduceLeDiff, Nat.reduceEqDiff, Nat.reduceLT, Nat.reduceBEq, ↓reduceIte, Int.reduceLE, Int.reduceLT, Int.reduceToNat, Int.reduceNeg, reduceCtorEq, Int.reduceEq, SF0, SF1, SF2, DBka0, DAlh0, DHb0, DHb1, DHa0, DCg0, DCe0, DCe1, DCe2, DDb0, DBc0, DBc1, DDe0, DAlv0, DBla0]
  refine acall_one PW rfl rfl ?_
  repeat' first | simp (disch := omega) only [SX0, SX1, SX2, SX3, SX4, SX5, SX6, SX7, SX8, SU0, SY0, SY1, Nat.reduceAdd, Nat.reduceMul, Nat.reduceSub, Nat.reduceLeDiff, Nat.reduceEqDiff, Nat.reduceLT, Nat.reduceBEq, ↓reduceIte, Int.reduceLE, Int.reduceLT, Int.reduceToNat, Int.reduceNeg, reduceCtorEq, Int.reduceEq, SF0, SF1, SF2, DBka0, DAlh0, DHb0, DHb1, DHa0, DCg0, DCe0, DCe1, DCe2, DDb0, DBc0, DBc1, DDe0, DAlv0, DBla0, hkH] | refine req (by omega) ?_ | fail
  with_reducible refine awp_loop_h (G := Nat) 7 93 (fun S => [(5, .os 1 1 0 S), (6, .val (.int .i64 S))]) (fun S => [.cells k.cs, .vec 1 ((tabC k S W D).map fun c => [c])]) (fun S => S ≤ N) (fun S => N - S) 0 (Nat.zero_le _) ?_ (fun S hS => ?_)
  · simp (disch := omega) only [SX0, SX1, SX2, SX3, SX4, SX5, SX6, SX7, SX8, SU0, SY0, SY1, Nat.reduceAdd, Nat.reduceMul, Nat.reduceSub, Nat.reduceLeDiff, Nat.reduceEqDiff, Nat.reduceLT, Nat.reduceBEq, ↓reduceIte, Int.reduceLE, Int.reduceLT, Int.reduceToNat, Int.reduceNeg, reduceCtorEq, Int.reduceEq, SF0, SF1, SF2, DBka0, DAlh0, DHb0, DHb1, DHa0, DCg0, DCe0, DCe1, DCe2, DDb0, DBc0, DBc1, DDe0, DAlv0, DBla0]
    (refine wk_le ?_ ?_ ?_; (focus (simp [W8, leTm, leAV, AV.under, underL, Work.under, tabC]; done)); (focus (simp [leL, OB.under, underL, AV.under, Work.under, tabC]; done)); (focus (simp; done)))
  refine awp_step (bl := []) T_tt ?_
  simp (disch := omega) only [SX0, SX1, SX2, SX3, SX4, SX5, SX6, SX7, SX8, SU0, SY0, SY1, Nat.reduceAdd, Nat.reduceMul, Nat.reduceSub, Nat.reduceLeDiff, Nat.reduceEqDiff, Nat.reduceLT, Nat.reduceBEq, ↓reduceIte, Int.reduceLE, Int.reduceLT, Int.reduceToNat, Int.reduceNeg, reduceCtorEq, Int.reduceEq, SF0, SF1, SF2, DBka0, DAlh0, DHb0, DHb1, DHa0, DCg0, DCe0, DCe1, DCe2, DDb0, DBc0, DBc1, DDe0, DAlv0, DBla0]
  refine br_dec (fun h1 => ?_) (fun h1 => ?_)
  · have hSN : S < N := by omega
    have lt := tabC_len k S W D
    have eW1 : (W : Int) + 1 = ((W + 1 : Nat) : Int) := by omega
    have eM := idx_int (W + 1) 0 D
    have bM : (W + 1) * D ≤ 17 * 17 := Nat.mul_le_mul (by omega) hD
    simp (disch := omega) only [SX0, SX1, SX2, SX3, SX4, SX5, SX6, SX7, SX8, SU0, SY0, SY1, Nat.reduceAdd, Nat.reduceMul, Nat.reduceSub, Nat.reduceLeDiff, Nat.reduceEqDiff, Nat.reduceLT, Nat.reduceBEq, ↓reduceIte, Int.reduceLE, Int.reduceLT, Int.reduceToNat, Int.reduceNeg, reduceCtorEq, Int.reduceEq, SF0, SF1, SF2, DBka0, DAlh0, DHb0, DHb1, DHa0, DCg0, DCe0, DCe1, DCe2, DDb0, DBc0, DBc1, DDe0, DAlv0, DBla0]
    refine awp_seqB (awp_blockI ?_)
    refine awp_step (bl := []) T_tt ?_
    repeat' first | simp (disch := omega) only [SX0, SX1, SX2, SX3, SX4, SX5, SX6, SX7, SX8, SU0, SY0, SY1, Nat.reduceAdd, Nat.reduceMul, Nat.reduceSub, Nat.reduceLeDiff, Nat.reduceEqDiff, Nat.reduceLT, Nat.reduceBEq, ↓reduceIte, Int.reduceLE, Int.reduceLT, Int.reduceToNat, Int.reduceNeg, reduceCtorEq, Int.reduceEq, SF0, SF1, SF2, DBka0, DAlh0, DHb0, DHb1, DHa0, DCg0, DCe0, DCe1, DCe2, DDb0, DBc0, DBc1, DDe0, DAlv0, DBla0, hkW, eW1, eM, Int.toNat_natCast] | refine req (by omega) ?_ | fail
    refine awp_seqB (awp_tcut (bl := []) T_tt 2 1 30 ?_)
    repeat' first | simp (disch := omega) only [SX0, SX1, SX2, SX3, SX4, SX5, SX6, SX7, SX8, SU0, SY0, SY1, Nat.reduceAdd, Nat.reduceMul, Nat.reduceSub, Nat.reduceLeDiff, Nat.reduceEqDiff, Nat.reduceLT, Nat.reduceBEq, ↓reduceIte, Int.reduceLE, Int.reduceLT, Int.reduceToNat, Int.reduceNeg, reduceCtorEq, Int.reduceEq, SF0, SF1, SF2, DBka0, DAlh0, DHb0, DHb1, DHa0, DCg0, DCe0, DCe1, DCe2, DDb0, DBc0, DBc1, DDe0, DAlv0, DBla0, List.take_succ_cons, List.take_zero, List.drop_succ_cons, List.drop_zero] | refine req (by omega) ?_ | fail
    refine cutT (r := 2) (k := 1) (off := 0) (n := (W + 1) * D) rfl fun v hv1 => ?_
    repeat' first | simp (disch := omega) only [SX0, SX1, SX2, SX3, SX4, SX5, SX6, SX7, SX8, SU0, SY0, SY1, Nat.reduceAdd, Nat.reduceMul, Nat.reduceSub, Nat.reduceLeDiff, Nat.reduceEqDiff, Nat.reduceLT, Nat.reduceBEq, ↓reduceIte, Int.reduceLE, Int.reduceLT, Int.reduceToNat, Int.reduceNeg, reduceCtorEq, Int.reduceEq, SF0, SF1, SF2, DBka0, DAlh0, DHb0, DHb1, DHa0, DCg0, DCe0, DCe1, DCe2, DDb0, DBc0, DBc1, DDe0, DAlv0, DBla0, hv1, lt] | refine req (by omega) ?_ | refine req (by decide) ?_ | fail
    refine tieK (tabC k S W D) (by simp) rfl ?_
    simp (disch := omega) only [SX0, SX1, SX2, SX3, SX4, SX5, SX6, SX7, SX8, SU0, SY0, SY1, Nat.reduceAdd, Nat.reduceMul, Nat.reduceSub, Nat.reduceLeDiff, Nat.reduceEqDiff, Nat.reduceLT, Nat.reduceBEq, ↓reduceIte, Int.reduceLE, Int.reduceLT, Int.reduceToNat, Int.reduceNeg, reduceCtorEq, Int.reduceEq, SF0, SF1, SF2, DBka0, DAlh0, DHb0, DHb1, DHa0, DCg0, DCe0, DCe1, DCe2, DDb0, DBc0, DBc1, DDe0, DAlv0, DBla0]
    rw [rowC_zero]
    have u1 : ∀ m, underL (m + 3) (tabC k S W D ++ [.os 2 1 0 ((W + 1) * D)]) = true := fun m => tabC_under k S W D (by simp [AV.under])
    have uR : ∀ g, (rowC g W D).length = (W + 1) * D := fun g => rowC_len g W D
    refine sx_sound (bl := []) T_tt _ _ _ ?_
    simp (disch := omega) only [SX0, SX1, SX2, SX3, SX4, SX5, SX6, SX7, SX8, SU0, SY0, SY1, Nat.reduceAdd, Nat.reduceMul, Nat.reduceSub, Nat.reduceLeDiff, Nat.reduceEqDiff, Nat.reduceLT, Nat.reduceBEq, ↓reduceIte, Int.reduceLE, Int.reduceLT, Int.reduceToNat, Int.reduceNeg, reduceCtorEq, Int.reduceEq, SF0, SF1, SF2, DBka0, DAlh0, DHb0, DHb1, DHa0, DCg0, DCe0, DCe1, DCe2, DDb0, DBc0, DBc1, DDe0, DAlv0, DBla0]
    with_reducible refine awp_loop_h (G := (Nat → Nat → Bool) × Nat) 9 91 (fun g => [(8, .val (.int .i64 g.2))]) (fun g => [.cells k.cs, .slab (tabC k S W D ++ [.os 2 1 0 ((W + 1) * D)]), .vec 1 (rowC g.1 W D)]) (fun g => (1 ≤ g.2 ∧ g.2 ≤ W + 1) ∧ (∀ w h, w = 0 ∨ h = 0 → g.1 w h = false) ∧ ∀ w h, 1 ≤ w → w < g.2 → 1 ≤ h → h < D → g.1 w h = cutB k S w h) (fun g => W + 1 - g.2) ((fun _ _ => false), 1) ⟨⟨Nat.le_refl _, by simp⟩, fun _ _ _ => rfl, fun w h a b => absurd b (by simp only []; omega)⟩ ?_ (fun g hg => ?_)
    · simp (disch := omega) only [SX0, SX1, SX2, SX3, SX4, SX5, SX6, SX7, SX8, SU0, SY0, SY1, Nat.reduceAdd, Nat.reduceMul, Nat.reduceSub, Nat.reduceLeDiff, Nat.reduceEqDiff, Nat.reduceLT, Nat.reduceBEq, ↓reduceIte, Int.reduceLE, Int.reduceLT, Int.reduceToNat, Int.reduceNeg, reduceCtorEq, Int.reduceEq, SF0, SF1, SF2, DBka0, DAlh0, DHb0, DHb1, DHa0, DCg0, DCe0, DCe1, DCe2, DDb0, DBc0, DBc1, DDe0, DAlv0, DBla0]
      (refine wk_le ?_ ?_ ?_; (focus (simp [W8, leTm, leAV, AV.under, underL, Work.under, u1]; done)); (focus (simp [leL, OB.under, underL, AV.under, Work.under, u1]; done)); (focus (simp; done)))
    obtain ⟨g1, w⟩ := g
    simp only at hg
    obtain ⟨hw, hz1, hg1⟩ := hg
    refine sx_sound (bl := []) T_tt _ _ _ ?_
    simp (disch := omega) only [SX0, SX1, SX2, SX3, SX4, SX5, SX6, SX7, SX8, SU0, SY0, SY1, Nat.reduceAdd, Nat.reduceMul, Nat.reduceSub, Nat.reduceLeDiff, Nat.reduceEqDiff, Nat.reduceLT, Nat.reduceBEq, ↓reduceIte, Int.reduceLE, Int.reduceLT, Int.reduceToNat, Int.reduceNeg, reduceCtorEq, Int.reduceEq, SF0, SF1, SF2, DBka0, DAlh0, DHb0, DHb1, DHa0, DCg0, DCe0, DCe1, DCe2, DDb0, DBc0, DBc1, DDe0, DAlv0, DBla0, hkW]
    refine br_dec (fun h2 => ?_) (fun h2 => ?_)
    · simp (disch := omega) only [SX0, SX1, SX2, SX3, SX4, SX5, SX6, SX7, SX8, SU0, SY0, SY1, Nat.reduceAdd, Nat.reduceMul, Nat.reduceSub, Nat.reduceLeDiff, Nat.reduceEqDiff, Nat.reduceLT, Nat.reduceBEq, ↓reduceIte, Int.reduceLE, Int.reduceLT, Int.reduceToNat, Int.reduceNeg, reduceCtorEq, Int.reduceEq, SF0, SF1, SF2, DBka0, DAlh0, DHb0, DHb1, DHa0, DCg0, DCe0, DCe1, DCe2, DDb0, DBc0, DBc1, DDe0, DAlv0, DBla0]
      with_reducible refine awp_loop_h (G := (Nat → Nat → Bool) × Nat) 10 90 (fun g => [(9, .val (.int .i64 g.2))]) (fun g => [.cells k.cs, .slab (tabC k S W D ++ [.os 2 1 0 ((W + 1) * D)]), .vec 1 (rowC g.1 W D)]) (fun g => (1 ≤ g.2 ∧ g.2 ≤ D) ∧ (∀ w h, w = 0 ∨ h = 0 → g.1 w h = false) ∧ (∀ w' h, 1 ≤ w' → w' < w → 1 ≤ h → h < D → g.1 w' h = cutB k S w' h) ∧ ∀ h, 1 ≤ h → h < g.2 → g.1 w h = cutB k S w h) (fun g => D - g.2) (g1, 1) ⟨⟨Nat.le_refl _, by simp only []; omega⟩, hz1, hg1, fun h a b => absurd b (by simp only []; omega)⟩ ?_ (fun g hg => ?_)
      · simp (disch := omega) only [SX0, SX1, SX2, SX3, SX4, SX5, SX6, SX7, SX8, SU0, SY0, SY1, Nat.reduceAdd, Nat.reduceMul, Nat.reduceSub, Nat.reduceLeDiff, Nat.reduceEqDiff, Nat.reduceLT, Nat.reduceBEq, ↓reduceIte, Int.reduceLE, Int.reduceLT, Int.reduceToNat, Int.reduceNeg, reduceCtorEq, Int.reduceEq, SF0, SF1, SF2, DBka0, DAlh0, DHb0, DHb1, DHa0, DCg0, DCe0, DCe1, DCe2, DDb0, DBc0, DBc1, DDe0, DAlv0, DBla0]
        (refine wk_le ?_ ?_ ?_; (focus (simp [W8, leTm, leAV, AV.under, underL, Work.under, u1]; done)); (focus (simp [leL, OB.under, underL, AV.under, Work.under, u1]; done)); (focus (simp; done)))
      obtain ⟨g, h⟩ := g
      simp only at hg
      obtain ⟨hh, hz, hg2, hg3⟩ := hg
      refine sx_sound (bl := []) T_tt _ _ _ ?_
      simp (disch := omega) only [SX0, SX1, SX2, SX3, SX4, SX5, SX6, SX7, SX8, SU0, SY0, SY1, Nat.reduceAdd, Nat.reduceMul, Nat.reduceSub, Nat.reduceLeDiff, Nat.reduceEqDiff, Nat.reduceLT, Nat.reduceBEq, ↓reduceIte, Int.reduceLE, Int.reduceLT, Int.reduceToNat, Int.reduceNeg, reduceCtorEq, Int.reduceEq, SF0, SF1, SF2, DBka0, DAlh0, DHb0, DHb1, DHa0, DCg0, DCe0, DCe1, DCe2, DDb0, DBc0, DBc1, DDe0, DAlv0, DBla0]
      refine br_dec (fun h3 => ?_) (fun h3 => ?_)
      · have hhD : h < D := by omega
        have put := fun m => rowC_set (g := g) (W := W) (D := D) (w := w) (h := h) (by omega) hhD m
        have hlr := uR g
        have n0 := idx_lt (w := w) (h := h) (W := W) (D := D) (by omega) hhD
        have m0 : w * D ≤ 16 * 17 := Nat.mul_le_mul (by omega) hD
        have m1 : (w - 1) * D ≤ 16 * 17 := Nat.mul_le_mul (by omega) hD
        have n1 := idx_lt (w := w - 1) (h := h) (W := W) (D := D) (by omega) hhD
        have i0 := idx_int w h D
        have i1 := idx_int (w - 1) h D
        have j0 : ((w * D : Nat) : Int) + (h : Int) = ((w * D + h : Nat) : Int) := by omega
        have j1 : (((w - 1) * D : Nat) : Int) + (h : Int) = (((w - 1) * D + h : Nat) : Int) := by omega
        have ew : (w : Int) - 1 = ((w - 1 : Nat) : Int) := by omega
        have eh : ((w * D + h : Nat) : Int) - 1 = ((w * D + (h - 1) : Nat) : Int) := by omega
        have r0 := rowC_get (g := g) (W := W) (D := D) (w := w) (h := h) (by omega) hhD
        have r1 := rowC_get (g := g) (W := W) (D := D) (w := w - 1) (h := h) (by omega) hhD
        have r2 := rowC_get (g := g) (W := W) (D := D) (w := w) (h := h - 1) (by omega) (by omega)
        have q1 : 1 < w → g (w - 1) h = cutB k S (w - 1) h := fun a => hg2 (w - 1) h (by omega) (by omega) (by omega) hhD
        have q2 : 1 < h → g w (h - 1) = cutB k S w (h - 1) := fun a => hg3 (h - 1) (by omega) (by omega)
        have OP := onlyPaneS_c k hn S w h (by omega) (by omega) (by omega) (onlyB k S w h) onlyB_iff
        have TW := twoSetsS_c k g S w h W D hW hD hkH (by omega) (by omega) (by omega)
        have rt : OB.ren (nameIn [1, 2] 3) (.slab (tabC k S W D ++ [AV.os 1 1 0 ((W + 1) * D)])) = .slab (tabC k S W D ++ [AV.os 2 1 0 ((W + 1) * D)]) := by simp [OB.ren, tabC_ren, AV.ren, nameIn]
        have ref := cutB_ref hk (S := S) (w := w) (h := h) hw.1 hh.1
        have done : ∀ b, b = cutB k S w h → (∀ w' h', w' = 0 ∨ h' = 0 → updR g w h b w' h' = false) ∧ (∀ w' h', 1 ≤ w' → w' < w → 1 ≤ h' → h' < D → updR g w h b w' h' = cutB k S w' h') ∧ ∀ h', 1 ≤ h' → h' < h + 1 → updR g w h b w h' = cutB k S w h' := fun b hb => by
          unfold updR
          refine ⟨fun w' h' a => ?_, fun w' h' a b c d => ?_, fun h' a b => ?_⟩
          · rw [if_neg (by omega)]; exact hz w' h' a
          · rw [if_neg (by omega)]; exact hg2 w' h' a b c d
          · by_cases e : h' = h
            · subst e; simp [hb]
            · rw [if_neg (by omega)]; exact hg3 h' a (by omega)
        repeat' first
          | simp (disch := omega) only [SX0, SX1, SX2, SX3, SX4, SX5, SX6, SX7, SX8, SU0, SY0, SY1, Nat.reduceAdd, Nat.reduceMul, Nat.reduceSub, Nat.reduceLeDiff, Nat.reduceEqDiff, Nat.reduceLT, Nat.reduceBEq, ↓reduceIte, Int.reduceLE, Int.reduceLT, Int.reduceToNat, Int.reduceNeg, reduceCtorEq, Int.reduceEq, SF0, SF1, SF2, DBka0, DAlh0, DHb0, DHb1, DHa0, DCg0, DCe0, DCe1, DCe2, DDb0, DBc0, DBc1, DDe0, DAlv0, DBla0, i0, i1, j0, j1, ew, eh, r0, r1, r2, hlr, rt]
          | refine req (by omega) ?_
          | with_reducible refine br_dec (fun hb => ?_) (fun hb => ?_)
          | with_reducible refine br_bool (fun hb => ?_) (fun hb => ?_)
          | refine acall_one OP (by simp [freeL, AV.free, Work.free]) rfl ?_
          | (refine acall_own TW [1, 2] [] (by simp [keepL, nameIn, OB.ren, tabC_ren, AV.ren]) (by decide) (by decide) (by rfl) (by simp [AV.ren, nameIn, Work.rend]) ?_; rintro _ _ ⟨rfl, rfl⟩)
          | focus
              refine (fun hm : true = cutB k S w h => ?_) ?_
              rotate_left
              focus ((rw [ref]; first | rw [decide_eq_true (show S = 0 by omega)] | rw [decide_eq_false (show ¬ S = 0 by omega)]); (try first | rw [decide_eq_true (show 1 < w by omega), ← q1 (by omega)] | rw [decide_eq_false (show ¬ 1 < w by omega)]); (try first | rw [decide_eq_true (show 1 < h by omega), ← q2 (by omega)] | rw [decide_eq_false (show ¬ 1 < h by omega)]); simp [*]; done)
              refine ⟨(updR g w h true, h + 1), ⟨⟨by omega, by simp only []; omega⟩, done true hm⟩, by simp only []; omega, ?_⟩
              rw [put]
              (refine wk_le ?_ ?_ ?_; (focus (simp [W8, leTm, leAV, AV.under, underL, Work.under, u1]; done)); (focus (simp [leL, OB.under, underL, AV.under, Work.under, u1]; done)); (focus (simp; done)))
              done
          | focus
              refine (fun hm : partsB k S w h = cutB k S w h => ?_) ?_
              rotate_left
              focus ((rw [ref]; first | rw [decide_eq_true (show S = 0 by omega)] | rw [decide_eq_false (show ¬ S = 0 by omega)]); (try first | rw [decide_eq_true (show 1 < w by omega), ← q1 (by omega)] | rw [decide_eq_false (show ¬ 1 < w by omega)]); (try first | rw [decide_eq_true (show 1 < h by omega), ← q2 (by omega)] | rw [decide_eq_false (show ¬ 1 < h by omega)]); simp [*]; done)
              refine ⟨(updR g w h (partsB k S w h), h + 1), ⟨⟨by omega, by simp only []; omega⟩, done _ hm⟩, by simp only []; omega, ?_⟩
              rw [put]
              (refine wk_le ?_ ?_ ?_; (focus (simp [W8, leTm, leAV, AV.under, underL, Work.under, u1]; done)); (focus (simp [leL, OB.under, underL, AV.under, Work.under, u1]; done)); (focus (simp; done)))
              done
          | fail
      · have hhD : h = D := by omega
        subst hhD
        simp (disch := omega) only [SX0, SX1, SX2, SX3, SX4, SX5, SX6, SX7, SX8, SU0, SY0, SY1, Nat.reduceAdd, Nat.reduceMul, Nat.reduceSub, Nat.reduceLeDiff, Nat.reduceEqDiff, Nat.reduceLT, Nat.reduceBEq, ↓reduceIte, Int.reduceLE, Int.reduceLT, Int.reduceToNat, Int.reduceNeg, reduceCtorEq, Int.reduceEq, SF0, SF1, SF2, DBka0, DAlh0, DHb0, DHb1, DHa0, DCg0, DCe0, DCe1, DCe2, DDb0, DBc0, DBc1, DDe0, DAlv0, DBla0]
        refine ⟨(g, w + 1), ⟨⟨by omega, by simp only []; omega⟩, hz, fun w' h' a b c d => ?_⟩, by simp only []; omega, ?_⟩
        · by_cases e : w' = w
          · subst e; exact hg3 h' c d
          · exact hg2 w' h' a (by simp only [] at b; omega) c d
        (refine wk_le ?_ ?_ ?_; (focus (simp [W8, leTm, leAV, AV.under, underL, Work.under, u1]; done)); (focus (simp [leL, OB.under, underL, AV.under, Work.under, u1]; done)); (focus (simp; done)))
    · have hw1 : w = W + 1 := by omega
      subst hw1
      have hrow : rowC g1 W D = rowC (cutB k S) W D := rowC_congr (by omega) fun w h a b => by
        by_cases c : w = 0 ∨ h = 0
        · rw [hz1 w h c, cutB_low hk c]
        · exact hg1 w h (by omega) (by omega) (by omega) b
      rw [hrow]
      have hfz : List.map (AV.frz 2 1 (rowC (cutB k S) W D)) (tabC k S W D ++ [AV.os 2 1 0 ((W + 1) * D)]) = tabC k (S + 1) W D := by
        have e1 : tabC k (S + 1) W D = tabC k S W D ++ [.sl (rowC (cutB k S) W D)] := by unfold tabC; rw [List.range_succ, List.map_append]; rfl
        have e2 : (AV.os 2 1 0 ((W + 1) * D)).frz 2 1 (rowC (cutB k S) W D) = .sl (rowC (cutB k S) W D) := by
          simp only [AV.frz, uR]
          simp [List.take_of_length_le (Nat.le_of_eq (uR (cutB k S)))]
        rw [List.map_append, freeL_frzm _ _ _ (tabC_free k S W D), e1, List.map_cons, List.map_nil, e2]
      simp (disch := omega) only [SX0, SX1, SX2, SX3, SX4, SX5, SX6, SX7, SX8, SU0, SY0, SY1, Nat.reduceAdd, Nat.reduceMul, Nat.reduceSub, Nat.reduceLeDiff, Nat.reduceEqDiff, Nat.reduceLT, Nat.reduceBEq, ↓reduceIte, Int.reduceLE, Int.reduceLT, Int.reduceToNat, Int.reduceNeg, reduceCtorEq, Int.reduceEq, SF0, SF1, SF2, DBka0, DAlh0, DHb0, DHb1, DHa0, DCg0, DCe0, DCe1, DCe2, DDb0, DBc0, DBc1, DDe0, DAlv0, DBla0]
      (refine awp_wk (wk_frz (r := 2) (k := 1) (es := rowC (cutB k S) W D) rfl (by simp)) ?_; simp only [AS.frz, W8_map, List.map_cons, List.map_nil, AV.frz, OB.frz, frzL, if_true, if_false, Nat.reduceEqDiff, Nat.zero_add, true_and, List.length_map, List.drop_zero, List.set_cons_succ, List.set_cons_zero, Work.frzm, Plan.frzm, Nat.le_refl, hfz])
      refine awp_wk (wk_unslab (r := 1) (cs := tabC k (S + 1) W D) rfl (tabC_pure k (S + 1) W D)) ?_
      simp only [Work.frzC, List.set_cons_succ, List.set_cons_zero]
      refine sx_sound (bl := []) T_tt _ _ _ ?_
      simp (disch := omega) only [SX0, SX1, SX2, SX3, SX4, SX5, SX6, SX7, SX8, SU0, SY0, SY1, Nat.reduceAdd, Nat.reduceMul, Nat.reduceSub, Nat.reduceLeDiff, Nat.reduceEqDiff, Nat.reduceLT, Nat.reduceBEq, ↓reduceIte, Int.reduceLE, Int.reduceLT, Int.reduceToNat, Int.reduceNeg, reduceCtorEq, Int.reduceEq, SF0, SF1, SF2, DBka0, DAlh0, DHb0, DHb1, DHa0, DCg0, DCe0, DCe1, DCe2, DDb0, DBc0, DBc1, DDe0, DAlv0, DBla0]
      refine ⟨S + 1, by omega, by omega, ?_⟩
      (refine wk_le ?_ ?_ ?_; (focus (simp [W8, leTm, leAV, AV.under, underL, Work.under]; done)); (focus (simp [leL, OB.under, underL, AV.under, Work.under]; done)); (focus (simp; done)))
  · have e : S = N := by omega
    subst e
    simp (disch := omega) only [SX0, SX1, SX2, SX3, SX4, SX5, SX6, SX7, SX8, SU0, SY0, SY1, Nat.reduceAdd, Nat.reduceMul, Nat.reduceSub, Nat.reduceLeDiff, Nat.reduceEqDiff, Nat.reduceLT, Nat.reduceBEq, ↓reduceIte, Int.reduceLE, Int.reduceLT, Int.reduceToNat, Int.reduceNeg, reduceCtorEq, Int.reduceEq, SF0, SF1, SF2, DBka0, DAlh0, DHb0, DHb1, DHa0, DCg0, DCe0, DCe1, DCe2, DDb0, DBc0, DBc1, DDe0, DAlv0, DBla0]
    exact fin_row rfl (by simp [tabC_len]) ⟨rfl, rfl⟩

end Go.Pc
