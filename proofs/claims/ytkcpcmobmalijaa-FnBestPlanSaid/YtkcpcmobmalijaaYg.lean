/- The program's table, exactly. -/
import Derived.Test.YtkcpcmobmalijaaYf
set_option linter.unusedSimpArgs false
set_option linter.unusedVariables false
namespace Go.Pc
open Go Go.Proofs

theorem maxTo_next {g : Nat → Int} {m : Int} {c : Nat} (h : 1 ≤ c) : maxTo g m c = max (maxTo g m (c - 1)) (g c) := by
  obtain ⟨c, rfl⟩ : ∃ c', c = c' + 1 := ⟨c - 1, by omega⟩
  rfl
/-- The table so far. -/
def tabD (k : Work) (vs : List Int) (H w h : Nat) : Nat → Nat → Int := fun a b => if (a < w ∨ a = w ∧ b < h) ∧ b ≤ H then vt k vs a b else 0
theorem tabD_in {k : Work} {vs : List Int} {H w h a b : Nat} (h1 : a < w ∨ a = w ∧ b < h) (h2 : b ≤ H) : tabD k vs H w h a b = vt k vs a b := if_pos ⟨h1, h2⟩
theorem tabD_start (k : Work) (vs : List Int) (H : Nat) : tabD k vs H 1 1 = fun _ _ => 0 := by
  funext a b
  unfold tabD
  split
  · exact vt_zero (by omega)
  · rfl
theorem tabD_row (k : Work) (vs : List Int) (H w : Nat) : tabD k vs H w (H + 1) = tabD k vs H (w + 1) 1 := by
  funext a b
  unfold tabD
  by_cases h1 : (a < w ∨ a = w ∧ b < H + 1) ∧ b ≤ H
  · rw [if_pos h1, if_pos (by omega)]
  · rw [if_neg h1]
    split
    · exact (vt_zero (by omega)).symm
    · rfl
theorem tabD_put {k : Work} {vs : List Int} {H w h : Nat} (hh : h ≤ H) : upd (tabD k vs H w h) w h (vt k vs w h) = tabD k vs H w (h + 1) := by
  funext a b
  unfold upd tabD
  by_cases h1 : a = w ∧ b = h
  · rw [if_pos h1, if_pos (by omega), h1.1, h1.2]
  · rw [if_neg h1]
    by_cases h2 : (a < w ∨ a = w ∧ b < h) ∧ b ≤ H
    · rw [if_pos h2, if_pos (by omega)]
    · rw [if_neg h2, if_neg (by omega)]
theorem vt_small {k : Work} {vs : List Int} (hv : ∀ v ∈ vs, 1 ≤ v ∧ v ≤ 1000) {w h : Nat} (hw : w ≤ 16) (hh : h ≤ 16) : 0 ≤ vt k vs w h ∧ vt k vs w h ≤ 256000 := by
  have h1 := vt_bd (k := k) hv (w + h) w h (Nat.le_refl _)
  have h2 : w * h ≤ 16 * 16 := Nat.mul_le_mul hw hh
  omega

theorem e_valuesOfX : Enters Try.prog 61 := enters_of Try.func61 (by kernel_rfl) (by kernel_rfl)
set_option maxRecDepth 16000 in
set_option maxHeartbeats 8000000 in
theorem valuesOfX_c (k : Work) (vs : List Int) (W H : Nat) (hv : fineV vs) (hW : k.W = W) (hH : k.H = H) (hW16 : W ≤ 16) (hH16 : H ≤ 16) : ACalls Try.prog 61 [.agg k.cs, .sl (ints vs)] [] [] (fun r L => r = .agg (tabL (tabD k vs H (W + 1) 1)) ∧ L = []) := by
  obtain ⟨hvl, hvb⟩ := hv
  refine acalls_tm T_tt Try.func61 rfl e_valuesOfX 78 rfl (W8 _ _ .any .any .any .any .any .any (W8 .any .any .any .any .any .any .any .any (W8 .any .any .any .any .any .any .any .any (W8 .any .any .any .any .any .any .any .any (W8 .any .any .any .any .any .any .any .any (W8 .any .any .any .any .any .any .any .any (W8 .any .any .any .any .any .any .any .any (W8 .any .any .any .any .any .any .any .any (W8 .any .any .any .any .any .any .any .any (W8 .any .any .any .any .any .any .any .any [])))))))))) rfl (rv := [.cell 4 81]) rfl (sx_sound (bl := []) T_tt _ _ _ ?_)
  have hz : List.map AV.val (List.replicate 289 (Value.int .i64 0)) = tabL (tabD k vs H 1 1) := by rw [List.map_replicate, tabL_zero, tabD_start]
  have hz0 : tabL (tabD k vs H 1 1) = tabL fun _ _ => 0 := by rw [tabD_start]
  simp (disch := omega) only [SX0, SX1, SX2, SX3, SX4, SX5, SX6, SX7, SX8, SU0, SY0, SY1, Nat.reduceAdd, Nat.reduceMul, Nat.reduceSub, Nat.reduceLeDiff, Nat.reduceEqDiff, Nat.reduceLT, Nat.reduceBEq, ↓reduceIte, Int.reduceLE, Int.reduceLT, Int.reduceToNat, Int.reduceNeg, reduceCtorEq, Int.reduceEq, SF0, SF1, SF2, DHb0, DHb1, DHa0, DCg0, DCe0, DCe1, DCe2, DDb0, DBc0, DBc1, DDe0, DKa0, DYb0]
  with_reducible refine awp_loop_h (G := Nat) 7 73 (fun w => [(6, .val (.int .i64 w))]) (fun w => [.cells k.cs, .cells (tabL (tabD k vs H 1 1)), .cells (tabL (tabD k vs H w 1))]) (fun w => 1 ≤ w ∧ w ≤ W + 1) (fun w => W + 1 - w) 1 ⟨by omega, by omega⟩ ?_ (fun w hg => ?_)
  · simp (disch := omega) only [SX0, SX1, SX2, SX3, SX4, SX5, SX6, SX7, SX8, SU0, SY0, SY1, Nat.reduceAdd, Nat.reduceMul, Nat.reduceSub, Nat.reduceLeDiff, Nat.reduceEqDiff, Nat.reduceLT, Nat.reduceBEq, ↓reduceIte, Int.reduceLE, Int.reduceLT, Int.reduceToNat, Int.reduceNeg, reduceCtorEq, Int.reduceEq, SF0, SF1, SF2, DHb0, DHb1, DHa0, DCg0, DCe0, DCe1, DCe2, DDb0, DBc0, DBc1, DDe0, DKa0, DYb0]
    simp only [hz]
    (refine wk_le ?_ ?_ ?_; (focus (simp [W8, leTm, leAV, AV.under, underL, Work.under, tabL_under]; done)); (focus (simp [leL, OB.under, underL, AV.under, Work.under, tabL_under]; done)); (focus (simp; done)))
  refine sx_sound (bl := []) T_tt _ _ _ ?_
  simp (disch := omega) only [SX0, SX1, SX2, SX3, SX4, SX5, SX6, SX7, SX8, SU0, SY0, SY1, Nat.reduceAdd, Nat.reduceMul, Nat.reduceSub, Nat.reduceLeDiff, Nat.reduceEqDiff, Nat.reduceLT, Nat.reduceBEq, ↓reduceIte, Int.reduceLE, Int.reduceLT, Int.reduceToNat, Int.reduceNeg, reduceCtorEq, Int.reduceEq, SF0, SF1, SF2, DHb0, DHb1, DHa0, DCg0, DCe0, DCe1, DCe2, DDb0, DBc0, DBc1, DDe0, DKa0, DYb0, hW]
  refine br_dec (fun h1 => ?_) (fun h1 => ?_)
  · simp (disch := omega) only [SX0, SX1, SX2, SX3, SX4, SX5, SX6, SX7, SX8, SU0, SY0, SY1, Nat.reduceAdd, Nat.reduceMul, Nat.reduceSub, Nat.reduceLeDiff, Nat.reduceEqDiff, Nat.reduceLT, Nat.reduceBEq, ↓reduceIte, Int.reduceLE, Int.reduceLT, Int.reduceToNat, Int.reduceNeg, reduceCtorEq, Int.reduceEq, SF0, SF1, SF2, DHb0, DHb1, DHa0, DCg0, DCe0, DCe1, DCe2, DDb0, DBc0, DBc1, DDe0, DKa0, DYb0]
    with_reducible refine awp_loop_h (G := Nat) 8 72 (fun h => [(7, .val (.int .i64 h))]) (fun h => [.cells k.cs, .cells (tabL (tabD k vs H 1 1)), .cells (tabL (tabD k vs H w h))]) (fun h => 1 ≤ h ∧ h ≤ H + 1) (fun h => H + 1 - h) 1 ⟨by omega, by omega⟩ ?_ (fun h hj => ?_)
    · simp (disch := omega) only [SX0, SX1, SX2, SX3, SX4, SX5, SX6, SX7, SX8, SU0, SY0, SY1, Nat.reduceAdd, Nat.reduceMul, Nat.reduceSub, Nat.reduceLeDiff, Nat.reduceEqDiff, Nat.reduceLT, Nat.reduceBEq, ↓reduceIte, Int.reduceLE, Int.reduceLT, Int.reduceToNat, Int.reduceNeg, reduceCtorEq, Int.reduceEq, SF0, SF1, SF2, DHb0, DHb1, DHa0, DCg0, DCe0, DCe1, DCe2, DDb0, DBc0, DBc1, DDe0, DKa0, DYb0]
      (refine wk_le ?_ ?_ ?_; (focus (simp [W8, leTm, leAV, AV.under, underL, Work.under, tabL_under]; done)); (focus (simp [leL, OB.under, underL, AV.under, Work.under, tabL_under]; done)); (focus (simp; done)))
    refine sx_sound (bl := []) T_tt _ _ _ ?_
    simp (disch := omega) only [SX0, SX1, SX2, SX3, SX4, SX5, SX6, SX7, SX8, SU0, SY0, SY1, Nat.reduceAdd, Nat.reduceMul, Nat.reduceSub, Nat.reduceLeDiff, Nat.reduceEqDiff, Nat.reduceLT, Nat.reduceBEq, ↓reduceIte, Int.reduceLE, Int.reduceLT, Int.reduceToNat, Int.reduceNeg, reduceCtorEq, Int.reduceEq, SF0, SF1, SF2, DHb0, DHb1, DHa0, DCg0, DCe0, DCe1, DCe2, DDb0, DBc0, DBc1, DDe0, DKa0, DYb0, hH]
    refine br_dec (fun h2 => ?_) (fun h2 => ?_)
    · have hm := leafS_m hvb (k := k) (w := w) (h := h) vs.length (Nat.le_refl _)
      have hve := vt_eq (k := k) (vs := vs) (w := w) (h := h) hg.1 hj.1
      have hput := tabD_put (k := k) (vs := vs) (H := H) (w := w) (h := h) (by omega)
      have hbw : ∀ c, 1 ≤ c → c ≤ w / 2 → vt k vs c h + vt k vs (w - c) h ≤ 600000 := fun c c1 c2 => by
        have := vt_small (k := k) hvb (w := c) (h := h) (by omega) (by omega)
        have := vt_small (k := k) hvb (w := w - c) (h := h) (by omega) (by omega)
        omega
      have hbh : ∀ c, 1 ≤ c → c ≤ h / 2 → vt k vs w c + vt k vs w (h - c) ≤ 600000 := fun c c1 c2 => by
        have := vt_small (k := k) hvb (w := w) (h := c) (by omega) (by omega)
        have := vt_small (k := k) hvb (w := w) (h := h - c) (by omega) (by omega)
        omega
      have BP := bestPaneX_c k vs w h (by omega)
      generalize (leafS k vs w h vs.length).m = m0 at *
      generalize (leafS k vs w h vs.length).plan = pl at *
      simp (disch := omega) only [SX0, SX1, SX2, SX3, SX4, SX5, SX6, SX7, SX8, SU0, SY0, SY1, Nat.reduceAdd, Nat.reduceMul, Nat.reduceSub, Nat.reduceLeDiff, Nat.reduceEqDiff, Nat.reduceLT, Nat.reduceBEq, ↓reduceIte, Int.reduceLE, Int.reduceLT, Int.reduceToNat, Int.reduceNeg, reduceCtorEq, Int.reduceEq, SF0, SF1, SF2, DHb0, DHb1, DHa0, DCg0, DCe0, DCe1, DCe2, DDb0, DBc0, DBc1, DDe0, DKa0, DYb0]
      refine acall_own BP [] [] (by simp only [SX0, SX1, SX2, SX3, SX4, SX5, SX6, SX7, SX8, SU0, SY0, SY1, Nat.reduceAdd, Nat.reduceMul, Nat.reduceSub, Nat.reduceLeDiff, Nat.reduceEqDiff, Nat.reduceLT, Nat.reduceBEq, ↓reduceIte, Int.reduceLE, Int.reduceLT, Int.reduceToNat, Int.reduceNeg, reduceCtorEq, Int.reduceEq, SF0, SF1, SF2, DHb0, DHb1, DHa0, DCg0, DCe0, DCe1, DCe2, DDb0, DBc0, DBc1, DDe0, DKa0, DYb0, SX0]) (by decide) (by decide) (by rfl) (by simp only [SX0, SX1, SX2, SX3, SX4, SX5, SX6, SX7, SX8, SU0, SY0, SY1, Nat.reduceAdd, Nat.reduceMul, Nat.reduceSub, Nat.reduceLeDiff, Nat.reduceEqDiff, Nat.reduceLT, Nat.reduceBEq, ↓reduceIte, Int.reduceLE, Int.reduceLT, Int.reduceToNat, Int.reduceNeg, reduceCtorEq, Int.reduceEq, SF0, SF1, SF2, DHb0, DHb1, DHa0, DCg0, DCe0, DCe1, DCe2, DDb0, DBc0, DBc1, DDe0, DKa0, DYb0, SX0]) ?_
      rintro _ _ ⟨rfl, rfl⟩
      have q2w : Int.tdiv (w : Int) 2 = ((w / 2 : Nat) : Int) := rfl
      have q2h : Int.tdiv (h : Int) 2 = ((h / 2 : Nat) : Int) := rfl
      simp (disch := omega) only [SX0, SX1, SX2, SX3, SX4, SX5, SX6, SX7, SX8, SU0, SY0, SY1, Nat.reduceAdd, Nat.reduceMul, Nat.reduceSub, Nat.reduceLeDiff, Nat.reduceEqDiff, Nat.reduceLT, Nat.reduceBEq, ↓reduceIte, Int.reduceLE, Int.reduceLT, Int.reduceToNat, Int.reduceNeg, reduceCtorEq, Int.reduceEq, SF0, SF1, SF2, DHb0, DHb1, DHa0, DCg0, DCe0, DCe1, DCe2, DDb0, DBc0, DBc1, DDe0, DKa0, DYb0]
      with_reducible refine awp_loop_h (G := Nat) 11 69 (fun c => [(8, .any), (9, .val (.int .i64 (maxTo (fun c => vt k vs c h + vt k vs (w - c) h) m0 (c - 1)))), (10, .val (.int .i64 c))]) (fun _ => [.cells k.cs, .cells (tabL (tabD k vs H 1 1)), .cells (tabL (tabD k vs H w h))]) (fun c => 1 ≤ c ∧ c ≤ w / 2 + 1) (fun c => w / 2 + 1 - c) 1 ⟨by omega, by omega⟩ ?_ (fun c hc => ?_)
      · simp (disch := omega) only [SX0, SX1, SX2, SX3, SX4, SX5, SX6, SX7, SX8, SU0, SY0, SY1, Nat.reduceAdd, Nat.reduceMul, Nat.reduceSub, Nat.reduceLeDiff, Nat.reduceEqDiff, Nat.reduceLT, Nat.reduceBEq, ↓reduceIte, Int.reduceLE, Int.reduceLT, Int.reduceToNat, Int.reduceNeg, reduceCtorEq, Int.reduceEq, SF0, SF1, SF2, DHb0, DHb1, DHa0, DCg0, DCe0, DCe1, DCe2, DDb0, DBc0, DBc1, DDe0, DKa0, DYb0]
        (refine wk_le ?_ ?_ ?_; (focus (simp [W8, leTm, leAV, AV.under, underL, Work.under, tabL_under, Plan.under, maxTo]; done)); (focus (simp [leL, OB.under, underL, AV.under, Work.under, tabL_under, Plan.under, maxTo]; done)); (focus (simp; done)))
      refine sx_sound (bl := []) T_tt _ _ _ ?_
      simp (disch := omega) only [SX0, SX1, SX2, SX3, SX4, SX5, SX6, SX7, SX8, SU0, SY0, SY1, Nat.reduceAdd, Nat.reduceMul, Nat.reduceSub, Nat.reduceLeDiff, Nat.reduceEqDiff, Nat.reduceLT, Nat.reduceBEq, ↓reduceIte, Int.reduceLE, Int.reduceLT, Int.reduceToNat, Int.reduceNeg, reduceCtorEq, Int.reduceEq, SF0, SF1, SF2, DHb0, DHb1, DHa0, DCg0, DCe0, DCe1, DCe2, DDb0, DBc0, DBc1, DDe0, DKa0, DYb0, q2w]
      refine br_dec (fun h3 => ?_) (fun h3 => ?_)
      · have e1 : (w : Int) - c = ((w - c : Nat) : Int) := by omega
        have t1 := tabL_get (f := tabD k vs H w h) (w := c) (h := h) (by omega) (by omega)
        have t2 := tabL_get (f := tabD k vs H w h) (w := w - c) (h := h) (by omega) (by omega)
        rw [tabD_in (by omega) (by omega)] at t1 t2
        have s1 := vt_small (k := k) hvb (w := c) (h := h) (by omega) (by omega)
        have s2 := vt_small (k := k) hvb (w := w - c) (h := h) (by omega) (by omega)
        have nx := maxTo_next (g := fun c => vt k vs c h + vt k vs (w - c) h) (m := m0) hc.1
        simp (disch := omega) only [SX0, SX1, SX2, SX3, SX4, SX5, SX6, SX7, SX8, SU0, SY0, SY1, Nat.reduceAdd, Nat.reduceMul, Nat.reduceSub, Nat.reduceLeDiff, Nat.reduceEqDiff, Nat.reduceLT, Nat.reduceBEq, ↓reduceIte, Int.reduceLE, Int.reduceLT, Int.reduceToNat, Int.reduceNeg, reduceCtorEq, Int.reduceEq, SF0, SF1, SF2, DHb0, DHb1, DHa0, DCg0, DCe0, DCe1, DCe2, DDb0, DBc0, DBc1, DDe0, DKa0, DYb0]
        refine awp_drawA T_tt mixed (by decide +kernel) (by kernel_rfl) (by kernel_rfl) ?_
        repeat' first | simp (disch := omega) only [SX0, SX1, SX2, SX3, SX4, SX5, SX6, SX7, SX8, SU0, SY0, SY1, Nat.reduceAdd, Nat.reduceMul, Nat.reduceSub, Nat.reduceLeDiff, Nat.reduceEqDiff, Nat.reduceLT, Nat.reduceBEq, ↓reduceIte, Int.reduceLE, Int.reduceLT, Int.reduceToNat, Int.reduceNeg, reduceCtorEq, Int.reduceEq, SF0, SF1, SF2, DHb0, DHb1, DHa0, DCg0, DCe0, DCe1, DCe2, DDb0, DBc0, DBc1, DDe0, DKa0, DYb0, e1, t1, t2] | refine req (by omega) ?_
        refine ⟨c + 1, by omega, by omega, ?_⟩
        (refine wk_le ?_ ?_ ?_; (focus (simp [W8, leTm, leAV, AV.under, underL, Work.under, tabL_under, nx]; done)); (focus (simp [leL, OB.under, underL, AV.under, Work.under, tabL_under, nx]; done)); (focus (simp; done)))
      have hcw : c - 1 = w / 2 := by omega
      rw [hcw]
      have hb1 : maxTo (fun c => vt k vs c h + vt k vs (w - c) h) m0 (w / 2) ≤ 600000 := maxTo_bd (by omega) hbw
      have hb0 := maxTo_ge (g := fun c => vt k vs c h + vt k vs (w - c) h) (m := m0) (w / 2)
      generalize maxTo (fun c => vt k vs c h + vt k vs (w - c) h) m0 (w / 2) = m1 at *
      simp (disch := omega) only [SX0, SX1, SX2, SX3, SX4, SX5, SX6, SX7, SX8, SU0, SY0, SY1, Nat.reduceAdd, Nat.reduceMul, Nat.reduceSub, Nat.reduceLeDiff, Nat.reduceEqDiff, Nat.reduceLT, Nat.reduceBEq, ↓reduceIte, Int.reduceLE, Int.reduceLT, Int.reduceToNat, Int.reduceNeg, reduceCtorEq, Int.reduceEq, SF0, SF1, SF2, DHb0, DHb1, DHa0, DCg0, DCe0, DCe1, DCe2, DDb0, DBc0, DBc1, DDe0, DKa0, DYb0]
      with_reducible refine awp_loop_h (G := Nat) 12 68 (fun c => [(9, .val (.int .i64 (maxTo (fun c => vt k vs w c + vt k vs w (h - c)) m1 (c - 1)))), (10, .any), (11, .val (.int .i64 c))]) (fun _ => [.cells k.cs, .cells (tabL (tabD k vs H 1 1)), .cells (tabL (tabD k vs H w h))]) (fun c => 1 ≤ c ∧ c ≤ h / 2 + 1) (fun c => h / 2 + 1 - c) 1 ⟨by omega, by omega⟩ ?_ (fun c hc2 => ?_)
      · simp (disch := omega) only [SX0, SX1, SX2, SX3, SX4, SX5, SX6, SX7, SX8, SU0, SY0, SY1, Nat.reduceAdd, Nat.reduceMul, Nat.reduceSub, Nat.reduceLeDiff, Nat.reduceEqDiff, Nat.reduceLT, Nat.reduceBEq, ↓reduceIte, Int.reduceLE, Int.reduceLT, Int.reduceToNat, Int.reduceNeg, reduceCtorEq, Int.reduceEq, SF0, SF1, SF2, DHb0, DHb1, DHa0, DCg0, DCe0, DCe1, DCe2, DDb0, DBc0, DBc1, DDe0, DKa0, DYb0]
        (refine wk_le ?_ ?_ ?_; (focus (simp [W8, leTm, leAV, AV.under, underL, Work.under, tabL_under, maxTo]; done)); (focus (simp [leL, OB.under, underL, AV.under, Work.under, tabL_under, maxTo]; done)); (focus (simp; done)))
      refine sx_sound (bl := []) T_tt _ _ _ ?_
      simp (disch := omega) only [SX0, SX1, SX2, SX3, SX4, SX5, SX6, SX7, SX8, SU0, SY0, SY1, Nat.reduceAdd, Nat.reduceMul, Nat.reduceSub, Nat.reduceLeDiff, Nat.reduceEqDiff, Nat.reduceLT, Nat.reduceBEq, ↓reduceIte, Int.reduceLE, Int.reduceLT, Int.reduceToNat, Int.reduceNeg, reduceCtorEq, Int.reduceEq, SF0, SF1, SF2, DHb0, DHb1, DHa0, DCg0, DCe0, DCe1, DCe2, DDb0, DBc0, DBc1, DDe0, DKa0, DYb0, q2h]
      refine br_dec (fun h4 => ?_) (fun h4 => ?_)
      · have e1 : (h : Int) - c = ((h - c : Nat) : Int) := by omega
        have t1 := tabL_get (f := tabD k vs H w h) (w := w) (h := c) (by omega) (by omega)
        have t2 := tabL_get (f := tabD k vs H w h) (w := w) (h := h - c) (by omega) (by omega)
        rw [tabD_in (by omega) (by omega)] at t1 t2
        have s1 := vt_small (k := k) hvb (w := w) (h := c) (by omega) (by omega)
        have s2 := vt_small (k := k) hvb (w := w) (h := h - c) (by omega) (by omega)
        have nx := maxTo_next (g := fun c => vt k vs w c + vt k vs w (h - c)) (m := m1) hc2.1
        simp (disch := omega) only [SX0, SX1, SX2, SX3, SX4, SX5, SX6, SX7, SX8, SU0, SY0, SY1, Nat.reduceAdd, Nat.reduceMul, Nat.reduceSub, Nat.reduceLeDiff, Nat.reduceEqDiff, Nat.reduceLT, Nat.reduceBEq, ↓reduceIte, Int.reduceLE, Int.reduceLT, Int.reduceToNat, Int.reduceNeg, reduceCtorEq, Int.reduceEq, SF0, SF1, SF2, DHb0, DHb1, DHa0, DCg0, DCe0, DCe1, DCe2, DDb0, DBc0, DBc1, DDe0, DKa0, DYb0]
        refine awp_drawA T_tt mixed (by decide +kernel) (by kernel_rfl) (by kernel_rfl) ?_
        repeat' first | simp (disch := omega) only [SX0, SX1, SX2, SX3, SX4, SX5, SX6, SX7, SX8, SU0, SY0, SY1, Nat.reduceAdd, Nat.reduceMul, Nat.reduceSub, Nat.reduceLeDiff, Nat.reduceEqDiff, Nat.reduceLT, Nat.reduceBEq, ↓reduceIte, Int.reduceLE, Int.reduceLT, Int.reduceToNat, Int.reduceNeg, reduceCtorEq, Int.reduceEq, SF0, SF1, SF2, DHb0, DHb1, DHa0, DCg0, DCe0, DCe1, DCe2, DDb0, DBc0, DBc1, DDe0, DKa0, DYb0, e1, t1, t2] | refine req (by omega) ?_
        refine ⟨c + 1, by omega, by omega, ?_⟩
        (refine wk_le ?_ ?_ ?_; (focus (simp [W8, leTm, leAV, AV.under, underL, Work.under, tabL_under, nx]; done)); (focus (simp [leL, OB.under, underL, AV.under, Work.under, tabL_under, nx]; done)); (focus (simp; done)))
      have hch : c - 1 = h / 2 := by omega
      rw [hch, ← hve]
      have hp := tabL_put (f := tabD k vs H w h) (w := w) (h := h) (by omega) (by omega) (vt k vs w h)
      rw [hput] at hp
      simp (disch := omega) only [SX0, SX1, SX2, SX3, SX4, SX5, SX6, SX7, SX8, SU0, SY0, SY1, Nat.reduceAdd, Nat.reduceMul, Nat.reduceSub, Nat.reduceLeDiff, Nat.reduceEqDiff, Nat.reduceLT, Nat.reduceBEq, ↓reduceIte, Int.reduceLE, Int.reduceLT, Int.reduceToNat, Int.reduceNeg, reduceCtorEq, Int.reduceEq, SF0, SF1, SF2, DHb0, DHb1, DHa0, DCg0, DCe0, DCe1, DCe2, DDb0, DBc0, DBc1, DDe0, DKa0, DYb0]
      repeat' first | simp (disch := omega) only [SX0, SX1, SX2, SX3, SX4, SX5, SX6, SX7, SX8, SU0, SY0, SY1, Nat.reduceAdd, Nat.reduceMul, Nat.reduceSub, Nat.reduceLeDiff, Nat.reduceEqDiff, Nat.reduceLT, Nat.reduceBEq, ↓reduceIte, Int.reduceLE, Int.reduceLT, Int.reduceToNat, Int.reduceNeg, reduceCtorEq, Int.reduceEq, SF0, SF1, SF2, DHb0, DHb1, DHa0, DCg0, DCe0, DCe1, DCe2, DDb0, DBc0, DBc1, DDe0, DKa0, DYb0, hp] | refine req (by omega) ?_ | refine req (by rw [tabL_len]; omega) ?_
      refine ⟨h + 1, by omega, by omega, ?_⟩
      (refine wk_le ?_ ?_ ?_; (focus (simp [W8, leTm, leAV, AV.under, underL, Work.under, tabL_under, hp]; done)); (focus (simp [leL, OB.under, underL, AV.under, Work.under, tabL_under, hp]; done)); (focus (simp; done)))
    · have hhH : h = H + 1 := by omega
      subst hhH
      rw [tabD_row]
      simp (disch := omega) only [SX0, SX1, SX2, SX3, SX4, SX5, SX6, SX7, SX8, SU0, SY0, SY1, Nat.reduceAdd, Nat.reduceMul, Nat.reduceSub, Nat.reduceLeDiff, Nat.reduceEqDiff, Nat.reduceLT, Nat.reduceBEq, ↓reduceIte, Int.reduceLE, Int.reduceLT, Int.reduceToNat, Int.reduceNeg, reduceCtorEq, Int.reduceEq, SF0, SF1, SF2, DHb0, DHb1, DHa0, DCg0, DCe0, DCe1, DCe2, DDb0, DBc0, DBc1, DDe0, DKa0, DYb0]
      refine ⟨w + 1, by omega, by omega, ?_⟩
      (refine wk_le ?_ ?_ ?_; (focus (simp [W8, leTm, leAV, AV.under, underL, Work.under, tabL_under]; done)); (focus (simp [leL, OB.under, underL, AV.under, Work.under, tabL_under]; done)); (focus (simp; done)))
  · have hwW : w = W + 1 := by omega
    subst hwW
    simp (disch := omega) only [SX0, SX1, SX2, SX3, SX4, SX5, SX6, SX7, SX8, SU0, SY0, SY1, Nat.reduceAdd, Nat.reduceMul, Nat.reduceSub, Nat.reduceLeDiff, Nat.reduceEqDiff, Nat.reduceLT, Nat.reduceBEq, ↓reduceIte, Int.reduceLE, Int.reduceLT, Int.reduceToNat, Int.reduceNeg, reduceCtorEq, Int.reduceEq, SF0, SF1, SF2, DHb0, DHb1, DHa0, DCg0, DCe0, DCe1, DCe2, DDb0, DBc0, DBc1, DDe0, DKa0, DYb0]
    exact fin_free (by simp [AV.free, tabL_free]) ⟨rfl, rfl⟩

end Go.Pc
