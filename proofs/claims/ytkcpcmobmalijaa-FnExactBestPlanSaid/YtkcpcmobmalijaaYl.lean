/- The best plan of the program: its memory is its own; and for all arguments it is that of the reference. -/
import Derived.Test.YtkcpcmobmalijaaYk
import Derived.Test.YtkcpcmobmalijaaVa
import Derived.Test.YtkcpcmobmalijaaEa
import Derived.Test.YtkcpcmobmalijaaTq
set_option linter.unusedSimpArgs false
set_option linter.unusedVariables false
namespace Go.Pc
open Go Go.Proofs

theorem e_bestPlanForF : Enters Try.prog 62 := enters_of Try.func62 (by kernel_rfl) (by kernel_rfl)
set_option maxRecDepth 16000 in
set_option maxHeartbeats 8000000 in
theorem bestPlanFor_f (k : Work) (vs : List Int) (W H : Nat) (hv : fineV vs) (hW16 : W ≤ 16) (hH16 : H ≤ 16) : ∀ (f w h : Nat), w + h < f → w ≤ W → h ≤ H → ACalls Try.prog 62 [.agg k.cs, .sl (ints vs), .ip (tabL (tabD k vs H (W + 1) 1)), .val (.int .i64 w), .val (.int .i64 h)] [] [] (TreeR (bpF k vs f w h)) := by
  obtain ⟨hvl, hvb⟩ := hv
  intro f
  induction f with
  | zero => intro w h hwh; omega
  | succ f ih =>
  intro w h hwh hw hh
  have t0 := tabL_get (f := tabD k vs H (W + 1) 1) (w := w) (h := h) (by omega) (by omega)
  rw [tabD_in (by omega) (by omega)] at t0
  have s0 := vt_small (k := k) hvb (w := w) (h := h) (by omega) (by omega)
  have BP := bestPaneV_c k vs w h (by omega)
  refine acalls_tm T_tt Try.func62 rfl e_bestPlanForF 126 rfl (W8 _ _ _ _ _ .any .any .any (W8 .any .any .any .any .any .any .any .any (W8 .any .any .any .any .any .any .any .any (W8 .any .any .any .any .any .any .any .any (W8 .any .any .any .any .any .any .any .any (W8 .any .any .any .any .any .any .any .any (W8 .any .any .any .any .any .any .any .any (W8 .any .any .any .any .any .any .any .any (W8 .any .any .any .any .any .any .any .any (W8 .any .any .any .any .any .any .any .any (W8 .any .any .any .any .any .any .any .any (W8 .any .any .any .any .any .any .any .any (W8 .any .any .any .any .any .any .any .any (W8 .any .any .any .any .any .any .any .any (W8 .any .any .any .any .any .any .any .any (W8 .any .any .any .any .any .any .any .any [.any, .any, .any])))))))))))))))) rfl (rv := [.cell 10 31]) rfl (sx_sound (bl := [84,128]) T_tt _ _ _ ?_)
  repeat' first | simp (disch := omega) only [SX0, SX1, SX2, SX3, SX4, SX5, SX6, SX7, SX8, SU0, SY0, SY1, Nat.reduceAdd, Nat.reduceMul, Nat.reduceSub, Nat.reduceLeDiff, Nat.reduceEqDiff, Nat.reduceLT, Nat.reduceBEq, ↓reduceIte, Int.reduceLE, Int.reduceLT, Int.reduceToNat, Int.reduceNeg, reduceCtorEq, Int.reduceEq, SF0, SF1, SF2, DHb0, DHb1, DHa0, DCg0, DCe0, DCe1, DCe2, DDb0, DBc0, DBc1, DDe0, DKa0, DYb0, DAlh0, DLa0, t0, List.getElem?_drop, List.length_drop] | refine req (by simp only [List.length_drop, tabL_len]; omega) ?_ | refine req (by omega) ?_
  refine br_dec (fun h1 => ?_) (fun h1 => ?_)
  · have hb : bpF k vs (f + 1) w h = .mk 0 0 0 false [] := by rw [bpF, if_pos h1]
    rw [hb]
    simp (disch := omega) only [SX0, SX1, SX2, SX3, SX4, SX5, SX6, SX7, SX8, SU0, SY0, SY1, Nat.reduceAdd, Nat.reduceMul, Nat.reduceSub, Nat.reduceLeDiff, Nat.reduceEqDiff, Nat.reduceLT, Nat.reduceBEq, ↓reduceIte, Int.reduceLE, Int.reduceLT, Int.reduceToNat, Int.reduceNeg, reduceCtorEq, Int.reduceEq, SF0, SF1, SF2, DHb0, DHb1, DHa0, DCg0, DCe0, DCe1, DCe2, DDb0, DBc0, DBc1, DDe0, DKa0, DYb0, DAlh0, DLa0]
    exact fin_leaf (q := .mk 0 0 0 false []) rfl fun S => ⟨S, _, rfl, rfl, rfl⟩
  simp (disch := omega) only [SX0, SX1, SX2, SX3, SX4, SX5, SX6, SX7, SX8, SU0, SY0, SY1, Nat.reduceAdd, Nat.reduceMul, Nat.reduceSub, Nat.reduceLeDiff, Nat.reduceEqDiff, Nat.reduceLT, Nat.reduceBEq, ↓reduceIte, Int.reduceLE, Int.reduceLT, Int.reduceToNat, Int.reduceNeg, reduceCtorEq, Int.reduceEq, SF0, SF1, SF2, DHb0, DHb1, DHa0, DCg0, DCe0, DCe1, DCe2, DDb0, DBc0, DBc1, DDe0, DKa0, DYb0, DAlh0, DLa0]
  refine acall_own BP [] [] (by simp only [SX0, SX1, SX2, SX3, SX4, SX5, SX6, SX7, SX8, SU0, SY0, SY1, Nat.reduceAdd, Nat.reduceMul, Nat.reduceSub, Nat.reduceLeDiff, Nat.reduceEqDiff, Nat.reduceLT, Nat.reduceBEq, ↓reduceIte, Int.reduceLE, Int.reduceLT, Int.reduceToNat, Int.reduceNeg, reduceCtorEq, Int.reduceEq, SF0, SF1, SF2, DHb0, DHb1, DHa0, DCg0, DCe0, DCe1, DCe2, DDb0, DBc0, DBc1, DDe0, DKa0, DYb0, DAlh0, DLa0, SX0]) (by decide) (by decide) (by rfl) (by simp only [SX0, SX1, SX2, SX3, SX4, SX5, SX6, SX7, SX8, SU0, SY0, SY1, Nat.reduceAdd, Nat.reduceMul, Nat.reduceSub, Nat.reduceLeDiff, Nat.reduceEqDiff, Nat.reduceLT, Nat.reduceBEq, ↓reduceIte, Int.reduceLE, Int.reduceLT, Int.reduceToNat, Int.reduceNeg, reduceCtorEq, Int.reduceEq, SF0, SF1, SF2, DHb0, DHb1, DHa0, DCg0, DCe0, DCe1, DCe2, DDb0, DBc0, DBc1, DDe0, DKa0, DYb0, DAlh0, DLa0, SX0]) ?_
  rintro _ _ ⟨rfl, rfl⟩
  simp (disch := omega) only [SX0, SX1, SX2, SX3, SX4, SX5, SX6, SX7, SX8, SU0, SY0, SY1, Nat.reduceAdd, Nat.reduceMul, Nat.reduceSub, Nat.reduceLeDiff, Nat.reduceEqDiff, Nat.reduceLT, Nat.reduceBEq, ↓reduceIte, Int.reduceLE, Int.reduceLT, Int.reduceToNat, Int.reduceNeg, reduceCtorEq, Int.reduceEq, SF0, SF1, SF2, DHb0, DHb1, DHa0, DCg0, DCe0, DCe1, DCe2, DDb0, DBc0, DBc1, DDe0, DKa0, DYb0, DAlh0, DLa0, LfS.cs]
  refine br_dec (fun h2 => ?_) (fun h2 => ?_)
  · have hb : bpF k vs (f + 1) w h = (leafS k vs w h vs.length).plan := by rw [bpF, if_neg h1, if_pos h2]
    rw [hb]
    simp (disch := omega) only [SX0, SX1, SX2, SX3, SX4, SX5, SX6, SX7, SX8, SU0, SY0, SY1, Nat.reduceAdd, Nat.reduceMul, Nat.reduceSub, Nat.reduceLeDiff, Nat.reduceEqDiff, Nat.reduceLT, Nat.reduceBEq, ↓reduceIte, Int.reduceLE, Int.reduceLT, Int.reduceToNat, Int.reduceNeg, reduceCtorEq, Int.reduceEq, SF0, SF1, SF2, DHb0, DHb1, DHa0, DCg0, DCe0, DCe1, DCe2, DDb0, DBc0, DBc1, DDe0, DKa0, DYb0, DAlh0, DLa0, LfS.cs]
    exact fin_leaf (q := (leafS k vs w h vs.length).plan) rfl fun S => ⟨S, _, rfl, rfl, rfl⟩
  have hw1 : 1 ≤ w ∧ 1 ≤ h := by
    refine ⟨?_, ?_⟩
    · rcases Nat.eq_zero_or_pos w with e | e
      · exact absurd (vt_zero (.inl e)) h1
      · exact e
    · rcases Nat.eq_zero_or_pos h with e | e
      · exact absurd (vt_zero (.inr e)) h1
      · exact e
  have q2w : Int.tdiv (w : Int) 2 = ((w / 2 : Nat) : Int) := rfl
  have q2h : Int.tdiv (h : Int) 2 = ((h / 2 : Nat) : Int) := rfl
  have hb0 : bpF k vs (f + 1) w h = (match firstC (fun c => vt k vs c h + vt k vs (w - c) h) (vt k vs w h) (w / 2) with
    | some c => .mk 2 c 0 false [bpF k vs f c h, bpF k vs f (w - c) h]
    | none =>
      match firstC (fun c => vt k vs w c + vt k vs w (h - c)) (vt k vs w h) (h / 2) with
      | some c => .mk 3 c 0 false [bpF k vs f w c, bpF k vs f w (h - c)]
      | none => .mk 0 0 0 false []) := by rw [bpF, if_neg h1, if_neg h2]; rfl
  simp (disch := omega) only [SX0, SX1, SX2, SX3, SX4, SX5, SX6, SX7, SX8, SU0, SY0, SY1, Nat.reduceAdd, Nat.reduceMul, Nat.reduceSub, Nat.reduceLeDiff, Nat.reduceEqDiff, Nat.reduceLT, Nat.reduceBEq, ↓reduceIte, Int.reduceLE, Int.reduceLT, Int.reduceToNat, Int.reduceNeg, reduceCtorEq, Int.reduceEq, SF0, SF1, SF2, DHb0, DHb1, DHa0, DCg0, DCe0, DCe1, DCe2, DDb0, DBc0, DBc1, DDe0, DKa0, DYb0, DAlh0, DLa0]
  with_reducible refine awp_loop_h (G := Nat) 14 117 (fun c => [(14, .val (.int .i64 c))]) (fun _ => [.cells k.cs, .cells [.val (.int .i64 0), .val (.int .i64 0), .val (.int .i64 0), .val (.bool false), .val (.slice none 0 0)], .cells (leafS k vs w h vs.length).cs]) (fun c => (1 ≤ c ∧ c ≤ w / 2 + 1) ∧ ∀ c', 1 ≤ c' → c' < c → vt k vs c' h + vt k vs (w - c') h ≠ vt k vs w h) (fun c => w / 2 + 1 - c) 1 ⟨⟨by omega, by omega⟩, fun c' a b => by omega⟩ ?_ (fun c hc => ?_)
  · simp (disch := omega) only [SX0, SX1, SX2, SX3, SX4, SX5, SX6, SX7, SX8, SU0, SY0, SY1, Nat.reduceAdd, Nat.reduceMul, Nat.reduceSub, Nat.reduceLeDiff, Nat.reduceEqDiff, Nat.reduceLT, Nat.reduceBEq, ↓reduceIte, Int.reduceLE, Int.reduceLT, Int.reduceToNat, Int.reduceNeg, reduceCtorEq, Int.reduceEq, SF0, SF1, SF2, DHb0, DHb1, DHa0, DCg0, DCe0, DCe1, DCe2, DDb0, DBc0, DBc1, DDe0, DKa0, DYb0, DAlh0, DLa0]
    (refine wk_le ?_ ?_ ?_; (focus (simp [W8, leTm, leAV, AV.under, underL, Work.under, tabL_under, Plan.under, LfS.cs]; done)); (focus (simp [leL, OB.under, underL, AV.under, Work.under, tabL_under, Plan.under, LfS.cs]; done)); (focus (simp; done)))
  obtain ⟨hc, hcn⟩ := hc
  refine sx_sound (bl := [84,128]) T_tt _ _ _ ?_
  simp (disch := omega) only [SX0, SX1, SX2, SX3, SX4, SX5, SX6, SX7, SX8, SU0, SY0, SY1, Nat.reduceAdd, Nat.reduceMul, Nat.reduceSub, Nat.reduceLeDiff, Nat.reduceEqDiff, Nat.reduceLT, Nat.reduceBEq, ↓reduceIte, Int.reduceLE, Int.reduceLT, Int.reduceToNat, Int.reduceNeg, reduceCtorEq, Int.reduceEq, SF0, SF1, SF2, DHb0, DHb1, DHa0, DCg0, DCe0, DCe1, DCe2, DDb0, DBc0, DBc1, DDe0, DKa0, DYb0, DAlh0, DLa0, q2w]
  refine br_dec (fun h3 => ?_) (fun h3 => ?_)
  · have e1 : (w : Int) - c = ((w - c : Nat) : Int) := by omega
    have t1 := tabL_get (f := tabD k vs H (W + 1) 1) (w := c) (h := h) (by omega) (by omega)
    have t2 := tabL_get (f := tabD k vs H (W + 1) 1) (w := w - c) (h := h) (by omega) (by omega)
    rw [tabD_in (by omega) (by omega)] at t1 t2
    have s1 := vt_small (k := k) hvb (w := c) (h := h) (by omega) (by omega)
    have s2 := vt_small (k := k) hvb (w := w - c) (h := h) (by omega) (by omega)
    simp (disch := omega) only [SX0, SX1, SX2, SX3, SX4, SX5, SX6, SX7, SX8, SU0, SY0, SY1, Nat.reduceAdd, Nat.reduceMul, Nat.reduceSub, Nat.reduceLeDiff, Nat.reduceEqDiff, Nat.reduceLT, Nat.reduceBEq, ↓reduceIte, Int.reduceLE, Int.reduceLT, Int.reduceToNat, Int.reduceNeg, reduceCtorEq, Int.reduceEq, SF0, SF1, SF2, DHb0, DHb1, DHa0, DCg0, DCe0, DCe1, DCe2, DDb0, DBc0, DBc1, DDe0, DKa0, DYb0, DAlh0, DLa0]
    refine awp_drawA T_tt mixed (by decide +kernel) (by kernel_rfl) (by kernel_rfl) ?_
    repeat' first | simp (disch := omega) only [SX0, SX1, SX2, SX3, SX4, SX5, SX6, SX7, SX8, SU0, SY0, SY1, Nat.reduceAdd, Nat.reduceMul, Nat.reduceSub, Nat.reduceLeDiff, Nat.reduceEqDiff, Nat.reduceLT, Nat.reduceBEq, ↓reduceIte, Int.reduceLE, Int.reduceLT, Int.reduceToNat, Int.reduceNeg, reduceCtorEq, Int.reduceEq, SF0, SF1, SF2, DHb0, DHb1, DHa0, DCg0, DCe0, DCe1, DCe2, DDb0, DBc0, DBc1, DDe0, DKa0, DYb0, DAlh0, DLa0, e1, t1, t2, List.getElem?_drop, List.length_drop] | refine req (by simp only [List.length_drop, tabL_len]; omega) ?_ | refine req (by omega) ?_
    refine br_dec (fun h4 => ?_) (fun h4 => ?_)
    · have hf := firstC_some (g := fun c => vt k vs c h + vt k vs (w - c) h) (n := w / 2) hc.1 (by omega) h4 hcn
      rw [hf] at hb0
      simp only at hb0
      rw [hb0]
      simp (disch := omega) only [SX0, SX1, SX2, SX3, SX4, SX5, SX6, SX7, SX8, SU0, SY0, SY1, Nat.reduceAdd, Nat.reduceMul, Nat.reduceSub, Nat.reduceLeDiff, Nat.reduceEqDiff, Nat.reduceLT, Nat.reduceBEq, ↓reduceIte, Int.reduceLE, Int.reduceLT, Int.reduceToNat, Int.reduceNeg, reduceCtorEq, Int.reduceEq, SF0, SF1, SF2, DHb0, DHb1, DHa0, DCg0, DCe0, DCe1, DCe2, DDb0, DBc0, DBc1, DDe0, DKa0, DYb0, DAlh0, DLa0]
      refine acall_own (ih c h (by omega) (by omega) (by omega)) [] [] (by simp only [SX0, SX1, SX2, SX3, SX4, SX5, SX6, SX7, SX8, SU0, SY0, SY1, Nat.reduceAdd, Nat.reduceMul, Nat.reduceSub, Nat.reduceLeDiff, Nat.reduceEqDiff, Nat.reduceLT, Nat.reduceBEq, ↓reduceIte, Int.reduceLE, Int.reduceLT, Int.reduceToNat, Int.reduceNeg, reduceCtorEq, Int.reduceEq, SF0, SF1, SF2, DHb0, DHb1, DHa0, DCg0, DCe0, DCe1, DCe2, DDb0, DBc0, DBc1, DDe0, DKa0, DYb0, DAlh0, DLa0, SX0]) (by decide) (by decide) (by rfl) (by simp only [SX0, SX1, SX2, SX3, SX4, SX5, SX6, SX7, SX8, SU0, SY0, SY1, Nat.reduceAdd, Nat.reduceMul, Nat.reduceSub, Nat.reduceLeDiff, Nat.reduceEqDiff, Nat.reduceLT, Nat.reduceBEq, ↓reduceIte, Int.reduceLE, Int.reduceLT, Int.reduceToNat, Int.reduceNeg, reduceCtorEq, Int.reduceEq, SF0, SF1, SF2, DHb0, DHb1, DHa0, DCg0, DCe0, DCe1, DCe2, DDb0, DBc0, DBc1, DDe0, DKa0, DYb0, DAlh0, DLa0, SX0]) ?_
      rintro _ _ ⟨Sx, vx, hvx, rfl, rfl⟩
      simp (disch := omega) only [SX0, SX1, SX2, SX3, SX4, SX5, SX6, SX7, SX8, SU0, SY0, SY1, Nat.reduceAdd, Nat.reduceMul, Nat.reduceSub, Nat.reduceLeDiff, Nat.reduceEqDiff, Nat.reduceLT, Nat.reduceBEq, ↓reduceIte, Int.reduceLE, Int.reduceLT, Int.reduceToNat, Int.reduceNeg, reduceCtorEq, Int.reduceEq, SF0, SF1, SF2, DHb0, DHb1, DHa0, DCg0, DCe0, DCe1, DCe2, DDb0, DBc0, DBc1, DDe0, DKa0, DYb0, DAlh0, DLa0, SX0, e1, hvx, if_true, Plan.csV]
      refine acall_own (ih (w - c) h (by omega) (by omega) (by omega)) [] [] (by simp only [SX0, SX1, SX2, SX3, SX4, SX5, SX6, SX7, SX8, SU0, SY0, SY1, Nat.reduceAdd, Nat.reduceMul, Nat.reduceSub, Nat.reduceLeDiff, Nat.reduceEqDiff, Nat.reduceLT, Nat.reduceBEq, ↓reduceIte, Int.reduceLE, Int.reduceLT, Int.reduceToNat, Int.reduceNeg, reduceCtorEq, Int.reduceEq, SF0, SF1, SF2, DHb0, DHb1, DHa0, DCg0, DCe0, DCe1, DCe2, DDb0, DBc0, DBc1, DDe0, DKa0, DYb0, DAlh0, DLa0, SX0]) (by decide) (by decide) (by rfl) (by simp only [SX0, SX1, SX2, SX3, SX4, SX5, SX6, SX7, SX8, SU0, SY0, SY1, Nat.reduceAdd, Nat.reduceMul, Nat.reduceSub, Nat.reduceLeDiff, Nat.reduceEqDiff, Nat.reduceLT, Nat.reduceBEq, ↓reduceIte, Int.reduceLE, Int.reduceLT, Int.reduceToNat, Int.reduceNeg, reduceCtorEq, Int.reduceEq, SF0, SF1, SF2, DHb0, DHb1, DHa0, DCg0, DCe0, DCe1, DCe2, DDb0, DBc0, DBc1, DDe0, DKa0, DYb0, DAlh0, DLa0, SX0]) ?_
      rintro _ _ ⟨Sy, vy, hvy, rfl, rfl⟩
      simp (disch := omega) only [SX0, SX1, SX2, SX3, SX4, SX5, SX6, SX7, SX8, SU0, SY0, SY1, Nat.reduceAdd, Nat.reduceMul, Nat.reduceSub, Nat.reduceLeDiff, Nat.reduceEqDiff, Nat.reduceLT, Nat.reduceBEq, ↓reduceIte, Int.reduceLE, Int.reduceLT, Int.reduceToNat, Int.reduceNeg, reduceCtorEq, Int.reduceEq, SF0, SF1, SF2, DHb0, DHb1, DHa0, DCg0, DCe0, DCe1, DCe2, DDb0, DBc0, DBc1, DDe0, DKa0, DYb0, DAlh0, DLa0, SX0, hvx, hvy, if_true, Plan.csV]
      exact fin_two (r := 7) (rx := 3) (ry := 5) (x := bpF k vs f c h) (y := bpF k vs f (w - c) h) (by decide) (by decide) (by decide) rfl rfl rfl fun S v hv => ⟨S, v, hv, rfl, rfl⟩
    · simp (disch := omega) only [SX0, SX1, SX2, SX3, SX4, SX5, SX6, SX7, SX8, SU0, SY0, SY1, Nat.reduceAdd, Nat.reduceMul, Nat.reduceSub, Nat.reduceLeDiff, Nat.reduceEqDiff, Nat.reduceLT, Nat.reduceBEq, ↓reduceIte, Int.reduceLE, Int.reduceLT, Int.reduceToNat, Int.reduceNeg, reduceCtorEq, Int.reduceEq, SF0, SF1, SF2, DHb0, DHb1, DHa0, DCg0, DCe0, DCe1, DCe2, DDb0, DBc0, DBc1, DDe0, DKa0, DYb0, DAlh0, DLa0]
      refine ⟨c + 1, ⟨by omega, fun c' a b => ?_⟩, by omega, ?_⟩
      · by_cases e : c' = c
        · subst e; exact h4
        · exact hcn c' a (by omega)
      (refine wk_le ?_ ?_ ?_; (focus (simp [W8, leTm, leAV, AV.under, underL, Work.under, tabL_under, Plan.under, LfS.cs]; done)); (focus (simp [leL, OB.under, underL, AV.under, Work.under, tabL_under, Plan.under, LfS.cs]; done)); (focus (simp; done)))
  have hf := firstC_none (g := fun c => vt k vs c h + vt k vs (w - c) h) (t := vt k vs w h) (n := w / 2) fun c' a b => hcn c' a (by omega)
  rw [hf] at hb0
  simp only at hb0
  clear hcn
  simp (disch := omega) only [SX0, SX1, SX2, SX3, SX4, SX5, SX6, SX7, SX8, SU0, SY0, SY1, Nat.reduceAdd, Nat.reduceMul, Nat.reduceSub, Nat.reduceLeDiff, Nat.reduceEqDiff, Nat.reduceLT, Nat.reduceBEq, ↓reduceIte, Int.reduceLE, Int.reduceLT, Int.reduceToNat, Int.reduceNeg, reduceCtorEq, Int.reduceEq, SF0, SF1, SF2, DHb0, DHb1, DHa0, DCg0, DCe0, DCe1, DCe2, DDb0, DBc0, DBc1, DDe0, DKa0, DYb0, DAlh0, DLa0]
  with_reducible refine awp_loop_h (G := Nat) 14 117 (fun c => [(17, .val (.int .i64 c))]) (fun _ => [.cells k.cs, .cells [.val (.int .i64 0), .val (.int .i64 0), .val (.int .i64 0), .val (.bool false), .val (.slice none 0 0)], .cells (leafS k vs w h vs.length).cs]) (fun c => (1 ≤ c ∧ c ≤ h / 2 + 1) ∧ ∀ c', 1 ≤ c' → c' < c → vt k vs w c' + vt k vs w (h - c') ≠ vt k vs w h) (fun c => h / 2 + 1 - c) 1 ⟨⟨by omega, by omega⟩, fun c' a b => by omega⟩ ?_ (fun d hd => ?_)
  · simp (disch := omega) only [SX0, SX1, SX2, SX3, SX4, SX5, SX6, SX7, SX8, SU0, SY0, SY1, Nat.reduceAdd, Nat.reduceMul, Nat.reduceSub, Nat.reduceLeDiff, Nat.reduceEqDiff, Nat.reduceLT, Nat.reduceBEq, ↓reduceIte, Int.reduceLE, Int.reduceLT, Int.reduceToNat, Int.reduceNeg, reduceCtorEq, Int.reduceEq, SF0, SF1, SF2, DHb0, DHb1, DHa0, DCg0, DCe0, DCe1, DCe2, DDb0, DBc0, DBc1, DDe0, DKa0, DYb0, DAlh0, DLa0]
    (refine wk_le ?_ ?_ ?_; (focus (simp [W8, leTm, leAV, AV.under, underL, Work.under, tabL_under, Plan.under, LfS.cs]; done)); (focus (simp [leL, OB.under, underL, AV.under, Work.under, tabL_under, Plan.under, LfS.cs]; done)); (focus (simp; done)))
  obtain ⟨hd, hdn⟩ := hd
  refine sx_sound (bl := [84,128]) T_tt _ _ _ ?_
  simp (disch := omega) only [SX0, SX1, SX2, SX3, SX4, SX5, SX6, SX7, SX8, SU0, SY0, SY1, Nat.reduceAdd, Nat.reduceMul, Nat.reduceSub, Nat.reduceLeDiff, Nat.reduceEqDiff, Nat.reduceLT, Nat.reduceBEq, ↓reduceIte, Int.reduceLE, Int.reduceLT, Int.reduceToNat, Int.reduceNeg, reduceCtorEq, Int.reduceEq, SF0, SF1, SF2, DHb0, DHb1, DHa0, DCg0, DCe0, DCe1, DCe2, DDb0, DBc0, DBc1, DDe0, DKa0, DYb0, DAlh0, DLa0, q2h]
  refine br_dec (fun h5 => ?_) (fun h5 => ?_)
  · have e1 : (h : Int) - d = ((h - d : Nat) : Int) := by omega
    have t1 := tabL_get (f := tabD k vs H (W + 1) 1) (w := w) (h := d) (by omega) (by omega)
    have t2 := tabL_get (f := tabD k vs H (W + 1) 1) (w := w) (h := h - d) (by omega) (by omega)
    rw [tabD_in (by omega) (by omega)] at t1 t2
    have s1 := vt_small (k := k) hvb (w := w) (h := d) (by omega) (by omega)
    have s2 := vt_small (k := k) hvb (w := w) (h := h - d) (by omega) (by omega)
    simp (disch := omega) only [SX0, SX1, SX2, SX3, SX4, SX5, SX6, SX7, SX8, SU0, SY0, SY1, Nat.reduceAdd, Nat.reduceMul, Nat.reduceSub, Nat.reduceLeDiff, Nat.reduceEqDiff, Nat.reduceLT, Nat.reduceBEq, ↓reduceIte, Int.reduceLE, Int.reduceLT, Int.reduceToNat, Int.reduceNeg, reduceCtorEq, Int.reduceEq, SF0, SF1, SF2, DHb0, DHb1, DHa0, DCg0, DCe0, DCe1, DCe2, DDb0, DBc0, DBc1, DDe0, DKa0, DYb0, DAlh0, DLa0]
    refine awp_drawA T_tt mixed (by decide +kernel) (by kernel_rfl) (by kernel_rfl) ?_
    repeat' first | simp (disch := omega) only [SX0, SX1, SX2, SX3, SX4, SX5, SX6, SX7, SX8, SU0, SY0, SY1, Nat.reduceAdd, Nat.reduceMul, Nat.reduceSub, Nat.reduceLeDiff, Nat.reduceEqDiff, Nat.reduceLT, Nat.reduceBEq, ↓reduceIte, Int.reduceLE, Int.reduceLT, Int.reduceToNat, Int.reduceNeg, reduceCtorEq, Int.reduceEq, SF0, SF1, SF2, DHb0, DHb1, DHa0, DCg0, DCe0, DCe1, DCe2, DDb0, DBc0, DBc1, DDe0, DKa0, DYb0, DAlh0, DLa0, e1, t1, t2, List.getElem?_drop, List.length_drop] | refine req (by simp only [List.length_drop, tabL_len]; omega) ?_ | refine req (by omega) ?_
    refine br_dec (fun h4 => ?_) (fun h4 => ?_)
    · have hf2 := firstC_some (g := fun c => vt k vs w c + vt k vs w (h - c)) (n := h / 2) hd.1 (by omega) h4 hdn
      rw [hf2] at hb0
      simp only at hb0
      rw [hb0]
      simp (disch := omega) only [SX0, SX1, SX2, SX3, SX4, SX5, SX6, SX7, SX8, SU0, SY0, SY1, Nat.reduceAdd, Nat.reduceMul, Nat.reduceSub, Nat.reduceLeDiff, Nat.reduceEqDiff, Nat.reduceLT, Nat.reduceBEq, ↓reduceIte, Int.reduceLE, Int.reduceLT, Int.reduceToNat, Int.reduceNeg, reduceCtorEq, Int.reduceEq, SF0, SF1, SF2, DHb0, DHb1, DHa0, DCg0, DCe0, DCe1, DCe2, DDb0, DBc0, DBc1, DDe0, DKa0, DYb0, DAlh0, DLa0]
      refine acall_own (ih w d (by omega) (by omega) (by omega)) [] [] (by simp only [SX0, SX1, SX2, SX3, SX4, SX5, SX6, SX7, SX8, SU0, SY0, SY1, Nat.reduceAdd, Nat.reduceMul, Nat.reduceSub, Nat.reduceLeDiff, Nat.reduceEqDiff, Nat.reduceLT, Nat.reduceBEq, ↓reduceIte, Int.reduceLE, Int.reduceLT, Int.reduceToNat, Int.reduceNeg, reduceCtorEq, Int.reduceEq, SF0, SF1, SF2, DHb0, DHb1, DHa0, DCg0, DCe0, DCe1, DCe2, DDb0, DBc0, DBc1, DDe0, DKa0, DYb0, DAlh0, DLa0, SX0]) (by decide) (by decide) (by rfl) (by simp only [SX0, SX1, SX2, SX3, SX4, SX5, SX6, SX7, SX8, SU0, SY0, SY1, Nat.reduceAdd, Nat.reduceMul, Nat.reduceSub, Nat.reduceLeDiff, Nat.reduceEqDiff, Nat.reduceLT, Nat.reduceBEq, ↓reduceIte, Int.reduceLE, Int.reduceLT, Int.reduceToNat, Int.reduceNeg, reduceCtorEq, Int.reduceEq, SF0, SF1, SF2, DHb0, DHb1, DHa0, DCg0, DCe0, DCe1, DCe2, DDb0, DBc0, DBc1, DDe0, DKa0, DYb0, DAlh0, DLa0, SX0]) ?_
      rintro _ _ ⟨Sx, vx, hvx, rfl, rfl⟩
      simp (disch := omega) only [SX0, SX1, SX2, SX3, SX4, SX5, SX6, SX7, SX8, SU0, SY0, SY1, Nat.reduceAdd, Nat.reduceMul, Nat.reduceSub, Nat.reduceLeDiff, Nat.reduceEqDiff, Nat.reduceLT, Nat.reduceBEq, ↓reduceIte, Int.reduceLE, Int.reduceLT, Int.reduceToNat, Int.reduceNeg, reduceCtorEq, Int.reduceEq, SF0, SF1, SF2, DHb0, DHb1, DHa0, DCg0, DCe0, DCe1, DCe2, DDb0, DBc0, DBc1, DDe0, DKa0, DYb0, DAlh0, DLa0, SX0, e1, hvx, if_true, Plan.csV]
      refine acall_own (ih w (h - d) (by omega) (by omega) (by omega)) [] [] (by simp only [SX0, SX1, SX2, SX3, SX4, SX5, SX6, SX7, SX8, SU0, SY0, SY1, Nat.reduceAdd, Nat.reduceMul, Nat.reduceSub, Nat.reduceLeDiff, Nat.reduceEqDiff, Nat.reduceLT, Nat.reduceBEq, ↓reduceIte, Int.reduceLE, Int.reduceLT, Int.reduceToNat, Int.reduceNeg, reduceCtorEq, Int.reduceEq, SF0, SF1, SF2, DHb0, DHb1, DHa0, DCg0, DCe0, DCe1, DCe2, DDb0, DBc0, DBc1, DDe0, DKa0, DYb0, DAlh0, DLa0, SX0]) (by decide) (by decide) (by rfl) (by simp only [SX0, SX1, SX2, SX3, SX4, SX5, SX6, SX7, SX8, SU0, SY0, SY1, Nat.reduceAdd, Nat.reduceMul, Nat.reduceSub, Nat.reduceLeDiff, Nat.reduceEqDiff, Nat.reduceLT, Nat.reduceBEq, ↓reduceIte, Int.reduceLE, Int.reduceLT, Int.reduceToNat, Int.reduceNeg, reduceCtorEq, Int.reduceEq, SF0, SF1, SF2, DHb0, DHb1, DHa0, DCg0, DCe0, DCe1, DCe2, DDb0, DBc0, DBc1, DDe0, DKa0, DYb0, DAlh0, DLa0, SX0]) ?_
      rintro _ _ ⟨Sy, vy, hvy, rfl, rfl⟩
      simp (disch := omega) only [SX0, SX1, SX2, SX3, SX4, SX5, SX6, SX7, SX8, SU0, SY0, SY1, Nat.reduceAdd, Nat.reduceMul, Nat.reduceSub, Nat.reduceLeDiff, Nat.reduceEqDiff, Nat.reduceLT, Nat.reduceBEq, ↓reduceIte, Int.reduceLE, Int.reduceLT, Int.reduceToNat, Int.reduceNeg, reduceCtorEq, Int.reduceEq, SF0, SF1, SF2, DHb0, DHb1, DHa0, DCg0, DCe0, DCe1, DCe2, DDb0, DBc0, DBc1, DDe0, DKa0, DYb0, DAlh0, DLa0, SX0, hvx, hvy, if_true, Plan.csV]
      exact fin_two (r := 7) (rx := 3) (ry := 5) (x := bpF k vs f w d) (y := bpF k vs f w (h - d)) (by decide) (by decide) (by decide) rfl rfl rfl fun S v hv => ⟨S, v, hv, rfl, rfl⟩
    · simp (disch := omega) only [SX0, SX1, SX2, SX3, SX4, SX5, SX6, SX7, SX8, SU0, SY0, SY1, Nat.reduceAdd, Nat.reduceMul, Nat.reduceSub, Nat.reduceLeDiff, Nat.reduceEqDiff, Nat.reduceLT, Nat.reduceBEq, ↓reduceIte, Int.reduceLE, Int.reduceLT, Int.reduceToNat, Int.reduceNeg, reduceCtorEq, Int.reduceEq, SF0, SF1, SF2, DHb0, DHb1, DHa0, DCg0, DCe0, DCe1, DCe2, DDb0, DBc0, DBc1, DDe0, DKa0, DYb0, DAlh0, DLa0]
      refine ⟨d + 1, ⟨by omega, fun c' a b => ?_⟩, by omega, ?_⟩
      · by_cases e : c' = d
        · subst e; exact h4
        · exact hdn c' a (by omega)
      (refine wk_le ?_ ?_ ?_; (focus (simp [W8, leTm, leAV, AV.under, underL, Work.under, tabL_under, Plan.under, LfS.cs]; done)); (focus (simp [leL, OB.under, underL, AV.under, Work.under, tabL_under, Plan.under, LfS.cs]; done)); (focus (simp; done)))
  have hf2 := firstC_none (g := fun c => vt k vs w c + vt k vs w (h - c)) (t := vt k vs w h) (n := h / 2) fun c' a b => hdn c' a (by omega)
  rw [hf2] at hb0
  simp only at hb0
  rw [hb0]
  simp (disch := omega) only [SX0, SX1, SX2, SX3, SX4, SX5, SX6, SX7, SX8, SU0, SY0, SY1, Nat.reduceAdd, Nat.reduceMul, Nat.reduceSub, Nat.reduceLeDiff, Nat.reduceEqDiff, Nat.reduceLT, Nat.reduceBEq, ↓reduceIte, Int.reduceLE, Int.reduceLT, Int.reduceToNat, Int.reduceNeg, reduceCtorEq, Int.reduceEq, SF0, SF1, SF2, DHb0, DHb1, DHa0, DCg0, DCe0, DCe1, DCe2, DDb0, DBc0, DBc1, DDe0, DKa0, DYb0, DAlh0, DLa0]
  exact fin_leaf (q := .mk 0 0 0 false []) rfl fun S => ⟨S, _, rfl, rfl, rfl⟩

/-- A plan with memory of its own, and whether it is told. -/
def TreePB (q : Plan) (b : Bool) (r : AV) (L : List OB) : Prop := ∃ S v, v.oneCell' = true ∧ r = .tup [.agg (q.csV v), .val (.bool b)] ∧ L = [.forest S [(v, .sl (q.ks.map Plan.cs))]]
theorem fin_leafB {R : AV → List OB → Prop} {s : AS} {b : Bool} (hR : ∀ S, R (.tup [.agg (Plan.zero.csV (.slice none 0 0)), .val (.bool b)]) [.forest S [(.slice none 0 0, .sl [])]]) : Fin [] 0 R s (.tup [.agg [.val (.int .i64 0), .val (.int .i64 0), .val (.int .i64 0), .val (.bool false), .val (.slice none 0 0)], .val (.bool b)]) := by
  refine fin_pushf [(.slice none 0 0, .sl [])] (fun w => Forest.one.2 (.nil _ _ _)) ?_
  exact fin_ks [s.L.length] (.tup [.agg (Plan.zero.csV (.slice none 0 0)), .val (.bool b)]) [.forest (fun _ => False) [(.slice none 0 0, .sl [])]] (hR _) rfl ⟨by simp [AS.push]; rfl, trivial⟩ (by simp) (by simp) (by simp)
theorem acall_borPB {P : Program} {fx : List Nat} {f : FuncId} {args' : List AV} {q : Plan} {b : Bool} (h : ACalls P f args' [] [] (TreePB q b)) {args : List AV} {s : AS} (hb : BorL s.L args args')
    {K : AV → AS → Prop} (hK : ∀ S v, v.oneCell' = true → K (.tup [.agg (q.csV v), .val (.bool b)]) { s with L := s.L ++ [.forest S [(v, .sl (q.ks.map Plan.cs))]] }) : ACall P fx (.fn f []) args s K :=
  acall_bor h hb (fun r L ⟨S, v, _, h1, h2⟩ => by subst h1; subst h2; exact ⟨rfl, rfl⟩) fun r L ⟨S, v, h0, h1, h2⟩ => by
    subst h1; subst h2
    exact hK S v h0

theorem e_bestPlanF : Enters Try.prog 14 := enters_of Try.func14 (by kernel_rfl) (by kernel_rfl)
set_option maxRecDepth 16000 in
set_option maxHeartbeats 4000000 in
theorem bestPlan_f (k : Work) (vs : List Int) (hk : k.Ps.length < 2 ^ 40) (hl : vs.length < 2 ^ 40) : ACalls Try.prog 14 [.agg k.cs, .sl (ints vs)] [] [] (TreePB (bestP k vs).1 (bestP k vs).2) := by
  refine acalls_tm T_tt Try.func14 rfl e_bestPlanF 26 rfl (W8 _ _ .any .any .any .any .any .any (W8 .any .any .any .any .any .any .any .any (W8 .any .any .any .any .any .any .any .any [.any, .any, .any, .any]))) rfl (rv := [.cell 4 31, .tmp 5]) rfl (sx_sound (bl := []) T_tt _ _ _ ?_)
  simp (disch := omega) only [SX0, SX1, SX2, SX3, SX4, SX5, SX6, SX7, SX8, SU0, SY0, SY1, Nat.reduceAdd, Nat.reduceMul, Nat.reduceSub, Nat.reduceLeDiff, Nat.reduceEqDiff, Nat.reduceLT, Nat.reduceBEq, ↓reduceIte, Int.reduceLE, Int.reduceLT, Int.reduceToNat, Int.reduceNeg, reduceCtorEq, Int.reduceEq, SF0, SF1, SF2, DHb0, DHb1, DHa0, DCg0, DCe0, DCe1, DCe2, DDb0, DBc0, DBc1, DDe0, DKa0, DYb0, DAlh0, DLa0]
  refine acall_one (bestToldX_c k vs hk hl) (by simp [freeL, AV.free, Work.free]) rfl ?_
  simp (disch := omega) only [SX0, SX1, SX2, SX3, SX4, SX5, SX6, SX7, SX8, SU0, SY0, SY1, Nat.reduceAdd, Nat.reduceMul, Nat.reduceSub, Nat.reduceLeDiff, Nat.reduceEqDiff, Nat.reduceLT, Nat.reduceBEq, ↓reduceIte, Int.reduceLE, Int.reduceLT, Int.reduceToNat, Int.reduceNeg, reduceCtorEq, Int.reduceEq, SF0, SF1, SF2, DHb0, DHb1, DHa0, DCg0, DCe0, DCe1, DCe2, DDb0, DBc0, DBc1, DDe0, DKa0, DYb0, DAlh0, DLa0]
  refine br_ndec (fun h1 => ?_) (fun h1 => ?_)
  · have e : bestP k vs = (.zero, false) := by unfold bestP; exact if_neg fun h => h1 h.1
    rw [e]
    simp (disch := omega) only [SX0, SX1, SX2, SX3, SX4, SX5, SX6, SX7, SX8, SU0, SY0, SY1, Nat.reduceAdd, Nat.reduceMul, Nat.reduceSub, Nat.reduceLeDiff, Nat.reduceEqDiff, Nat.reduceLT, Nat.reduceBEq, ↓reduceIte, Int.reduceLE, Int.reduceLT, Int.reduceToNat, Int.reduceNeg, reduceCtorEq, Int.reduceEq, SF0, SF1, SF2, DHb0, DHb1, DHa0, DCg0, DCe0, DCe1, DCe2, DDb0, DBc0, DBc1, DDe0, DKa0, DYb0, DAlh0, DLa0]
    exact fin_leafB fun S => ⟨S, _, rfl, rfl, rfl⟩
  have hok := h1.1
  unfold Work.ok at hok
  have hwh := h1.2.1
  obtain ⟨W, hW⟩ : ∃ n : Nat, k.W = n := ⟨k.W.toNat, by omega⟩
  obtain ⟨H, hH⟩ : ∃ n : Nat, k.H = n := ⟨k.H.toNat, by omega⟩
  have V := valuesOfX_c k vs W H h1.fine hW hH (by omega) (by omega)
  have B := bestPlanFor_f k vs W H h1.fine (by omega) (by omega) (W + H + 1) W H (by omega) (Nat.le_refl _) (Nat.le_refl _)
  have hb : bestP k vs = if 0 ≤ (bpF k vs (W + H + 1) W H).size then (bpF k vs (W + H + 1) W H, true) else (.zero, false) := by
    unfold bestP
    have e1 : k.W.toNat = W := by omega
    have e2 : k.H.toNat = H := by omega
    rw [e1, e2]
    by_cases h : 0 ≤ (bpF k vs (W + H + 1) W H).size
    · rw [if_pos ⟨h1, h⟩, if_pos h]
    · rw [if_neg (fun hh => h hh.2), if_neg h]; rfl
  generalize bpF k vs (W + H + 1) W H = p at *
  simp (disch := omega) only [SX0, SX1, SX2, SX3, SX4, SX5, SX6, SX7, SX8, SU0, SY0, SY1, Nat.reduceAdd, Nat.reduceMul, Nat.reduceSub, Nat.reduceLeDiff, Nat.reduceEqDiff, Nat.reduceLT, Nat.reduceBEq, ↓reduceIte, Int.reduceLE, Int.reduceLT, Int.reduceToNat, Int.reduceNeg, reduceCtorEq, Int.reduceEq, SF0, SF1, SF2, DHb0, DHb1, DHa0, DCg0, DCe0, DCe1, DCe2, DDb0, DBc0, DBc1, DDe0, DKa0, DYb0, DAlh0, DLa0]
  refine acall_one V (by simp [freeL, AV.free, Work.free]) (by simp [AV.free, tabL_free]) ?_
  simp (disch := omega) only [SX0, SX1, SX2, SX3, SX4, SX5, SX6, SX7, SX8, SU0, SY0, SY1, Nat.reduceAdd, Nat.reduceMul, Nat.reduceSub, Nat.reduceLeDiff, Nat.reduceEqDiff, Nat.reduceLT, Nat.reduceBEq, ↓reduceIte, Int.reduceLE, Int.reduceLT, Int.reduceToNat, Int.reduceNeg, reduceCtorEq, Int.reduceEq, SF0, SF1, SF2, DHb0, DHb1, DHa0, DCg0, DCe0, DCe1, DCe2, DDb0, DBc0, DBc1, DDe0, DKa0, DYb0, DAlh0, DLa0, hW, hH]
  have hdz : List.drop 289 (List.map AV.val (List.replicate 289 (Value.int .i64 0))) = [] := by simp
  refine req (by simp) ?_
  simp (disch := omega) only [SX0, SX1, SX2, SX3, SX4, SX5, SX6, SX7, SX8, SU0, SY0, SY1, Nat.reduceAdd, Nat.reduceMul, Nat.reduceSub, Nat.reduceLeDiff, Nat.reduceEqDiff, Nat.reduceLT, Nat.reduceBEq, ↓reduceIte, Int.reduceLE, Int.reduceLT, Int.reduceToNat, Int.reduceNeg, reduceCtorEq, Int.reduceEq, SF0, SF1, SF2, DHb0, DHb1, DHa0, DCg0, DCe0, DCe1, DCe2, DDb0, DBc0, DBc1, DDe0, DKa0, DYb0, DAlh0, DLa0, hW, hH, hdz, List.append_nil]
  refine acall_borP B (by exact ⟨.free _ (by simp [AV.free, Work.free]), .free _ rfl, .ptr 2 _ rfl (tabL_pure _), .free _ rfl, .free _ rfl, trivial⟩) fun S v hv => ?_
  simp (disch := omega) only [SX0, SX1, SX2, SX3, SX4, SX5, SX6, SX7, SX8, SU0, SY0, SY1, Nat.reduceAdd, Nat.reduceMul, Nat.reduceSub, Nat.reduceLeDiff, Nat.reduceEqDiff, Nat.reduceLT, Nat.reduceBEq, ↓reduceIte, Int.reduceLE, Int.reduceLT, Int.reduceToNat, Int.reduceNeg, reduceCtorEq, Int.reduceEq, SF0, SF1, SF2, DHb0, DHb1, DHa0, DCg0, DCe0, DCe1, DCe2, DDb0, DBc0, DBc1, DDe0, DKa0, DYb0, DAlh0, DLa0, SX0, hv, if_true, Plan.csV]
  refine acall_tell (planSizeI_c p) (by exact ⟨bor_plan 3 rfl, trivial⟩) ?_
  simp (disch := omega) only [SX0, SX1, SX2, SX3, SX4, SX5, SX6, SX7, SX8, SU0, SY0, SY1, Nat.reduceAdd, Nat.reduceMul, Nat.reduceSub, Nat.reduceLeDiff, Nat.reduceEqDiff, Nat.reduceLT, Nat.reduceBEq, ↓reduceIte, Int.reduceLE, Int.reduceLT, Int.reduceToNat, Int.reduceNeg, reduceCtorEq, Int.reduceEq, SF0, SF1, SF2, DHb0, DHb1, DHa0, DCg0, DCe0, DCe1, DCe2, DDb0, DBc0, DBc1, DDe0, DKa0, DYb0, DAlh0, DLa0]
  refine br_dec (fun h2 => ?_) (fun h2 => ?_)
  · rw [if_neg (by omega)] at hb
    rw [hb]
    simp (disch := omega) only [SX0, SX1, SX2, SX3, SX4, SX5, SX6, SX7, SX8, SU0, SY0, SY1, Nat.reduceAdd, Nat.reduceMul, Nat.reduceSub, Nat.reduceLeDiff, Nat.reduceEqDiff, Nat.reduceLT, Nat.reduceBEq, ↓reduceIte, Int.reduceLE, Int.reduceLT, Int.reduceToNat, Int.reduceNeg, reduceCtorEq, Int.reduceEq, SF0, SF1, SF2, DHb0, DHb1, DHa0, DCg0, DCe0, DCe1, DCe2, DDb0, DBc0, DBc1, DDe0, DKa0, DYb0, DAlh0, DLa0]
    exact fin_leafB fun S => ⟨S, _, rfl, rfl, rfl⟩
  · rw [if_pos (by omega)] at hb
    rw [hb]
    simp (disch := omega) only [SX0, SX1, SX2, SX3, SX4, SX5, SX6, SX7, SX8, SU0, SY0, SY1, Nat.reduceAdd, Nat.reduceMul, Nat.reduceSub, Nat.reduceLeDiff, Nat.reduceEqDiff, Nat.reduceLT, Nat.reduceBEq, ↓reduceIte, Int.reduceLE, Int.reduceLT, Int.reduceToNat, Int.reduceNeg, reduceCtorEq, Int.reduceEq, SF0, SF1, SF2, DHb0, DHb1, DHa0, DCg0, DCe0, DCe1, DCe2, DDb0, DBc0, DBc1, DDe0, DKa0, DYb0, DAlh0, DLa0, SX0, hv]
    exact fin_ks [3] (.tup [.agg (p.csV v), .val (.bool true)]) [.forest S [(v, .sl (p.ks.map Plan.cs))]] ⟨S, v, hv, rfl, rfl⟩ rfl ⟨rfl, trivial⟩ (by simp) (by simp) (by simp)

theorem bestP_nodes (k : Work) (vs : List Int) : (bestP k vs).1.nodes ≤ 255 := by
  unfold bestP
  split
  · rename_i h; exact (Plan.size_pos h.2).1.2
  · show Plan.zero.nodes ≤ 255
    rw [Plan.zero_nodes]; omega

def FnExactBestPlan_hyp : Prop := ∀ (x0 : Work) (_ : x0.Ps.length ≤ 9223372036854775807) (x1 : List Int) (_ : x1.length ≤ 9223372036854775807 ∧ ∀ z ∈ x1, rng z), ACalls Try.prog 4 [.agg x0.cs, .sl (ints x1)] [] [] (fun r L => r = .val (.bool true) ∧ L = [])
theorem e_fnExactBestPlan : Enters Try.prog 4 := enters_of Try.func4 (by kernel_rfl) (by kernel_rfl)
set_option maxRecDepth 8000 in
set_option maxHeartbeats 4000000 in
theorem fnExactBestPlan_c : FnExactBestPlan_hyp := by
  intro k hk l hl
  refine acalls_tm T_tt Try.func4 rfl e_fnExactBestPlan 115 rfl (W8 _ _ .any .any .any .any .any .any (W8 .any .any .any .any .any .any .any .any (W8 .any .any .any .any .any .any .any .any (W8 .any .any .any .any .any .any .any .any (W8 .any .any .any .any .any .any .any .any (W8 .any .any .any .any .any .any .any .any (W8 .any .any .any .any .any .any .any .any (W8 .any .any .any .any .any .any .any .any (W8 .any .any .any .any .any .any .any .any (W8 .any .any .any .any .any .any .any .any (W8 .any .any .any .any .any .any .any .any (W8 .any .any .any .any .any .any .any .any (W8 .any .any .any .any .any .any .any .any (W8 .any .any .any .any .any .any .any .any [.any, .any, .any, .any, .any])))))))))))))) rfl (rv := [.tmp 4]) rfl (sx_sound (bl := []) T_tt _ _ _ ?_)
  simp (disch := omega) only [SX0, SX1, SX2, SX3, SX4, SX5, SX6, SX7, SX8, SU0, SY0, SY1, Nat.reduceAdd, Nat.reduceMul, Nat.reduceSub, Nat.reduceLeDiff, Nat.reduceEqDiff, Nat.reduceLT, Nat.reduceBEq, ↓reduceIte, Int.reduceLE, Int.reduceLT, Int.reduceToNat, Int.reduceNeg, reduceCtorEq, Int.reduceEq, SF0, SF1, SF2, DHb0, DHb1, DHa0, DCg0, DCe0, DCe1, DCe2, DDb0, DBc0, DBc1, DDe0, DKa0, DYb0, DAlh0, DLa0]
  refine br_dec (fun h0 => ?_) (fun h0 => ?_)
  · simp (disch := omega) only [SX0, SX1, SX2, SX3, SX4, SX5, SX6, SX7, SX8, SU0, SY0, SY1, Nat.reduceAdd, Nat.reduceMul, Nat.reduceSub, Nat.reduceLeDiff, Nat.reduceEqDiff, Nat.reduceLT, Nat.reduceBEq, ↓reduceIte, Int.reduceLE, Int.reduceLT, Int.reduceToNat, Int.reduceNeg, reduceCtorEq, Int.reduceEq, SF0, SF1, SF2, DHb0, DHb1, DHa0, DCg0, DCe0, DCe1, DCe2, DDb0, DBc0, DBc1, DDe0, DKa0, DYb0, DAlh0, DLa0]
    exact fin_val ⟨rfl, rfl⟩
  have hln : l.length ≤ 1048576 := by omega
  simp (disch := omega) only [SX0, SX1, SX2, SX3, SX4, SX5, SX6, SX7, SX8, SU0, SY0, SY1, Nat.reduceAdd, Nat.reduceMul, Nat.reduceSub, Nat.reduceLeDiff, Nat.reduceEqDiff, Nat.reduceLT, Nat.reduceBEq, ↓reduceIte, Int.reduceLE, Int.reduceLT, Int.reduceToNat, Int.reduceNeg, reduceCtorEq, Int.reduceEq, SF0, SF1, SF2, DHb0, DHb1, DHa0, DCg0, DCe0, DCe1, DCe2, DDb0, DBc0, DBc1, DDe0, DKa0, DYb0, DAlh0, DLa0]
  refine acall_one (szWork_c k 1048576 hk (by omega)) rfl rfl ?_
  simp (disch := omega) only [SX0, SX1, SX2, SX3, SX4, SX5, SX6, SX7, SX8, SU0, SY0, SY1, Nat.reduceAdd, Nat.reduceMul, Nat.reduceSub, Nat.reduceLeDiff, Nat.reduceEqDiff, Nat.reduceLT, Nat.reduceBEq, ↓reduceIte, Int.reduceLE, Int.reduceLT, Int.reduceToNat, Int.reduceNeg, reduceCtorEq, Int.reduceEq, SF0, SF1, SF2, DHb0, DHb1, DHa0, DCg0, DCe0, DCe1, DCe2, DDb0, DBc0, DBc1, DDe0, DKa0, DYb0, DAlh0, DLa0]
  refine br_dec (fun h1 => ?_) (fun h1 => ?_)
  · simp (disch := omega) only [SX0, SX1, SX2, SX3, SX4, SX5, SX6, SX7, SX8, SU0, SY0, SY1, Nat.reduceAdd, Nat.reduceMul, Nat.reduceSub, Nat.reduceLeDiff, Nat.reduceEqDiff, Nat.reduceLT, Nat.reduceBEq, ↓reduceIte, Int.reduceLE, Int.reduceLT, Int.reduceToNat, Int.reduceNeg, reduceCtorEq, Int.reduceEq, SF0, SF1, SF2, DHb0, DHb1, DHa0, DCg0, DCe0, DCe1, DCe2, DDb0, DBc0, DBc1, DDe0, DKa0, DYb0, DAlh0, DLa0]
    exact fin_val ⟨rfl, rfl⟩
  have hkn : k.Ps.length ≤ 1048576 := by have := leftOf_pos h1; omega
  have TW := toWork_c k hkn
  have TI := toIntS_c l hln
  have EQL := eqIntS_c l (by omega)
  have TF : ACalls Try.prog 22 [.sl (ints l)] [] [] (fun r L => ∃ S v, v.oneCell' = true ∧ r = .val v ∧ L = [.forest S [(v, .sl (ints l))]]) := (toIntS_o l hln).treed (by simp [ints]) (exact_map _ cell1.exact l)
  have UF := bestPlan_f k l (by omega) (by omega)
  have UZ := bestPlanIX_c k l (by omega) (by omega)
  have US := bestPlanSX_c k l (by omega) (by omega)
  have hqn := bestP_nodes k l
  generalize (bestP k l).1 = q at *
  generalize (bestP k l).2 = b at *
  have hqk := q.nodes_eq
  have EQ := eqPlan_c q (by omega)
  have HE : ACalls Try.prog 29 [.agg (q.held 1), .val (.int .i64 1)] [] [] (fun r L => r = .val (.int .i64 (1 + 4 * Plan.nodesL q.ks)) ∧ L = []) := heldPlan_c q (by omega) 1 (by omega)
  simp (disch := omega) only [SX0, SX1, SX2, SX3, SX4, SX5, SX6, SX7, SX8, SU0, SY0, SY1, Nat.reduceAdd, Nat.reduceMul, Nat.reduceSub, Nat.reduceLeDiff, Nat.reduceEqDiff, Nat.reduceLT, Nat.reduceBEq, ↓reduceIte, Int.reduceLE, Int.reduceLT, Int.reduceToNat, Int.reduceNeg, reduceCtorEq, Int.reduceEq, SF0, SF1, SF2, DHb0, DHb1, DHa0, DCg0, DCe0, DCe1, DCe2, DDb0, DBc0, DBc1, DDe0, DKa0, DYb0, DAlh0, DLa0]
  refine acall_one TW rfl rfl ?_
  simp (disch := omega) only [SX0, SX1, SX2, SX3, SX4, SX5, SX6, SX7, SX8, SU0, SY0, SY1, Nat.reduceAdd, Nat.reduceMul, Nat.reduceSub, Nat.reduceLeDiff, Nat.reduceEqDiff, Nat.reduceLT, Nat.reduceBEq, ↓reduceIte, Int.reduceLE, Int.reduceLT, Int.reduceToNat, Int.reduceNeg, reduceCtorEq, Int.reduceEq, SF0, SF1, SF2, DHb0, DHb1, DHa0, DCg0, DCe0, DCe1, DCe2, DDb0, DBc0, DBc1, DDe0, DKa0, DYb0, DAlh0, DLa0]
  refine acall_one TI rfl rfl ?_
  simp (disch := omega) only [SX0, SX1, SX2, SX3, SX4, SX5, SX6, SX7, SX8, SU0, SY0, SY1, Nat.reduceAdd, Nat.reduceMul, Nat.reduceSub, Nat.reduceLeDiff, Nat.reduceEqDiff, Nat.reduceLT, Nat.reduceBEq, ↓reduceIte, Int.reduceLE, Int.reduceLT, Int.reduceToNat, Int.reduceNeg, reduceCtorEq, Int.reduceEq, SF0, SF1, SF2, DHb0, DHb1, DHa0, DCg0, DCe0, DCe1, DCe2, DDb0, DBc0, DBc1, DDe0, DKa0, DYb0, DAlh0, DLa0]
  refine acall_one US (by simp [freeL, AV.free, Work.free]) (by simp [freeL, AV.free, Plan.free]) ?_
  simp (disch := omega) only [SX0, SX1, SX2, SX3, SX4, SX5, SX6, SX7, SX8, SU0, SY0, SY1, Nat.reduceAdd, Nat.reduceMul, Nat.reduceSub, Nat.reduceLeDiff, Nat.reduceEqDiff, Nat.reduceLT, Nat.reduceBEq, ↓reduceIte, Int.reduceLE, Int.reduceLT, Int.reduceToNat, Int.reduceNeg, reduceCtorEq, Int.reduceEq, SF0, SF1, SF2, DHb0, DHb1, DHa0, DCg0, DCe0, DCe1, DCe2, DDb0, DBc0, DBc1, DDe0, DKa0, DYb0, DAlh0, DLa0]
  refine acall_own (toWork_f k hkn) [] [] (by simp only [SX0, SX1, SX2, SX3, SX4, SX5, SX6, SX7, SX8, SU0, SY0, SY1, Nat.reduceAdd, Nat.reduceMul, Nat.reduceSub, Nat.reduceLeDiff, Nat.reduceEqDiff, Nat.reduceLT, Nat.reduceBEq, ↓reduceIte, Int.reduceLE, Int.reduceLT, Int.reduceToNat, Int.reduceNeg, reduceCtorEq, Int.reduceEq, SF0, SF1, SF2, DHb0, DHb1, DHa0, DCg0, DCe0, DCe1, DCe2, DDb0, DBc0, DBc1, DDe0, DKa0, DYb0, DAlh0, DLa0, SX0]) (by decide) (by decide) (by rfl) (by simp only [SX0, SX1, SX2, SX3, SX4, SX5, SX6, SX7, SX8, SU0, SY0, SY1, Nat.reduceAdd, Nat.reduceMul, Nat.reduceSub, Nat.reduceLeDiff, Nat.reduceEqDiff, Nat.reduceLT, Nat.reduceBEq, ↓reduceIte, Int.reduceLE, Int.reduceLT, Int.reduceToNat, Int.reduceNeg, reduceCtorEq, Int.reduceEq, SF0, SF1, SF2, DHb0, DHb1, DHa0, DCg0, DCe0, DCe1, DCe2, DDb0, DBc0, DBc1, DDe0, DKa0, DYb0, DAlh0, DLa0, SX0]) ?_
  rintro _ _ ⟨S0, v0, hv0, rfl, rfl⟩
  simp (disch := omega) only [SX0, SX1, SX2, SX3, SX4, SX5, SX6, SX7, SX8, SU0, SY0, SY1, Nat.reduceAdd, Nat.reduceMul, Nat.reduceSub, Nat.reduceLeDiff, Nat.reduceEqDiff, Nat.reduceLT, Nat.reduceBEq, ↓reduceIte, Int.reduceLE, Int.reduceLT, Int.reduceToNat, Int.reduceNeg, reduceCtorEq, Int.reduceEq, SF0, SF1, SF2, DHb0, DHb1, DHa0, DCg0, DCe0, DCe1, DCe2, DDb0, DBc0, DBc1, DDe0, DKa0, DYb0, DAlh0, DLa0, SX0, hv0, if_true, Work.csV]
  refine acall_own TF [] [] (by simp only [SX0, SX1, SX2, SX3, SX4, SX5, SX6, SX7, SX8, SU0, SY0, SY1, Nat.reduceAdd, Nat.reduceMul, Nat.reduceSub, Nat.reduceLeDiff, Nat.reduceEqDiff, Nat.reduceLT, Nat.reduceBEq, ↓reduceIte, Int.reduceLE, Int.reduceLT, Int.reduceToNat, Int.reduceNeg, reduceCtorEq, Int.reduceEq, SF0, SF1, SF2, DHb0, DHb1, DHa0, DCg0, DCe0, DCe1, DCe2, DDb0, DBc0, DBc1, DDe0, DKa0, DYb0, DAlh0, DLa0, SX0]) (by decide) (by decide) (by rfl) (by simp only [SX0, SX1, SX2, SX3, SX4, SX5, SX6, SX7, SX8, SU0, SY0, SY1, Nat.reduceAdd, Nat.reduceMul, Nat.reduceSub, Nat.reduceLeDiff, Nat.reduceEqDiff, Nat.reduceLT, Nat.reduceBEq, ↓reduceIte, Int.reduceLE, Int.reduceLT, Int.reduceToNat, Int.reduceNeg, reduceCtorEq, Int.reduceEq, SF0, SF1, SF2, DHb0, DHb1, DHa0, DCg0, DCe0, DCe1, DCe2, DDb0, DBc0, DBc1, DDe0, DKa0, DYb0, DAlh0, DLa0, SX0]) ?_
  rintro _ _ ⟨S1, v1, hv1, rfl, rfl⟩
  simp (disch := omega) only [SX0, SX1, SX2, SX3, SX4, SX5, SX6, SX7, SX8, SU0, SY0, SY1, Nat.reduceAdd, Nat.reduceMul, Nat.reduceSub, Nat.reduceLeDiff, Nat.reduceEqDiff, Nat.reduceLT, Nat.reduceBEq, ↓reduceIte, Int.reduceLE, Int.reduceLT, Int.reduceToNat, Int.reduceNeg, reduceCtorEq, Int.reduceEq, SF0, SF1, SF2, DHb0, DHb1, DHa0, DCg0, DCe0, DCe1, DCe2, DDb0, DBc0, DBc1, DDe0, DKa0, DYb0, DAlh0, DLa0, SX0, hv1, if_true]
  refine acall_borPB UF (by exact ⟨bor_work 2 rfl, .item 4 0 S1 _ v1 _ rfl rfl, trivial⟩) fun S2 v2 hv2 => ?_
  simp (disch := omega) only [SX0, SX1, SX2, SX3, SX4, SX5, SX6, SX7, SX8, SU0, SY0, SY1, Nat.reduceAdd, Nat.reduceMul, Nat.reduceSub, Nat.reduceLeDiff, Nat.reduceEqDiff, Nat.reduceLT, Nat.reduceBEq, ↓reduceIte, Int.reduceLE, Int.reduceLT, Int.reduceToNat, Int.reduceNeg, reduceCtorEq, Int.reduceEq, SF0, SF1, SF2, DHb0, DHb1, DHa0, DCg0, DCe0, DCe1, DCe2, DDb0, DBc0, DBc1, DDe0, DKa0, DYb0, DAlh0, DLa0, SX0, hv2, if_true, Plan.csV]
  refine acall_tell EQ (by exact ⟨bor_plan 5 rfl, .free _ (by simp [AV.free, Plan.free]), trivial⟩) ?_
  simp (disch := omega) only [SX0, SX1, SX2, SX3, SX4, SX5, SX6, SX7, SX8, SU0, SY0, SY1, Nat.reduceAdd, Nat.reduceMul, Nat.reduceSub, Nat.reduceLeDiff, Nat.reduceEqDiff, Nat.reduceLT, Nat.reduceBEq, ↓reduceIte, Int.reduceLE, Int.reduceLT, Int.reduceToNat, Int.reduceNeg, reduceCtorEq, Int.reduceEq, SF0, SF1, SF2, DHb0, DHb1, DHa0, DCg0, DCe0, DCe1, DCe2, DDb0, DBc0, DBc1, DDe0, DKa0, DYb0, DAlh0, DLa0, SX0]
  refine awp_float (bl := []) T_tt mixed [0, 1, 3, 6] [0, 1, 2] [(3, [(0, .f 52), (1, .f 53), (2, .f 54)]), (4, [])] [] (by kernel_rfl) (by kernel_rfl) ?_
  simp (disch := omega) only [SX0, SX1, SX2, SX3, SX4, SX5, SX6, SX7, SX8, SU0, SY0, SY1, Nat.reduceAdd, Nat.reduceMul, Nat.reduceSub, Nat.reduceLeDiff, Nat.reduceEqDiff, Nat.reduceLT, Nat.reduceBEq, ↓reduceIte, Int.reduceLE, Int.reduceLT, Int.reduceToNat, Int.reduceNeg, reduceCtorEq, Int.reduceEq, SF0, SF1, SF2, DHb0, DHb1, DHa0, DCg0, DCe0, DCe1, DCe2, DDb0, DBc0, DBc1, DDe0, DKa0, DYb0, DAlh0, DLa0, SX0]
  refine qc_one TW rfl ?_
  simp (disch := omega) only [SX0, SX1, SX2, SX3, SX4, SX5, SX6, SX7, SX8, SU0, SY0, SY1, Nat.reduceAdd, Nat.reduceMul, Nat.reduceSub, Nat.reduceLeDiff, Nat.reduceEqDiff, Nat.reduceLT, Nat.reduceBEq, ↓reduceIte, Int.reduceLE, Int.reduceLT, Int.reduceToNat, Int.reduceNeg, reduceCtorEq, Int.reduceEq, SF0, SF1, SF2, DHb0, DHb1, DHa0, DCg0, DCe0, DCe1, DCe2, DDb0, DBc0, DBc1, DDe0, DKa0, DYb0, DAlh0, DLa0, SX0]
  refine acall_tell (eqWork_c k (by omega)) (by exact ⟨bor_work 2 rfl, .free _ rfl, trivial⟩) ?_
  simp (disch := omega) only [SX0, SX1, SX2, SX3, SX4, SX5, SX6, SX7, SX8, SU0, SY0, SY1, Nat.reduceAdd, Nat.reduceMul, Nat.reduceSub, Nat.reduceLeDiff, Nat.reduceEqDiff, Nat.reduceLT, Nat.reduceBEq, ↓reduceIte, Int.reduceLE, Int.reduceLT, Int.reduceToNat, Int.reduceNeg, reduceCtorEq, Int.reduceEq, SF0, SF1, SF2, DHb0, DHb1, DHa0, DCg0, DCe0, DCe1, DCe2, DDb0, DBc0, DBc1, DDe0, DKa0, DYb0, DAlh0, DLa0, SX0]
  refine acall_one TI rfl rfl ?_
  simp (disch := omega) only [SX0, SX1, SX2, SX3, SX4, SX5, SX6, SX7, SX8, SU0, SY0, SY1, Nat.reduceAdd, Nat.reduceMul, Nat.reduceSub, Nat.reduceLeDiff, Nat.reduceEqDiff, Nat.reduceLT, Nat.reduceBEq, ↓reduceIte, Int.reduceLE, Int.reduceLT, Int.reduceToNat, Int.reduceNeg, reduceCtorEq, Int.reduceEq, SF0, SF1, SF2, DHb0, DHb1, DHa0, DCg0, DCe0, DCe1, DCe2, DDb0, DBc0, DBc1, DDe0, DKa0, DYb0, DAlh0, DLa0, SX0]
  refine acall_tell EQL (by exact ⟨.item 4 0 S1 _ v1 _ rfl rfl, .free _ rfl, trivial⟩) ?_
  simp (disch := omega) only [SX0, SX1, SX2, SX3, SX4, SX5, SX6, SX7, SX8, SU0, SY0, SY1, Nat.reduceAdd, Nat.reduceMul, Nat.reduceSub, Nat.reduceLeDiff, Nat.reduceEqDiff, Nat.reduceLT, Nat.reduceBEq, ↓reduceIte, Int.reduceLE, Int.reduceLT, Int.reduceToNat, Int.reduceNeg, reduceCtorEq, Int.reduceEq, SF0, SF1, SF2, DHb0, DHb1, DHa0, DCg0, DCe0, DCe1, DCe2, DDb0, DBc0, DBc1, DDe0, DKa0, DYb0, DAlh0, DLa0, SX0]
  refine acall_item (fun S => markWork_f k hkn 1 (by omega) v0 S) 2 0 rfl rfl rfl fun S3 => ?_
  simp (disch := omega) only [SX0, SX1, SX2, SX3, SX4, SX5, SX6, SX7, SX8, SU0, SY0, SY1, Nat.reduceAdd, Nat.reduceMul, Nat.reduceSub, Nat.reduceLeDiff, Nat.reduceEqDiff, Nat.reduceLT, Nat.reduceBEq, ↓reduceIte, Int.reduceLE, Int.reduceLT, Int.reduceToNat, Int.reduceNeg, reduceCtorEq, Int.reduceEq, SF0, SF1, SF2, DHb0, DHb1, DHa0, DCg0, DCe0, DCe1, DCe2, DDb0, DBc0, DBc1, DDe0, DKa0, DYb0, DAlh0, DLa0, SX0]
  refine acall_item (fun S => markIntS_f l hln (1 + 4 * (k.Ps.length : Int)) (by omega) v1 S) 4 0 rfl rfl rfl fun S4 => ?_
  simp (disch := omega) only [SX0, SX1, SX2, SX3, SX4, SX5, SX6, SX7, SX8, SU0, SY0, SY1, Nat.reduceAdd, Nat.reduceMul, Nat.reduceSub, Nat.reduceLeDiff, Nat.reduceEqDiff, Nat.reduceLT, Nat.reduceBEq, ↓reduceIte, Int.reduceLE, Int.reduceLT, Int.reduceToNat, Int.reduceNeg, reduceCtorEq, Int.reduceEq, SF0, SF1, SF2, DHb0, DHb1, DHa0, DCg0, DCe0, DCe1, DCe2, DDb0, DBc0, DBc1, DDe0, DKa0, DYb0, DAlh0, DLa0, SX0]
  refine br_dec (fun h => by omega) (fun h => ?_)
  simp (disch := omega) only [SX0, SX1, SX2, SX3, SX4, SX5, SX6, SX7, SX8, SU0, SY0, SY1, Nat.reduceAdd, Nat.reduceMul, Nat.reduceSub, Nat.reduceLeDiff, Nat.reduceEqDiff, Nat.reduceLT, Nat.reduceBEq, ↓reduceIte, Int.reduceLE, Int.reduceLT, Int.reduceToNat, Int.reduceNeg, reduceCtorEq, Int.reduceEq, SF0, SF1, SF2, DHb0, DHb1, DHa0, DCg0, DCe0, DCe1, DCe2, DDb0, DBc0, DBc1, DDe0, DKa0, DYb0, DAlh0, DLa0, SX0]
  refine acall_tell EQ (by exact ⟨bor_plan 5 rfl, .free _ (by simp [AV.free, Plan.free]), trivial⟩) ?_
  simp (disch := omega) only [SX0, SX1, SX2, SX3, SX4, SX5, SX6, SX7, SX8, SU0, SY0, SY1, Nat.reduceAdd, Nat.reduceMul, Nat.reduceSub, Nat.reduceLeDiff, Nat.reduceEqDiff, Nat.reduceLT, Nat.reduceBEq, ↓reduceIte, Int.reduceLE, Int.reduceLT, Int.reduceToNat, Int.reduceNeg, reduceCtorEq, Int.reduceEq, SF0, SF1, SF2, DHb0, DHb1, DHa0, DCg0, DCe0, DCe1, DCe2, DDb0, DBc0, DBc1, DDe0, DKa0, DYb0, DAlh0, DLa0, SX0]
  refine acall_item (fun S => markPlan_f q (by omega) 1 (by omega) v2 S) 5 0 rfl rfl rfl fun S5 => ?_
  simp (disch := omega) only [SX0, SX1, SX2, SX3, SX4, SX5, SX6, SX7, SX8, SU0, SY0, SY1, Nat.reduceAdd, Nat.reduceMul, Nat.reduceSub, Nat.reduceLeDiff, Nat.reduceEqDiff, Nat.reduceLT, Nat.reduceBEq, ↓reduceIte, Int.reduceLE, Int.reduceLT, Int.reduceToNat, Int.reduceNeg, reduceCtorEq, Int.reduceEq, SF0, SF1, SF2, DHb0, DHb1, DHa0, DCg0, DCe0, DCe1, DCe2, DDb0, DBc0, DBc1, DDe0, DKa0, DYb0, DAlh0, DLa0, SX0]
  refine acall_tell HE (by exact ⟨bor_held 5 rfl, .free _ rfl, trivial⟩) ?_
  simp (disch := omega) only [SX0, SX1, SX2, SX3, SX4, SX5, SX6, SX7, SX8, SU0, SY0, SY1, Nat.reduceAdd, Nat.reduceMul, Nat.reduceSub, Nat.reduceLeDiff, Nat.reduceEqDiff, Nat.reduceLT, Nat.reduceBEq, ↓reduceIte, Int.reduceLE, Int.reduceLT, Int.reduceToNat, Int.reduceNeg, reduceCtorEq, Int.reduceEq, SF0, SF1, SF2, DHb0, DHb1, DHa0, DCg0, DCe0, DCe1, DCe2, DDb0, DBc0, DBc1, DDe0, DKa0, DYb0, DAlh0, DLa0, SX0]
  refine br_dec (fun h => by omega) (fun h => ?_)
  simp (disch := omega) only [SX0, SX1, SX2, SX3, SX4, SX5, SX6, SX7, SX8, SU0, SY0, SY1, Nat.reduceAdd, Nat.reduceMul, Nat.reduceSub, Nat.reduceLeDiff, Nat.reduceEqDiff, Nat.reduceLT, Nat.reduceBEq, ↓reduceIte, Int.reduceLE, Int.reduceLT, Int.reduceToNat, Int.reduceNeg, reduceCtorEq, Int.reduceEq, SF0, SF1, SF2, DHb0, DHb1, DHa0, DCg0, DCe0, DCe1, DCe2, DDb0, DBc0, DBc1, DDe0, DKa0, DYb0, DAlh0, DLa0, SX0]
  refine acall_one TW rfl rfl ?_
  simp (disch := omega) only [SX0, SX1, SX2, SX3, SX4, SX5, SX6, SX7, SX8, SU0, SY0, SY1, Nat.reduceAdd, Nat.reduceMul, Nat.reduceSub, Nat.reduceLeDiff, Nat.reduceEqDiff, Nat.reduceLT, Nat.reduceBEq, ↓reduceIte, Int.reduceLE, Int.reduceLT, Int.reduceToNat, Int.reduceNeg, reduceCtorEq, Int.reduceEq, SF0, SF1, SF2, DHb0, DHb1, DHa0, DCg0, DCe0, DCe1, DCe2, DDb0, DBc0, DBc1, DDe0, DKa0, DYb0, DAlh0, DLa0, SX0]
  refine acall_one TI rfl rfl ?_
  simp (disch := omega) only [SX0, SX1, SX2, SX3, SX4, SX5, SX6, SX7, SX8, SU0, SY0, SY1, Nat.reduceAdd, Nat.reduceMul, Nat.reduceSub, Nat.reduceLeDiff, Nat.reduceEqDiff, Nat.reduceLT, Nat.reduceBEq, ↓reduceIte, Int.reduceLE, Int.reduceLT, Int.reduceToNat, Int.reduceNeg, reduceCtorEq, Int.reduceEq, SF0, SF1, SF2, DHb0, DHb1, DHa0, DCg0, DCe0, DCe1, DCe2, DDb0, DBc0, DBc1, DDe0, DKa0, DYb0, DAlh0, DLa0, SX0]
  refine acall_one UZ (by simp [freeL, AV.free, Work.free]) (by simp [freeL, AV.free, Plan.free]) ?_
  simp (disch := omega) only [SX0, SX1, SX2, SX3, SX4, SX5, SX6, SX7, SX8, SU0, SY0, SY1, Nat.reduceAdd, Nat.reduceMul, Nat.reduceSub, Nat.reduceLeDiff, Nat.reduceEqDiff, Nat.reduceLT, Nat.reduceBEq, ↓reduceIte, Int.reduceLE, Int.reduceLT, Int.reduceToNat, Int.reduceNeg, reduceCtorEq, Int.reduceEq, SF0, SF1, SF2, DHb0, DHb1, DHa0, DCg0, DCe0, DCe1, DCe2, DDb0, DBc0, DBc1, DDe0, DKa0, DYb0, DAlh0, DLa0, SX0]
  refine acall_one EQ (by simp [freeL, AV.free, Plan.free]) rfl ?_
  simp (disch := omega) only [SX0, SX1, SX2, SX3, SX4, SX5, SX6, SX7, SX8, SU0, SY0, SY1, Nat.reduceAdd, Nat.reduceMul, Nat.reduceSub, Nat.reduceLeDiff, Nat.reduceEqDiff, Nat.reduceLT, Nat.reduceBEq, ↓reduceIte, Int.reduceLE, Int.reduceLT, Int.reduceToNat, Int.reduceNeg, reduceCtorEq, Int.reduceEq, SF0, SF1, SF2, DHb0, DHb1, DHa0, DCg0, DCe0, DCe1, DCe2, DDb0, DBc0, DBc1, DDe0, DKa0, DYb0, DAlh0, DLa0, SX0]
  refine acall_tell HE (by exact ⟨bor_held 5 rfl, .free _ rfl, trivial⟩) ?_
  simp (disch := omega) only [SX0, SX1, SX2, SX3, SX4, SX5, SX6, SX7, SX8, SU0, SY0, SY1, Nat.reduceAdd, Nat.reduceMul, Nat.reduceSub, Nat.reduceLeDiff, Nat.reduceEqDiff, Nat.reduceLT, Nat.reduceBEq, ↓reduceIte, Int.reduceLE, Int.reduceLT, Int.reduceToNat, Int.reduceNeg, reduceCtorEq, Int.reduceEq, SF0, SF1, SF2, DHb0, DHb1, DHa0, DCg0, DCe0, DCe1, DCe2, DDb0, DBc0, DBc1, DDe0, DKa0, DYb0, DAlh0, DLa0, SX0]
  refine br_dec (fun h => by omega) (fun h => ?_)
  simp (disch := omega) only [SX0, SX1, SX2, SX3, SX4, SX5, SX6, SX7, SX8, SU0, SY0, SY1, Nat.reduceAdd, Nat.reduceMul, Nat.reduceSub, Nat.reduceLeDiff, Nat.reduceEqDiff, Nat.reduceLT, Nat.reduceBEq, ↓reduceIte, Int.reduceLE, Int.reduceLT, Int.reduceToNat, Int.reduceNeg, reduceCtorEq, Int.reduceEq, SF0, SF1, SF2, DHb0, DHb1, DHa0, DCg0, DCe0, DCe1, DCe2, DDb0, DBc0, DBc1, DDe0, DKa0, DYb0, DAlh0, DLa0, SX0]
  exact fin_val ⟨rfl, rfl⟩

end Go.Pc
