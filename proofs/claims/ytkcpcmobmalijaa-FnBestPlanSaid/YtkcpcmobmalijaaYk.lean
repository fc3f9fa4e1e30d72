/- The best plan: the reference's BestPlan, exactly. -/
import Derived.Test.YtkcpcmobmalijaaYj
set_option linter.unusedSimpArgs false
set_option linter.unusedVariables false
namespace Go.Pc
open Go Go.Proofs

theorem tabR_get {k : Work} {vs : List Int} {H w n : Nat} (hw : w < n) : (tabR k vs H n)[w]? = some (.sl (ints (rowD k vs H w (H + 1)))) := by
  unfold tabR
  rw [List.getElem?_map, List.getElem?_range hw, Option.map_some]

theorem e_bestPlanX : Enters Try.prog 65 := enters_of Try.func65 (by kernel_rfl) (by kernel_rfl)
set_option maxRecDepth 16000 in
set_option maxHeartbeats 8000000 in
theorem bestPlanX_n (k : Work) (vs : List Int) (W H : Nat) (hv : fineV vs) (hk : k.Ps.length < 2 ^ 40) (hW16 : W ≤ 16) (hH16 : H ≤ 16) : ∀ (f w h : Nat), w + h < f → w ≤ W → h ≤ H → ACalls Try.prog 65 [.agg k.cs, .sl (ints vs), .sl ((tabR k vs H (W + 1)).map fun c => [c]), .val (.int .i64 w), .val (.int .i64 h)] [] [] (fun r L => r = .agg (bpF k vs f w h).cs ∧ L = []) := by
  obtain ⟨hvl, hvb⟩ := hv
  intro f
  induction f with
  | zero => intro w h hwh; omega
  | succ f ih =>
  intro w h hwh hw hh
  have t0 := tabR_get (k := k) (vs := vs) (H := H) (w := w) (n := W + 1) (by omega)
  have r0 := rowD_get (k := k) (vs := vs) (H := H) (w := w) (h := H + 1) (b := h) hh (by omega)
  have s0 := vt_small (k := k) hvb (w := w) (h := h) (by omega) (by omega)
  have hF : ∀ p : Plan, freeL p.cs = true := fun p => p.free
  have BP := leafValueX_c k vs w h (by omega) hk (by omega) (by omega)
  refine acalls_tm T_tt Try.func65 rfl e_bestPlanX 134 rfl (W8 _ _ _ _ _ .any .any .any (W8 .any .any .any .any .any .any .any .any (W8 .any .any .any .any .any .any .any .any (W8 .any .any .any .any .any .any .any .any (W8 .any .any .any .any .any .any .any .any (W8 .any .any .any .any .any .any .any .any (W8 .any .any .any .any .any .any .any .any (W8 .any .any .any .any .any .any .any .any (W8 .any .any .any .any .any .any .any .any (W8 .any .any .any .any .any .any .any .any (W8 .any .any .any .any .any .any .any .any (W8 .any .any .any .any .any .any .any .any (W8 .any .any .any .any .any .any .any .any (W8 .any .any .any .any .any .any .any .any (W8 .any .any .any .any .any .any .any .any (W8 .any .any .any .any .any .any .any .any (W8 .any .any .any .any .any .any .any .any [.any, .any, .any]))))))))))))))))) rfl (rv := [.cell 10 31]) rfl (sx_sound (bl := []) T_tt _ _ _ ?_)
  repeat' first | simp (disch := omega) only [SX0, SX1, SX2, SX3, SX4, SX5, SX6, SX7, SX8, SU0, SY0, SY1, Nat.reduceAdd, Nat.reduceMul, Nat.reduceSub, Nat.reduceLeDiff, Nat.reduceEqDiff, Nat.reduceLT, Nat.reduceBEq, ↓reduceIte, Int.reduceLE, Int.reduceLT, Int.reduceToNat, Int.reduceNeg, reduceCtorEq, Int.reduceEq, SF0, SF1, SF2, DHb0, DHb1, DHa0, DCg0, DCe0, DCe1, DCe2, DDb0, DBc0, DBc1, DDe0, DKa0, DYb0, DAlh0, t0, r0] | refine req (by omega) ?_
  refine br_dec (fun h1 => ?_) (fun h1 => ?_)
  · have hb : bpF k vs (f + 1) w h = .mk 0 0 0 false [] := by rw [bpF, if_pos h1]
    rw [hb]
    simp (disch := omega) only [SX0, SX1, SX2, SX3, SX4, SX5, SX6, SX7, SX8, SU0, SY0, SY1, Nat.reduceAdd, Nat.reduceMul, Nat.reduceSub, Nat.reduceLeDiff, Nat.reduceEqDiff, Nat.reduceLT, Nat.reduceBEq, ↓reduceIte, Int.reduceLE, Int.reduceLT, Int.reduceToNat, Int.reduceNeg, reduceCtorEq, Int.reduceEq, SF0, SF1, SF2, DHb0, DHb1, DHa0, DCg0, DCe0, DCe1, DCe2, DDb0, DBc0, DBc1, DDe0, DKa0, DYb0, DAlh0]
    refine fin_nrm ?_
    simp only [AV.nrm, nrmL]
    exact fin_free rfl ⟨by simp only [zeroP_cs], rfl⟩
  simp (disch := omega) only [SX0, SX1, SX2, SX3, SX4, SX5, SX6, SX7, SX8, SU0, SY0, SY1, Nat.reduceAdd, Nat.reduceMul, Nat.reduceSub, Nat.reduceLeDiff, Nat.reduceEqDiff, Nat.reduceLT, Nat.reduceBEq, ↓reduceIte, Int.reduceLE, Int.reduceLT, Int.reduceToNat, Int.reduceNeg, reduceCtorEq, Int.reduceEq, SF0, SF1, SF2, DHb0, DHb1, DHa0, DCg0, DCe0, DCe1, DCe2, DDb0, DBc0, DBc1, DDe0, DKa0, DYb0, DAlh0]
  refine acall_one BP (by simp [freeL, AV.free, Work.free]) (by simp [freeL, AV.free, Plan.free]) ?_
  repeat' first | simp (disch := omega) only [SX0, SX1, SX2, SX3, SX4, SX5, SX6, SX7, SX8, SU0, SY0, SY1, Nat.reduceAdd, Nat.reduceMul, Nat.reduceSub, Nat.reduceLeDiff, Nat.reduceEqDiff, Nat.reduceLT, Nat.reduceBEq, ↓reduceIte, Int.reduceLE, Int.reduceLT, Int.reduceToNat, Int.reduceNeg, reduceCtorEq, Int.reduceEq, SF0, SF1, SF2, DHb0, DHb1, DHa0, DCg0, DCe0, DCe1, DCe2, DDb0, DBc0, DBc1, DDe0, DKa0, DYb0, DAlh0, t0, r0] | refine req (by omega) ?_
  refine br_dec (fun h2 => ?_) (fun h2 => ?_)
  · have hb : bpF k vs (f + 1) w h = (leafS k vs w h vs.length).plan := by rw [bpF, if_neg h1, if_pos h2]
    rw [hb]
    simp (disch := omega) only [SX0, SX1, SX2, SX3, SX4, SX5, SX6, SX7, SX8, SU0, SY0, SY1, Nat.reduceAdd, Nat.reduceMul, Nat.reduceSub, Nat.reduceLeDiff, Nat.reduceEqDiff, Nat.reduceLT, Nat.reduceBEq, ↓reduceIte, Int.reduceLE, Int.reduceLT, Int.reduceToNat, Int.reduceNeg, reduceCtorEq, Int.reduceEq, SF0, SF1, SF2, DHb0, DHb1, DHa0, DCg0, DCe0, DCe1, DCe2, DDb0, DBc0, DBc1, DDe0, DKa0, DYb0, DAlh0]
    exact fin_free (by simp [AV.free, hF]) ⟨rfl, rfl⟩
  have hw1 : 1 ≤ w ∧ 1 ≤ h := by
    refine ⟨?_, ?_⟩
    · rcases Nat.eq_zero_or_pos w with e | e
      · exact absurd (vt_zero (.inl e)) h1
      · exact e
    · rcases Nat.eq_zero_or_pos h with e | e
      · exact absurd (vt_zero (.inr e)) h1
      · exact e
  have q2w : Int.tdiv (w : Int) 2 = ((w / 2 : Nat) : Int) := rfl
  have q2h : Int.tdiv (h : Int) 2 = ((h / 2 : Nat) : Int) := rfl
  have hb0 : bpF k vs (f + 1) w h = (match firstC (fun c => vt k vs c h + vt k vs (w - c) h) (vt k vs w h) (w / 2) with
    | some c => .mk 2 c 0 false [bpF k vs f c h, bpF k vs f (w - c) h]
    | none =>
      match firstC (fun c => vt k vs w c + vt k vs w (h - c)) (vt k vs w h) (h / 2) with
      | some c => .mk 3 c 0 false [bpF k vs f w c, bpF k vs f w (h - c)]
      | none => .mk 0 0 0 false []) := by rw [bpF, if_neg h1, if_neg h2]; rfl
  simp (disch := omega) only [SX0, SX1, SX2, SX3, SX4, SX5, SX6, SX7, SX8, SU0, SY0, SY1, Nat.reduceAdd, Nat.reduceMul, Nat.reduceSub, Nat.reduceLeDiff, Nat.reduceEqDiff, Nat.reduceLT, Nat.reduceBEq, ↓reduceIte, Int.reduceLE, Int.reduceLT, Int.reduceToNat, Int.reduceNeg, reduceCtorEq, Int.reduceEq, SF0, SF1, SF2, DHb0, DHb1, DHa0, DCg0, DCe0, DCe1, DCe2, DDb0, DBc0, DBc1, DDe0, DKa0, DYb0, DAlh0]
  with_reducible refine awp_loop_h (G := Nat) 14 125 (fun c => [(13, .val (.int .i64 c))]) (fun _ => [.cells k.cs, .cells [.val (.int .i64 0), .val (.int .i64 0), .val (.int .i64 0), .val (.bool false), .val (.slice none 0 0)], .cells (leafS k vs w h vs.length).plan.cs]) (fun c => (1 ≤ c ∧ c ≤ w / 2 + 1) ∧ ∀ c', 1 ≤ c' → c' < c → vt k vs c' h + vt k vs (w - c') h ≠ vt k vs w h) (fun c => w / 2 + 1 - c) 1 ⟨⟨by omega, by omega⟩, fun c' a b => by omega⟩ ?_ (fun c hc => ?_)
  · simp (disch := omega) only [SX0, SX1, SX2, SX3, SX4, SX5, SX6, SX7, SX8, SU0, SY0, SY1, Nat.reduceAdd, Nat.reduceMul, Nat.reduceSub, Nat.reduceLeDiff, Nat.reduceEqDiff, Nat.reduceLT, Nat.reduceBEq, ↓reduceIte, Int.reduceLE, Int.reduceLT, Int.reduceToNat, Int.reduceNeg, reduceCtorEq, Int.reduceEq, SF0, SF1, SF2, DHb0, DHb1, DHa0, DCg0, DCe0, DCe1, DCe2, DDb0, DBc0, DBc1, DDe0, DKa0, DYb0, DAlh0]
    (refine wk_le ?_ ?_ ?_; (focus (simp [W8, leTm, leAV, AV.under, underL, Work.under, Plan.under]; done)); (focus (simp [leL, OB.under, underL, AV.under, Work.under, Plan.under]; done)); (focus (simp; done)))
  obtain ⟨hc, hcn⟩ := hc
  refine sx_sound (bl := []) T_tt _ _ _ ?_
  simp (disch := omega) only [SX0, SX1, SX2, SX3, SX4, SX5, SX6, SX7, SX8, SU0, SY0, SY1, Nat.reduceAdd, Nat.reduceMul, Nat.reduceSub, Nat.reduceLeDiff, Nat.reduceEqDiff, Nat.reduceLT, Nat.reduceBEq, ↓reduceIte, Int.reduceLE, Int.reduceLT, Int.reduceToNat, Int.reduceNeg, reduceCtorEq, Int.reduceEq, SF0, SF1, SF2, DHb0, DHb1, DHa0, DCg0, DCe0, DCe1, DCe2, DDb0, DBc0, DBc1, DDe0, DKa0, DYb0, DAlh0, q2w]
  refine br_dec (fun h3 => ?_) (fun h3 => ?_)
  · have e1 : (w : Int) - c = ((w - c : Nat) : Int) := by omega
    have t1 := tabR_get (k := k) (vs := vs) (H := H) (w := c) (n := W + 1) (by omega)
    have t2 := tabR_get (k := k) (vs := vs) (H := H) (w := w - c) (n := W + 1) (by omega)
    have r1 := rowD_get (k := k) (vs := vs) (H := H) (w := c) (h := H + 1) (b := h) (by omega) (by omega)
    have r2 := rowD_get (k := k) (vs := vs) (H := H) (w := w - c) (h := H + 1) (b := h) (by omega) (by omega)
    have s1 := vt_small (k := k) hvb (w := c) (h := h) (by omega) (by omega)
    have s2 := vt_small (k := k) hvb (w := w - c) (h := h) (by omega) (by omega)
    simp (disch := omega) only [SX0, SX1, SX2, SX3, SX4, SX5, SX6, SX7, SX8, SU0, SY0, SY1, Nat.reduceAdd, Nat.reduceMul, Nat.reduceSub, Nat.reduceLeDiff, Nat.reduceEqDiff, Nat.reduceLT, Nat.reduceBEq, ↓reduceIte, Int.reduceLE, Int.reduceLT, Int.reduceToNat, Int.reduceNeg, reduceCtorEq, Int.reduceEq, SF0, SF1, SF2, DHb0, DHb1, DHa0, DCg0, DCe0, DCe1, DCe2, DDb0, DBc0, DBc1, DDe0, DKa0, DYb0, DAlh0]
    refine awp_drawA T_tt mixed (by decide +kernel) (by kernel_rfl) (by kernel_rfl) ?_
    repeat' first | simp (disch := omega) only [SX0, SX1, SX2, SX3, SX4, SX5, SX6, SX7, SX8, SU0, SY0, SY1, Nat.reduceAdd, Nat.reduceMul, Nat.reduceSub, Nat.reduceLeDiff, Nat.reduceEqDiff, Nat.reduceLT, Nat.reduceBEq, ↓reduceIte, Int.reduceLE, Int.reduceLT, Int.reduceToNat, Int.reduceNeg, reduceCtorEq, Int.reduceEq, SF0, SF1, SF2, DHb0, DHb1, DHa0, DCg0, DCe0, DCe1, DCe2, DDb0, DBc0, DBc1, DDe0, DKa0, DYb0, DAlh0, e1, t0, r0, t1, t2, r1, r2] | refine req (by omega) ?_
    refine br_dec (fun h4 => ?_) (fun h4 => ?_)
    · have hf := firstC_some (g := fun c => vt k vs c h + vt k vs (w - c) h) (n := w / 2) hc.1 (by omega) h4 hcn
      rw [hf] at hb0
      simp only at hb0
      rw [hb0]
      simp (disch := omega) only [SX0, SX1, SX2, SX3, SX4, SX5, SX6, SX7, SX8, SU0, SY0, SY1, Nat.reduceAdd, Nat.reduceMul, Nat.reduceSub, Nat.reduceLeDiff, Nat.reduceEqDiff, Nat.reduceLT, Nat.reduceBEq, ↓reduceIte, Int.reduceLE, Int.reduceLT, Int.reduceToNat, Int.reduceNeg, reduceCtorEq, Int.reduceEq, SF0, SF1, SF2, DHb0, DHb1, DHa0, DCg0, DCe0, DCe1, DCe2, DDb0, DBc0, DBc1, DDe0, DKa0, DYb0, DAlh0]
      refine awp_float (bl := []) T_tt mixed [0, 1] [0, 1, 2, 3, 4, 5, 6, 7, 8, 9, 10, 11, 12, 13, 14, 15, 16] [(17, [(0, .f 73), (1, .f 74), (2, .f 75), (3, .f 76), (4, .f 77), (5, .f 78), (6, .f 79), (7, .f 80), (8, .f 81), (9, .f 82), (10, .f 83), (11, .f 84), (12, .f 85), (13, .f 86), (14, .f 87), (15, .f 88), (16, .f 89)])] [] (by kernel_rfl) (by kernel_rfl) ?_
      simp (disch := omega) only [SX0, SX1, SX2, SX3, SX4, SX5, SX6, SX7, SX8, SU0, SY0, SY1, Nat.reduceAdd, Nat.reduceMul, Nat.reduceSub, Nat.reduceLeDiff, Nat.reduceEqDiff, Nat.reduceLT, Nat.reduceBEq, ↓reduceIte, Int.reduceLE, Int.reduceLT, Int.reduceToNat, Int.reduceNeg, reduceCtorEq, Int.reduceEq, SF0, SF1, SF2, DHb0, DHb1, DHa0, DCg0, DCe0, DCe1, DCe2, DDb0, DBc0, DBc1, DDe0, DKa0, DYb0, DAlh0]
      refine qc_one (ih c h (by omega) (by omega) (by omega)) (by simp [freeL, AV.free, Work.free]) ?_
      simp (disch := omega) only [SX0, SX1, SX2, SX3, SX4, SX5, SX6, SX7, SX8, SU0, SY0, SY1, Nat.reduceAdd, Nat.reduceMul, Nat.reduceSub, Nat.reduceLeDiff, Nat.reduceEqDiff, Nat.reduceLT, Nat.reduceBEq, ↓reduceIte, Int.reduceLE, Int.reduceLT, Int.reduceToNat, Int.reduceNeg, reduceCtorEq, Int.reduceEq, SF0, SF1, SF2, DHb0, DHb1, DHa0, DCg0, DCe0, DCe1, DCe2, DDb0, DBc0, DBc1, DDe0, DKa0, DYb0, DAlh0, e1]
      refine qc_one (ih (w - c) h (by omega) (by omega) (by omega)) (by simp [freeL, AV.free, Work.free]) ?_
      simp (disch := omega) only [SX0, SX1, SX2, SX3, SX4, SX5, SX6, SX7, SX8, SU0, SY0, SY1, Nat.reduceAdd, Nat.reduceMul, Nat.reduceSub, Nat.reduceLeDiff, Nat.reduceEqDiff, Nat.reduceLT, Nat.reduceBEq, ↓reduceIte, Int.reduceLE, Int.reduceLT, Int.reduceToNat, Int.reduceNeg, reduceCtorEq, Int.reduceEq, SF0, SF1, SF2, DHb0, DHb1, DHa0, DCg0, DCe0, DCe1, DCe2, DDb0, DBc0, DBc1, DDe0, DKa0, DYb0, DAlh0, SX0]
      exact fin_free (by simp [AV.free, freeL]) ⟨by rw [cutP_cs], rfl⟩
    · simp (disch := omega) only [SX0, SX1, SX2, SX3, SX4, SX5, SX6, SX7, SX8, SU0, SY0, SY1, Nat.reduceAdd, Nat.reduceMul, Nat.reduceSub, Nat.reduceLeDiff, Nat.reduceEqDiff, Nat.reduceLT, Nat.reduceBEq, ↓reduceIte, Int.reduceLE, Int.reduceLT, Int.reduceToNat, Int.reduceNeg, reduceCtorEq, Int.reduceEq, SF0, SF1, SF2, DHb0, DHb1, DHa0, DCg0, DCe0, DCe1, DCe2, DDb0, DBc0, DBc1, DDe0, DKa0, DYb0, DAlh0]
      refine ⟨c + 1, ⟨⟨by omega, by omega⟩, fun c' a b => ?_⟩, by omega, ?_⟩
      · by_cases e : c' = c
        · subst e; exact h4
        · exact hcn c' a (by omega)
      (refine wk_le ?_ ?_ ?_; (focus (simp [W8, leTm, leAV, AV.under, underL, Work.under, Plan.under]; done)); (focus (simp [leL, OB.under, underL, AV.under, Work.under, Plan.under]; done)); (focus (simp; done)))
  have hf := firstC_none (g := fun c => vt k vs c h + vt k vs (w - c) h) (t := vt k vs w h) (n := w / 2) fun c' a b => hcn c' a (by omega)
  rw [hf] at hb0
  simp only at hb0
  clear hcn
  simp (disch := omega) only [SX0, SX1, SX2, SX3, SX4, SX5, SX6, SX7, SX8, SU0, SY0, SY1, Nat.reduceAdd, Nat.reduceMul, Nat.reduceSub, Nat.reduceLeDiff, Nat.reduceEqDiff, Nat.reduceLT, Nat.reduceBEq, ↓reduceIte, Int.reduceLE, Int.reduceLT, Int.reduceToNat, Int.reduceNeg, reduceCtorEq, Int.reduceEq, SF0, SF1, SF2, DHb0, DHb1, DHa0, DCg0, DCe0, DCe1, DCe2, DDb0, DBc0, DBc1, DDe0, DKa0, DYb0, DAlh0]
  with_reducible refine awp_loop_h (G := Nat) 15 124 (fun c => [(13, .any), (14, .val (.int .i64 c))]) (fun _ => [.cells k.cs, .cells [.val (.int .i64 0), .val (.int .i64 0), .val (.int .i64 0), .val (.bool false), .val (.slice none 0 0)], .cells (leafS k vs w h vs.length).plan.cs]) (fun c => (1 ≤ c ∧ c ≤ h / 2 + 1) ∧ ∀ c', 1 ≤ c' → c' < c → vt k vs w c' + vt k vs w (h - c') ≠ vt k vs w h) (fun c => h / 2 + 1 - c) 1 ⟨⟨by omega, by omega⟩, fun c' a b => by omega⟩ ?_ (fun d hd => ?_)
  · simp (disch := omega) only [SX0, SX1, SX2, SX3, SX4, SX5, SX6, SX7, SX8, SU0, SY0, SY1, Nat.reduceAdd, Nat.reduceMul, Nat.reduceSub, Nat.reduceLeDiff, Nat.reduceEqDiff, Nat.reduceLT, Nat.reduceBEq, ↓reduceIte, Int.reduceLE, Int.reduceLT, Int.reduceToNat, Int.reduceNeg, reduceCtorEq, Int.reduceEq, SF0, SF1, SF2, DHb0, DHb1, DHa0, DCg0, DCe0, DCe1, DCe2, DDb0, DBc0, DBc1, DDe0, DKa0, DYb0, DAlh0]
    (refine wk_le ?_ ?_ ?_; (focus (simp [W8, leTm, leAV, AV.under, underL, Work.under, Plan.under]; done)); (focus (simp [leL, OB.under, underL, AV.under, Work.under, Plan.under]; done)); (focus (simp; done)))
  obtain ⟨hd, hdn⟩ := hd
  refine sx_sound (bl := []) T_tt _ _ _ ?_
  simp (disch := omega) only [SX0, SX1, SX2, SX3, SX4, SX5, SX6, SX7, SX8, SU0, SY0, SY1, Nat.reduceAdd, Nat.reduceMul, Nat.reduceSub, Nat.reduceLeDiff, Nat.reduceEqDiff, Nat.reduceLT, Nat.reduceBEq, ↓reduceIte, Int.reduceLE, Int.reduceLT, Int.reduceToNat, Int.reduceNeg, reduceCtorEq, Int.reduceEq, SF0, SF1, SF2, DHb0, DHb1, DHa0, DCg0, DCe0, DCe1, DCe2, DDb0, DBc0, DBc1, DDe0, DKa0, DYb0, DAlh0, q2h]
  refine br_dec (fun h5 => ?_) (fun h5 => ?_)
  · have e1 : (h : Int) - d = ((h - d : Nat) : Int) := by omega
    have r1 := rowD_get (k := k) (vs := vs) (H := H) (w := w) (h := H + 1) (b := d) (by omega) (by omega)
    have r2 := rowD_get (k := k) (vs := vs) (H := H) (w := w) (h := H + 1) (b := h - d) (by omega) (by omega)
    have s1 := vt_small (k := k) hvb (w := w) (h := d) (by omega) (by omega)
    have s2 := vt_small (k := k) hvb (w := w) (h := h - d) (by omega) (by omega)
    simp (disch := omega) only [SX0, SX1, SX2, SX3, SX4, SX5, SX6, SX7, SX8, SU0, SY0, SY1, Nat.reduceAdd, Nat.reduceMul, Nat.reduceSub, Nat.reduceLeDiff, Nat.reduceEqDiff, Nat.reduceLT, Nat.reduceBEq, ↓reduceIte, Int.reduceLE, Int.reduceLT, Int.reduceToNat, Int.reduceNeg, reduceCtorEq, Int.reduceEq, SF0, SF1, SF2, DHb0, DHb1, DHa0, DCg0, DCe0, DCe1, DCe2, DDb0, DBc0, DBc1, DDe0, DKa0, DYb0, DAlh0]
    refine awp_drawA T_tt mixed (by decide +kernel) (by kernel_rfl) (by kernel_rfl) ?_
    repeat' first | simp (disch := omega) only [SX0, SX1, SX2, SX3, SX4, SX5, SX6, SX7, SX8, SU0, SY0, SY1, Nat.reduceAdd, Nat.reduceMul, Nat.reduceSub, Nat.reduceLeDiff, Nat.reduceEqDiff, Nat.reduceLT, Nat.reduceBEq, ↓reduceIte, Int.reduceLE, Int.reduceLT, Int.reduceToNat, Int.reduceNeg, reduceCtorEq, Int.reduceEq, SF0, SF1, SF2, DHb0, DHb1, DHa0, DCg0, DCe0, DCe1, DCe2, DDb0, DBc0, DBc1, DDe0, DKa0, DYb0, DAlh0, e1, t0, r0, r1, r2] | refine req (by omega) ?_
    refine br_dec (fun h4 => ?_) (fun h4 => ?_)
    · have hf2 := firstC_some (g := fun c => vt k vs w c + vt k vs w (h - c)) (n := h / 2) hd.1 (by omega) h4 hdn
      rw [hf2] at hb0
      simp only at hb0
      rw [hb0]
      simp (disch := omega) only [SX0, SX1, SX2, SX3, SX4, SX5, SX6, SX7, SX8, SU0, SY0, SY1, Nat.reduceAdd, Nat.reduceMul, Nat.reduceSub, Nat.reduceLeDiff, Nat.reduceEqDiff, Nat.reduceLT, Nat.reduceBEq, ↓reduceIte, Int.reduceLE, Int.reduceLT, Int.reduceToNat, Int.reduceNeg, reduceCtorEq, Int.reduceEq, SF0, SF1, SF2, DHb0, DHb1, DHa0, DCg0, DCe0, DCe1, DCe2, DDb0, DBc0, DBc1, DDe0, DKa0, DYb0, DAlh0]
      refine awp_float (bl := []) T_tt mixed [0, 1] [0, 1, 2, 3, 4, 5, 6, 7, 8, 9, 10, 11, 12, 13, 14, 15, 16] [(17, [(0, .f 121), (1, .f 122), (2, .f 123), (3, .f 124), (4, .f 125), (5, .f 126), (6, .f 127), (7, .f 128), (8, .f 129), (9, .f 130), (10, .f 131), (11, .f 132), (12, .f 133), (13, .f 134), (14, .f 135), (15, .f 136), (16, .f 137)])] [] (by kernel_rfl) (by kernel_rfl) ?_
      simp (disch := omega) only [SX0, SX1, SX2, SX3, SX4, SX5, SX6, SX7, SX8, SU0, SY0, SY1, Nat.reduceAdd, Nat.reduceMul, Nat.reduceSub, Nat.reduceLeDiff, Nat.reduceEqDiff, Nat.reduceLT, Nat.reduceBEq, ↓reduceIte, Int.reduceLE, Int.reduceLT, Int.reduceToNat, Int.reduceNeg, reduceCtorEq, Int.reduceEq, SF0, SF1, SF2, DHb0, DHb1, DHa0, DCg0, DCe0, DCe1, DCe2, DDb0, DBc0, DBc1, DDe0, DKa0, DYb0, DAlh0]
      refine qc_one (ih w d (by omega) (by omega) (by omega)) (by simp [freeL, AV.free, Work.free]) ?_
      simp (disch := omega) only [SX0, SX1, SX2, SX3, SX4, SX5, SX6, SX7, SX8, SU0, SY0, SY1, Nat.reduceAdd, Nat.reduceMul, Nat.reduceSub, Nat.reduceLeDiff, Nat.reduceEqDiff, Nat.reduceLT, Nat.reduceBEq, ↓reduceIte, Int.reduceLE, Int.reduceLT, Int.reduceToNat, Int.reduceNeg, reduceCtorEq, Int.reduceEq, SF0, SF1, SF2, DHb0, DHb1, DHa0, DCg0, DCe0, DCe1, DCe2, DDb0, DBc0, DBc1, DDe0, DKa0, DYb0, DAlh0, e1]
      refine qc_one (ih w (h - d) (by omega) (by omega) (by omega)) (by simp [freeL, AV.free, Work.free]) ?_
      simp (disch := omega) only [SX0, SX1, SX2, SX3, SX4, SX5, SX6, SX7, SX8, SU0, SY0, SY1, Nat.reduceAdd, Nat.reduceMul, Nat.reduceSub, Nat.reduceLeDiff, Nat.reduceEqDiff, Nat.reduceLT, Nat.reduceBEq, ↓reduceIte, Int.reduceLE, Int.reduceLT, Int.reduceToNat, Int.reduceNeg, reduceCtorEq, Int.reduceEq, SF0, SF1, SF2, DHb0, DHb1, DHa0, DCg0, DCe0, DCe1, DCe2, DDb0, DBc0, DBc1, DDe0, DKa0, DYb0, DAlh0, SX0]
      exact fin_free (by simp [AV.free, freeL]) ⟨by rw [cutP_cs], rfl⟩
    · simp (disch := omega) only [SX0, SX1, SX2, SX3, SX4, SX5, SX6, SX7, SX8, SU0, SY0, SY1, Nat.reduceAdd, Nat.reduceMul, Nat.reduceSub, Nat.reduceLeDiff, Nat.reduceEqDiff, Nat.reduceLT, Nat.reduceBEq, ↓reduceIte, Int.reduceLE, Int.reduceLT, Int.reduceToNat, Int.reduceNeg, reduceCtorEq, Int.reduceEq, SF0, SF1, SF2, DHb0, DHb1, DHa0, DCg0, DCe0, DCe1, DCe2, DDb0, DBc0, DBc1, DDe0, DKa0, DYb0, DAlh0]
      refine ⟨d + 1, ⟨⟨by omega, by omega⟩, fun c' a b => ?_⟩, by omega, ?_⟩
      · by_cases e : c' = d
        · subst e; exact h4
        · exact hdn c' a (by omega)
      (refine wk_le ?_ ?_ ?_; (focus (simp [W8, leTm, leAV, AV.under, underL, Work.under, Plan.under]; done)); (focus (simp [leL, OB.under, underL, AV.under, Work.under, Plan.under]; done)); (focus (simp; done)))
  have hf2 := firstC_none (g := fun c => vt k vs w c + vt k vs w (h - c)) (t := vt k vs w h) (n := h / 2) fun c' a b => hdn c' a (by omega)
  rw [hf2] at hb0
  simp only at hb0
  rw [hb0]
  simp (disch := omega) only [SX0, SX1, SX2, SX3, SX4, SX5, SX6, SX7, SX8, SU0, SY0, SY1, Nat.reduceAdd, Nat.reduceMul, Nat.reduceSub, Nat.reduceLeDiff, Nat.reduceEqDiff, Nat.reduceLT, Nat.reduceBEq, ↓reduceIte, Int.reduceLE, Int.reduceLT, Int.reduceToNat, Int.reduceNeg, reduceCtorEq, Int.reduceEq, SF0, SF1, SF2, DHb0, DHb1, DHa0, DCg0, DCe0, DCe1, DCe2, DDb0, DBc0, DBc1, DDe0, DKa0, DYb0, DAlh0]
  refine fin_nrm ?_
  simp only [AV.nrm, nrmL]
  exact fin_free rfl ⟨by simp only [zeroP_cs], rfl⟩

theorem e_bestPlanSX : Enters Try.prog 15 := enters_of Try.func15 (by kernel_rfl) (by kernel_rfl)
set_option maxRecDepth 16000 in
set_option maxHeartbeats 4000000 in
theorem bestPlanSX_c (k : Work) (vs : List Int) (hk : k.Ps.length < 2 ^ 40) (hl : vs.length < 2 ^ 40) : ACalls Try.prog 15 [.agg k.cs, .sl (ints vs)] [] [] (fun r L => r = .tup [.agg (bestP k vs).1.cs, .val (.bool (bestP k vs).2)] ∧ L = []) := by
  refine acalls_tm T_tt Try.func15 rfl e_bestPlanSX 25 rfl (W8 _ _ .any .any .any .any .any .any (W8 .any .any .any .any .any .any .any .any (W8 .any .any .any .any .any .any .any .any [.any, .any, .any]))) rfl (rv := [.cell 4 31, .tmp 5]) rfl (sx_sound (bl := []) T_tt _ _ _ ?_)
  simp (disch := omega) only [SX0, SX1, SX2, SX3, SX4, SX5, SX6, SX7, SX8, SU0, SY0, SY1, Nat.reduceAdd, Nat.reduceMul, Nat.reduceSub, Nat.reduceLeDiff, Nat.reduceEqDiff, Nat.reduceLT, Nat.reduceBEq, ↓reduceIte, Int.reduceLE, Int.reduceLT, Int.reduceToNat, Int.reduceNeg, reduceCtorEq, Int.reduceEq, SF0, SF1, SF2, DHb0, DHb1, DHa0, DCg0, DCe0, DCe1, DCe2, DDb0, DBc0, DBc1, DDe0, DKa0, DYb0, DAlh0]
  refine acall_one (validValuesX_c k vs hk hl) (by simp [freeL, AV.free, Work.free]) rfl ?_
  simp (disch := omega) only [SX0, SX1, SX2, SX3, SX4, SX5, SX6, SX7, SX8, SU0, SY0, SY1, Nat.reduceAdd, Nat.reduceMul, Nat.reduceSub, Nat.reduceLeDiff, Nat.reduceEqDiff, Nat.reduceLT, Nat.reduceBEq, ↓reduceIte, Int.reduceLE, Int.reduceLT, Int.reduceToNat, Int.reduceNeg, reduceCtorEq, Int.reduceEq, SF0, SF1, SF2, DHb0, DHb1, DHa0, DCg0, DCe0, DCe1, DCe2, DDb0, DBc0, DBc1, DDe0, DKa0, DYb0, DAlh0]
  refine br_ndec (fun h1 => ?_) (fun h1 => ?_)
  · have e : bestP k vs = (.mk 0 0 0 false [], false) := by unfold bestP; exact if_neg fun h => h1 h.1
    rw [e]
    simp (disch := omega) only [SX0, SX1, SX2, SX3, SX4, SX5, SX6, SX7, SX8, SU0, SY0, SY1, Nat.reduceAdd, Nat.reduceMul, Nat.reduceSub, Nat.reduceLeDiff, Nat.reduceEqDiff, Nat.reduceLT, Nat.reduceBEq, ↓reduceIte, Int.reduceLE, Int.reduceLT, Int.reduceToNat, Int.reduceNeg, reduceCtorEq, Int.reduceEq, SF0, SF1, SF2, DHb0, DHb1, DHa0, DCg0, DCe0, DCe1, DCe2, DDb0, DBc0, DBc1, DDe0, DKa0, DYb0, DAlh0]
    refine fin_nrm ?_
    simp only [AV.nrm, nrmL]
    exact fin_free rfl ⟨by simp only [zeroP_cs], rfl⟩
  have hok := h1.1
  unfold Work.ok at hok
  have hwh := h1.2.1
  obtain ⟨W, hW⟩ : ∃ n : Nat, k.W = n := ⟨k.W.toNat, by omega⟩
  obtain ⟨H, hH⟩ : ∃ n : Nat, k.H = n := ⟨k.H.toNat, by omega⟩
  have V := valueTableX_c k vs W H h1.fine hk hW hH (by omega) (by omega)
  have B := bestPlanX_n k vs W H h1.fine hk (by omega) (by omega) (W + H + 1) W H (by omega) (Nat.le_refl _) (Nat.le_refl _)
  have hb : bestP k vs = if 0 ≤ (bpF k vs (W + H + 1) W H).size then (bpF k vs (W + H + 1) W H, true) else (.mk 0 0 0 false [], false) := by
    unfold bestP
    have e1 : k.W.toNat = W := by omega
    have e2 : k.H.toNat = H := by omega
    rw [e1, e2]
    by_cases h : 0 ≤ (bpF k vs (W + H + 1) W H).size
    · rw [if_pos ⟨h1, h⟩, if_pos h]
    · rw [if_neg (fun hh => h hh.2), if_neg h]
  generalize bpF k vs (W + H + 1) W H = p at *
  simp (disch := omega) only [SX0, SX1, SX2, SX3, SX4, SX5, SX6, SX7, SX8, SU0, SY0, SY1, Nat.reduceAdd, Nat.reduceMul, Nat.reduceSub, Nat.reduceLeDiff, Nat.reduceEqDiff, Nat.reduceLT, Nat.reduceBEq, ↓reduceIte, Int.reduceLE, Int.reduceLT, Int.reduceToNat, Int.reduceNeg, reduceCtorEq, Int.reduceEq, SF0, SF1, SF2, DHb0, DHb1, DHa0, DCg0, DCe0, DCe1, DCe2, DDb0, DBc0, DBc1, DDe0, DKa0, DYb0, DAlh0]
  refine awp_float (bl := []) T_tt mixed [0, 1] [0, 1, 2, 3, 4, 5, 6, 7, 8, 9] [(11, [(0, .f 12), (1, .f 13), (2, .f 14), (3, .f 15), (4, .f 16), (5, .f 17), (6, .f 18), (7, .f 19), (8, .f 20), (9, .f 21), (10, .a 6 31)])] [] (by kernel_rfl) (by kernel_rfl) ?_
  simp (disch := omega) only [SX0, SX1, SX2, SX3, SX4, SX5, SX6, SX7, SX8, SU0, SY0, SY1, Nat.reduceAdd, Nat.reduceMul, Nat.reduceSub, Nat.reduceLeDiff, Nat.reduceEqDiff, Nat.reduceLT, Nat.reduceBEq, ↓reduceIte, Int.reduceLE, Int.reduceLT, Int.reduceToNat, Int.reduceNeg, reduceCtorEq, Int.reduceEq, SF0, SF1, SF2, DHb0, DHb1, DHa0, DCg0, DCe0, DCe1, DCe2, DDb0, DBc0, DBc1, DDe0, DKa0, DYb0, DAlh0]
  refine qc_one V (by simp [freeL, AV.free, Work.free]) ?_
  simp (disch := omega) only [SX0, SX1, SX2, SX3, SX4, SX5, SX6, SX7, SX8, SU0, SY0, SY1, Nat.reduceAdd, Nat.reduceMul, Nat.reduceSub, Nat.reduceLeDiff, Nat.reduceEqDiff, Nat.reduceLT, Nat.reduceBEq, ↓reduceIte, Int.reduceLE, Int.reduceLT, Int.reduceToNat, Int.reduceNeg, reduceCtorEq, Int.reduceEq, SF0, SF1, SF2, DHb0, DHb1, DHa0, DCg0, DCe0, DCe1, DCe2, DDb0, DBc0, DBc1, DDe0, DKa0, DYb0, DAlh0, hW, hH]
  refine qc_one B (by simp [freeL, AV.free, Work.free]) ?_
  simp (disch := omega) only [SX0, SX1, SX2, SX3, SX4, SX5, SX6, SX7, SX8, SU0, SY0, SY1, Nat.reduceAdd, Nat.reduceMul, Nat.reduceSub, Nat.reduceLeDiff, Nat.reduceEqDiff, Nat.reduceLT, Nat.reduceBEq, ↓reduceIte, Int.reduceLE, Int.reduceLT, Int.reduceToNat, Int.reduceNeg, reduceCtorEq, Int.reduceEq, SF0, SF1, SF2, DHb0, DHb1, DHa0, DCg0, DCe0, DCe1, DCe2, DDb0, DBc0, DBc1, DDe0, DKa0, DYb0, DAlh0]
  refine acall_one (planSizeS_c p) (by simp [freeL, AV.free, Plan.free]) rfl ?_
  simp (disch := omega) only [SX0, SX1, SX2, SX3, SX4, SX5, SX6, SX7, SX8, SU0, SY0, SY1, Nat.reduceAdd, Nat.reduceMul, Nat.reduceSub, Nat.reduceLeDiff, Nat.reduceEqDiff, Nat.reduceLT, Nat.reduceBEq, ↓reduceIte, Int.reduceLE, Int.reduceLT, Int.reduceToNat, Int.reduceNeg, reduceCtorEq, Int.reduceEq, SF0, SF1, SF2, DHb0, DHb1, DHa0, DCg0, DCe0, DCe1, DCe2, DDb0, DBc0, DBc1, DDe0, DKa0, DYb0, DAlh0]
  refine br_dec (fun h2 => ?_) (fun h2 => ?_)
  · rw [if_neg (by omega)] at hb
    rw [hb]
    simp (disch := omega) only [SX0, SX1, SX2, SX3, SX4, SX5, SX6, SX7, SX8, SU0, SY0, SY1, Nat.reduceAdd, Nat.reduceMul, Nat.reduceSub, Nat.reduceLeDiff, Nat.reduceEqDiff, Nat.reduceLT, Nat.reduceBEq, ↓reduceIte, Int.reduceLE, Int.reduceLT, Int.reduceToNat, Int.reduceNeg, reduceCtorEq, Int.reduceEq, SF0, SF1, SF2, DHb0, DHb1, DHa0, DCg0, DCe0, DCe1, DCe2, DDb0, DBc0, DBc1, DDe0, DKa0, DYb0, DAlh0]
    refine fin_nrm ?_
    simp only [AV.nrm, nrmL]
    exact fin_free rfl ⟨by simp only [zeroP_cs], rfl⟩
  · rw [if_pos (by omega)] at hb
    rw [hb]
    simp (disch := omega) only [SX0, SX1, SX2, SX3, SX4, SX5, SX6, SX7, SX8, SU0, SY0, SY1, Nat.reduceAdd, Nat.reduceMul, Nat.reduceSub, Nat.reduceLeDiff, Nat.reduceEqDiff, Nat.reduceLT, Nat.reduceBEq, ↓reduceIte, Int.reduceLE, Int.reduceLT, Int.reduceToNat, Int.reduceNeg, reduceCtorEq, Int.reduceEq, SF0, SF1, SF2, DHb0, DHb1, DHa0, DCg0, DCe0, DCe1, DCe2, DDb0, DBc0, DBc1, DDe0, DKa0, DYb0, DAlh0]
    exact fin_free (by simp [AV.free, freeL, Plan.free]) ⟨rfl, rfl⟩

end Go.Pc
