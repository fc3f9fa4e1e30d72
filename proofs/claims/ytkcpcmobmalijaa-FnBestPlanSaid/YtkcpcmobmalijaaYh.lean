/- The best plan, exactly. -/
import Derived.Test.YtkcpcmobmalijaaYg
set_option linter.unusedSimpArgs false
set_option linter.unusedVariables false
namespace Go.Pc
open Go Go.Proofs

/-- The first one of 1 .. n at which g is t. -/
def firstC (g : Nat → Int) (t : Int) (n : Nat) : Option Nat := ((List.range n).find? fun j => decide (g (j + 1) = t)).map (· + 1)
theorem firstC_some {g : Nat → Int} {t : Int} {n c : Nat} (h1 : 1 ≤ c) (h2 : c ≤ n) (h3 : g c = t) (h4 : ∀ c', 1 ≤ c' → c' < c → g c' ≠ t) : firstC g t n = some c := by
  unfold firstC
  have : (List.range n).find? (fun j => decide (g (j + 1) = t)) = some (c - 1) := by
    rw [List.find?_range_eq_some]
    refine ⟨by simp [show c - 1 + 1 = c by omega, h3], by simp; omega, fun j hj => ?_⟩
    simpa using h4 (j + 1) (by omega) (by omega)
  rw [this]
  simp; omega
theorem firstC_none {g : Nat → Int} {t : Int} {n : Nat} (h : ∀ c, 1 ≤ c → c ≤ n → g c ≠ t) : firstC g t n = none := by
  unfold firstC
  have : (List.range n).find? (fun j => decide (g (j + 1) = t)) = none := by
    rw [List.find?_eq_none]
    intro j hj
    simpa using h (j + 1) (by omega) (by have := List.mem_range.1 hj; omega)
  rw [this]
  rfl

def bpF (k : Work) (vs : List Int) : Nat → Nat → Nat → Plan
  | 0, _, _ => .mk 0 0 0 false []
  | f + 1, w, h =>
    if vt k vs w h = 0 then .mk 0 0 0 false [] else if (leafS k vs w h vs.length).m = vt k vs w h then (leafS k vs w h vs.length).plan else
    match firstC (fun c => vt k vs c h + vt k vs (w - c) h) (vt k vs w h) (w / 2) with
    | some c => .mk 2 c 0 false [bpF k vs f c h, bpF k vs f (w - c) h]
    | none =>
      match firstC (fun c => vt k vs w c + vt k vs w (h - c)) (vt k vs w h) (h / 2) with
      | some c => .mk 3 c 0 false [bpF k vs f w c, bpF k vs f w (h - c)]
      | none => .mk 0 0 0 false []

theorem leafS_cs (s : LfS) : s.plan.cs = [.val (.int .i64 s.a), .val (.int .i64 0), .val (.int .i64 s.pa), .val (.bool s.tu), .sl []] := by simp [LfS.plan, Plan.cs_eq (Plan.mk _ _ _ _ _), Plan.op, Plan.at_, Plan.pa, Plan.tu, Plan.ks]
theorem zeroP_cs : (Plan.mk 0 0 0 false []).cs = [.val (.int .i64 0), .val (.int .i64 0), .val (.int .i64 0), .val (.bool false), .sl []] := by simp [Plan.cs_eq (Plan.mk _ _ _ _ _), Plan.op, Plan.at_, Plan.pa, Plan.tu, Plan.ks]
theorem cutP_cs (o c : Int) (x y : Plan) : (Plan.mk o c 0 false [x, y]).cs = [.val (.int .i64 o), .val (.int .i64 c), .val (.int .i64 0), .val (.bool false), .sl [x.cs, y.cs]] := by simp [Plan.cs_eq (Plan.mk _ _ _ _ _), Plan.op, Plan.at_, Plan.pa, Plan.tu, Plan.ks]

theorem e_bestPlanForX : Enters Try.prog 62 := enters_of Try.func62 (by kernel_rfl) (by kernel_rfl)
set_option maxRecDepth 16000 in
set_option maxHeartbeats 8000000 in
theorem bestPlanForX_n (k : Work) (vs : List Int) (W H : Nat) (hv : fineV vs) (hW16 : W ≤ 16) (hH16 : H ≤ 16) : ∀ (f w h : Nat), w + h < f → w ≤ W → h ≤ H → ACalls Try.prog 62 [.agg k.cs, .sl (ints vs), .ptr 0 0, .val (.int .i64 w), .val (.int .i64 h)] [.cells (tabL (tabD k vs H (W + 1) 1))] [0] (fun r L => r = .agg (bpF k vs f w h).cs ∧ L = [.cells (tabL (tabD k vs H (W + 1) 1))]) := by
  obtain ⟨hvl, hvb⟩ := hv
  intro f
  induction f with
  | zero => intro w h hwh; omega
  | succ f ih =>
  intro w h hwh hw hh
  have t0 := tabL_get (f := tabD k vs H (W + 1) 1) (w := w) (h := h) (by omega) (by omega)
  rw [tabD_in (by omega) (by omega)] at t0
  have s0 := vt_small (k := k) hvb (w := w) (h := h) (by omega) (by omega)
  have BP := bestPaneX_c k vs w h (by omega)
  refine acalls_tm T_tt Try.func62 rfl e_bestPlanForX 126 rfl (W8 _ _ _ _ _ .any .any .any (W8 .any .any .any .any .any .any .any .any (W8 .any .any .any .any .any .any .any .any (W8 .any .any .any .any .any .any .any .any (W8 .any .any .any .any .any .any .any .any (W8 .any .any .any .any .any .any .any .any (W8 .any .any .any .any .any .any .any .any (W8 .any .any .any .any .any .any .any .any (W8 .any .any .any .any .any .any .any .any (W8 .any .any .any .any .any .any .any .any (W8 .any .any .any .any .any .any .any .any (W8 .any .any .any .any .any .any .any .any (W8 .any .any .any .any .any .any .any .any (W8 .any .any .any .any .any .any .any .any (W8 .any .any .any .any .any .any .any .any (W8 .any .any .any .any .any .any .any .any [.any, .any, .any])))))))))))))))) rfl (rv := [.cell 10 31]) rfl (sx_sound (bl := []) T_tt _ _ _ ?_)
  repeat' first | simp (disch := omega) only [SX0, SX1, SX2, SX3, SX4, SX5, SX6, SX7, SX8, SU0, SY0, SY1, Nat.reduceAdd, Nat.reduceMul, Nat.reduceSub, Nat.reduceLeDiff, Nat.reduceEqDiff, Nat.reduceLT, Nat.reduceBEq, ↓reduceIte, Int.reduceLE, Int.reduceLT, Int.reduceToNat, Int.reduceNeg, reduceCtorEq, Int.reduceEq, SF0, SF1, SF2, DHb0, DHb1, DHa0, DCg0, DCe0, DCe1, DCe2, DDb0, DBc0, DBc1, DDe0, DKa0, DYb0, t0] | refine req (by omega) ?_
  refine br_dec (fun h1 => ?_) (fun h1 => ?_)
  · have hb : bpF k vs (f + 1) w h = .mk 0 0 0 false [] := by rw [bpF, if_pos h1]
    rw [hb]
    simp (disch := omega) only [SX0, SX1, SX2, SX3, SX4, SX5, SX6, SX7, SX8, SU0, SY0, SY1, Nat.reduceAdd, Nat.reduceMul, Nat.reduceSub, Nat.reduceLeDiff, Nat.reduceEqDiff, Nat.reduceLT, Nat.reduceBEq, ↓reduceIte, Int.reduceLE, Int.reduceLT, Int.reduceToNat, Int.reduceNeg, reduceCtorEq, Int.reduceEq, SF0, SF1, SF2, DHb0, DHb1, DHa0, DCg0, DCe0, DCe1, DCe2, DDb0, DBc0, DBc1, DDe0, DKa0, DYb0]
    refine fin_nrm ?_
    simp only [AV.nrm, nrmL]
    exact fin_zero (.agg (Plan.mk 0 0 0 false []).cs) (.cells (tabL (tabD k vs H (W + 1) 1))) ⟨rfl, rfl⟩ (by simp [AV.ren, renL, zeroP_cs]) (by simp [or_cells, tabL_rend]) (by simp) (by simp)
  simp (disch := omega) only [SX0, SX1, SX2, SX3, SX4, SX5, SX6, SX7, SX8, SU0, SY0, SY1, Nat.reduceAdd, Nat.reduceMul, Nat.reduceSub, Nat.reduceLeDiff, Nat.reduceEqDiff, Nat.reduceLT, Nat.reduceBEq, ↓reduceIte, Int.reduceLE, Int.reduceLT, Int.reduceToNat, Int.reduceNeg, reduceCtorEq, Int.reduceEq, SF0, SF1, SF2, DHb0, DHb1, DHa0, DCg0, DCe0, DCe1, DCe2, DDb0, DBc0, DBc1, DDe0, DKa0, DYb0]
  refine acall_own BP [] [] (by simp only [SX0, SX1, SX2, SX3, SX4, SX5, SX6, SX7, SX8, SU0, SY0, SY1, Nat.reduceAdd, Nat.reduceMul, Nat.reduceSub, Nat.reduceLeDiff, Nat.reduceEqDiff, Nat.reduceLT, Nat.reduceBEq, ↓reduceIte, Int.reduceLE, Int.reduceLT, Int.reduceToNat, Int.reduceNeg, reduceCtorEq, Int.reduceEq, SF0, SF1, SF2, DHb0, DHb1, DHa0, DCg0, DCe0, DCe1, DCe2, DDb0, DBc0, DBc1, DDe0, DKa0, DYb0, SX0]) (by decide) (by decide) (by rfl) (by simp only [SX0, SX1, SX2, SX3, SX4, SX5, SX6, SX7, SX8, SU0, SY0, SY1, Nat.reduceAdd, Nat.reduceMul, Nat.reduceSub, Nat.reduceLeDiff, Nat.reduceEqDiff, Nat.reduceLT, Nat.reduceBEq, ↓reduceIte, Int.reduceLE, Int.reduceLT, Int.reduceToNat, Int.reduceNeg, reduceCtorEq, Int.reduceEq, SF0, SF1, SF2, DHb0, DHb1, DHa0, DCg0, DCe0, DCe1, DCe2, DDb0, DBc0, DBc1, DDe0, DKa0, DYb0, SX0]) ?_
  rintro _ _ ⟨rfl, rfl⟩
  simp (disch := omega) only [SX0, SX1, SX2, SX3, SX4, SX5, SX6, SX7, SX8, SU0, SY0, SY1, Nat.reduceAdd, Nat.reduceMul, Nat.reduceSub, Nat.reduceLeDiff, Nat.reduceEqDiff, Nat.reduceLT, Nat.reduceBEq, ↓reduceIte, Int.reduceLE, Int.reduceLT, Int.reduceToNat, Int.reduceNeg, reduceCtorEq, Int.reduceEq, SF0, SF1, SF2, DHb0, DHb1, DHa0, DCg0, DCe0, DCe1, DCe2, DDb0, DBc0, DBc1, DDe0, DKa0, DYb0]
  refine br_dec (fun h2 => ?_) (fun h2 => ?_)
  · have hb : bpF k vs (f + 1) w h = (leafS k vs w h vs.length).plan := by rw [bpF, if_neg h1, if_pos h2]
    rw [hb]
    simp (disch := omega) only [SX0, SX1, SX2, SX3, SX4, SX5, SX6, SX7, SX8, SU0, SY0, SY1, Nat.reduceAdd, Nat.reduceMul, Nat.reduceSub, Nat.reduceLeDiff, Nat.reduceEqDiff, Nat.reduceLT, Nat.reduceBEq, ↓reduceIte, Int.reduceLE, Int.reduceLT, Int.reduceToNat, Int.reduceNeg, reduceCtorEq, Int.reduceEq, SF0, SF1, SF2, DHb0, DHb1, DHa0, DCg0, DCe0, DCe1, DCe2, DDb0, DBc0, DBc1, DDe0, DKa0, DYb0]
    exact fin_zero (.agg (leafS k vs w h vs.length).plan.cs) (.cells (tabL (tabD k vs H (W + 1) 1))) ⟨rfl, rfl⟩ (by simp [AV.ren, Plan.rend]) (by simp [or_cells, tabL_rend]) (by simp) (by simp)
  have hw1 : 1 ≤ w ∧ 1 ≤ h := by
    refine ⟨?_, ?_⟩
    · rcases Nat.eq_zero_or_pos w with e | e
      · exact absurd (vt_zero (.inl e)) h1
      · exact e
    · rcases Nat.eq_zero_or_pos h with e | e
      · exact absurd (vt_zero (.inr e)) h1
      · exact e
  have q2w : Int.tdiv (w : Int) 2 = ((w / 2 : Nat) : Int) := rfl
  have q2h : Int.tdiv (h : Int) 2 = ((h / 2 : Nat) : Int) := rfl
  have hb0 : bpF k vs (f + 1) w h = (match firstC (fun c => vt k vs c h + vt k vs (w - c) h) (vt k vs w h) (w / 2) with
    | some c => .mk 2 c 0 false [bpF k vs f c h, bpF k vs f (w - c) h]
    | none =>
      match firstC (fun c => vt k vs w c + vt k vs w (h - c)) (vt k vs w h) (h / 2) with
      | some c => .mk 3 c 0 false [bpF k vs f w c, bpF k vs f w (h - c)]
      | none => .mk 0 0 0 false []) := by rw [bpF, if_neg h1, if_neg h2]
  simp (disch := omega) only [SX0, SX1, SX2, SX3, SX4, SX5, SX6, SX7, SX8, SU0, SY0, SY1, Nat.reduceAdd, Nat.reduceMul, Nat.reduceSub, Nat.reduceLeDiff, Nat.reduceEqDiff, Nat.reduceLT, Nat.reduceBEq, ↓reduceIte, Int.reduceLE, Int.reduceLT, Int.reduceToNat, Int.reduceNeg, reduceCtorEq, Int.reduceEq, SF0, SF1, SF2, DHb0, DHb1, DHa0, DCg0, DCe0, DCe1, DCe2, DDb0, DBc0, DBc1, DDe0, DKa0, DYb0]
  with_reducible refine awp_loop_h (G := Nat) 14 117 (fun c => [(14, .val (.int .i64 c))]) (fun _ => [.cells (tabL (tabD k vs H (W + 1) 1)), .cells k.cs, .cells [.val (.int .i64 0), .val (.int .i64 0), .val (.int .i64 0), .val (.bool false), .val (.slice none 0 0)], .cells (leafS k vs w h vs.length).plan.cs]) (fun c => (1 ≤ c ∧ c ≤ w / 2 + 1) ∧ ∀ c', 1 ≤ c' → c' < c → vt k vs c' h + vt k vs (w - c') h ≠ vt k vs w h) (fun c => w / 2 + 1 - c) 1 ⟨⟨by omega, by omega⟩, fun c' a b => by omega⟩ ?_ (fun c hc => ?_)
  · simp (disch := omega) only [SX0, SX1, SX2, SX3, SX4, SX5, SX6, SX7, SX8, SU0, SY0, SY1, Nat.reduceAdd, Nat.reduceMul, Nat.reduceSub, Nat.reduceLeDiff, Nat.reduceEqDiff, Nat.reduceLT, Nat.reduceBEq, ↓reduceIte, Int.reduceLE, Int.reduceLT, Int.reduceToNat, Int.reduceNeg, reduceCtorEq, Int.reduceEq, SF0, SF1, SF2, DHb0, DHb1, DHa0, DCg0, DCe0, DCe1, DCe2, DDb0, DBc0, DBc1, DDe0, DKa0, DYb0]
    (refine wk_le ?_ ?_ ?_; (focus (simp [W8, leTm, leAV, AV.under, underL, Work.under, tabL_under, Plan.under]; done)); (focus (simp [leL, OB.under, underL, AV.under, Work.under, tabL_under, Plan.under]; done)); (focus (simp; done)))
  obtain ⟨hc, hcn⟩ := hc
  refine sx_sound (bl := []) T_tt _ _ _ ?_
  simp (disch := omega) only [SX0, SX1, SX2, SX3, SX4, SX5, SX6, SX7, SX8, SU0, SY0, SY1, Nat.reduceAdd, Nat.reduceMul, Nat.reduceSub, Nat.reduceLeDiff, Nat.reduceEqDiff, Nat.reduceLT, Nat.reduceBEq, ↓reduceIte, Int.reduceLE, Int.reduceLT, Int.reduceToNat, Int.reduceNeg, reduceCtorEq, Int.reduceEq, SF0, SF1, SF2, DHb0, DHb1, DHa0, DCg0, DCe0, DCe1, DCe2, DDb0, DBc0, DBc1, DDe0, DKa0, DYb0, q2w]
  refine br_dec (fun h3 => ?_) (fun h3 => ?_)
  · have e1 : (w : Int) - c = ((w - c : Nat) : Int) := by omega
    have t1 := tabL_get (f := tabD k vs H (W + 1) 1) (w := c) (h := h) (by omega) (by omega)
    have t2 := tabL_get (f := tabD k vs H (W + 1) 1) (w := w - c) (h := h) (by omega) (by omega)
    rw [tabD_in (by omega) (by omega)] at t1 t2
    have s1 := vt_small (k := k) hvb (w := c) (h := h) (by omega) (by omega)
    have s2 := vt_small (k := k) hvb (w := w - c) (h := h) (by omega) (by omega)
    simp (disch := omega) only [SX0, SX1, SX2, SX3, SX4, SX5, SX6, SX7, SX8, SU0, SY0, SY1, Nat.reduceAdd, Nat.reduceMul, Nat.reduceSub, Nat.reduceLeDiff, Nat.reduceEqDiff, Nat.reduceLT, Nat.reduceBEq, ↓reduceIte, Int.reduceLE, Int.reduceLT, Int.reduceToNat, Int.reduceNeg, reduceCtorEq, Int.reduceEq, SF0, SF1, SF2, DHb0, DHb1, DHa0, DCg0, DCe0, DCe1, DCe2, DDb0, DBc0, DBc1, DDe0, DKa0, DYb0]
    refine awp_drawA T_tt mixed (by decide +kernel) (by kernel_rfl) (by kernel_rfl) ?_
    repeat' first | simp (disch := omega) only [SX0, SX1, SX2, SX3, SX4, SX5, SX6, SX7, SX8, SU0, SY0, SY1, Nat.reduceAdd, Nat.reduceMul, Nat.reduceSub, Nat.reduceLeDiff, Nat.reduceEqDiff, Nat.reduceLT, Nat.reduceBEq, ↓reduceIte, Int.reduceLE, Int.reduceLT, Int.reduceToNat, Int.reduceNeg, reduceCtorEq, Int.reduceEq, SF0, SF1, SF2, DHb0, DHb1, DHa0, DCg0, DCe0, DCe1, DCe2, DDb0, DBc0, DBc1, DDe0, DKa0, DYb0, e1, t1, t2] | refine req (by omega) ?_
    refine br_dec (fun h4 => ?_) (fun h4 => ?_)
    · have hf := firstC_some (g := fun c => vt k vs c h + vt k vs (w - c) h) (n := w / 2) hc.1 (by omega) h4 hcn
      rw [hf] at hb0
      simp only at hb0
      rw [hb0]
      simp (disch := omega) only [SX0, SX1, SX2, SX3, SX4, SX5, SX6, SX7, SX8, SU0, SY0, SY1, Nat.reduceAdd, Nat.reduceMul, Nat.reduceSub, Nat.reduceLeDiff, Nat.reduceEqDiff, Nat.reduceLT, Nat.reduceBEq, ↓reduceIte, Int.reduceLE, Int.reduceLT, Int.reduceToNat, Int.reduceNeg, reduceCtorEq, Int.reduceEq, SF0, SF1, SF2, DHb0, DHb1, DHa0, DCg0, DCe0, DCe1, DCe2, DDb0, DBc0, DBc1, DDe0, DKa0, DYb0]
      refine acall_own (ih c h (by omega) (by omega) (by omega)) [0] [] (by simp only [SX0, SX1, SX2, SX3, SX4, SX5, SX6, SX7, SX8, SU0, SY0, SY1, Nat.reduceAdd, Nat.reduceMul, Nat.reduceSub, Nat.reduceLeDiff, Nat.reduceEqDiff, Nat.reduceLT, Nat.reduceBEq, ↓reduceIte, Int.reduceLE, Int.reduceLT, Int.reduceToNat, Int.reduceNeg, reduceCtorEq, Int.reduceEq, SF0, SF1, SF2, DHb0, DHb1, DHa0, DCg0, DCe0, DCe1, DCe2, DDb0, DBc0, DBc1, DDe0, DKa0, DYb0, SX0]) (by decide) (by decide) (by rfl) (by simp only [SX0, SX1, SX2, SX3, SX4, SX5, SX6, SX7, SX8, SU0, SY0, SY1, Nat.reduceAdd, Nat.reduceMul, Nat.reduceSub, Nat.reduceLeDiff, Nat.reduceEqDiff, Nat.reduceLT, Nat.reduceBEq, ↓reduceIte, Int.reduceLE, Int.reduceLT, Int.reduceToNat, Int.reduceNeg, reduceCtorEq, Int.reduceEq, SF0, SF1, SF2, DHb0, DHb1, DHa0, DCg0, DCe0, DCe1, DCe2, DDb0, DBc0, DBc1, DDe0, DKa0, DYb0, SX0]) ?_
      rintro _ _ ⟨rfl, rfl⟩
      simp (disch := omega) only [SX0, SX1, SX2, SX3, SX4, SX5, SX6, SX7, SX8, SU0, SY0, SY1, Nat.reduceAdd, Nat.reduceMul, Nat.reduceSub, Nat.reduceLeDiff, Nat.reduceEqDiff, Nat.reduceLT, Nat.reduceBEq, ↓reduceIte, Int.reduceLE, Int.reduceLT, Int.reduceToNat, Int.reduceNeg, reduceCtorEq, Int.reduceEq, SF0, SF1, SF2, DHb0, DHb1, DHa0, DCg0, DCe0, DCe1, DCe2, DDb0, DBc0, DBc1, DDe0, DKa0, DYb0, e1]
      refine acall_own (ih (w - c) h (by omega) (by omega) (by omega)) [0] [] (by simp only [SX0, SX1, SX2, SX3, SX4, SX5, SX6, SX7, SX8, SU0, SY0, SY1, Nat.reduceAdd, Nat.reduceMul, Nat.reduceSub, Nat.reduceLeDiff, Nat.reduceEqDiff, Nat.reduceLT, Nat.reduceBEq, ↓reduceIte, Int.reduceLE, Int.reduceLT, Int.reduceToNat, Int.reduceNeg, reduceCtorEq, Int.reduceEq, SF0, SF1, SF2, DHb0, DHb1, DHa0, DCg0, DCe0, DCe1, DCe2, DDb0, DBc0, DBc1, DDe0, DKa0, DYb0, SX0]) (by decide) (by decide) (by rfl) (by simp only [SX0, SX1, SX2, SX3, SX4, SX5, SX6, SX7, SX8, SU0, SY0, SY1, Nat.reduceAdd, Nat.reduceMul, Nat.reduceSub, Nat.reduceLeDiff, Nat.reduceEqDiff, Nat.reduceLT, Nat.reduceBEq, ↓reduceIte, Int.reduceLE, Int.reduceLT, Int.reduceToNat, Int.reduceNeg, reduceCtorEq, Int.reduceEq, SF0, SF1, SF2, DHb0, DHb1, DHa0, DCg0, DCe0, DCe1, DCe2, DDb0, DBc0, DBc1, DDe0, DKa0, DYb0, SX0]) ?_
      rintro _ _ ⟨rfl, rfl⟩
      simp (disch := omega) only [SX0, SX1, SX2, SX3, SX4, SX5, SX6, SX7, SX8, SU0, SY0, SY1, Nat.reduceAdd, Nat.reduceMul, Nat.reduceSub, Nat.reduceLeDiff, Nat.reduceEqDiff, Nat.reduceLT, Nat.reduceBEq, ↓reduceIte, Int.reduceLE, Int.reduceLT, Int.reduceToNat, Int.reduceNeg, reduceCtorEq, Int.reduceEq, SF0, SF1, SF2, DHb0, DHb1, DHa0, DCg0, DCe0, DCe1, DCe2, DDb0, DBc0, DBc1, DDe0, DKa0, DYb0]
      exact fin_zero (.agg (Plan.mk 2 c 0 false [bpF k vs f c h, bpF k vs f (w - c) h]).cs) (.cells (tabL (tabD k vs H (W + 1) 1))) ⟨rfl, rfl⟩ (by simp [AV.ren, renL, cutP_cs]) (by simp [or_cells, tabL_rend]) (by simp) (by simp)
    · simp (disch := omega) only [SX0, SX1, SX2, SX3, SX4, SX5, SX6, SX7, SX8, SU0, SY0, SY1, Nat.reduceAdd, Nat.reduceMul, Nat.reduceSub, Nat.reduceLeDiff, Nat.reduceEqDiff, Nat.reduceLT, Nat.reduceBEq, ↓reduceIte, Int.reduceLE, Int.reduceLT, Int.reduceToNat, Int.reduceNeg, reduceCtorEq, Int.reduceEq, SF0, SF1, SF2, DHb0, DHb1, DHa0, DCg0, DCe0, DCe1, DCe2, DDb0, DBc0, DBc1, DDe0, DKa0, DYb0]
      refine ⟨c + 1, ⟨by omega, fun c' a b => ?_⟩, by omega, ?_⟩
      · by_cases e : c' = c
        · subst e; exact h4
        · exact hcn c' a (by omega)
      (refine wk_le ?_ ?_ ?_; (focus (simp [W8, leTm, leAV, AV.under, underL, Work.under, tabL_under, Plan.under]; done)); (focus (simp [leL, OB.under, underL, AV.under, Work.under, tabL_under, Plan.under]; done)); (focus (simp; done)))
  have hf := firstC_none (g := fun c => vt k vs c h + vt k vs (w - c) h) (t := vt k vs w h) (n := w / 2) fun c' a b => hcn c' a (by omega)
  rw [hf] at hb0
  simp only at hb0
  clear hcn
  simp (disch := omega) only [SX0, SX1, SX2, SX3, SX4, SX5, SX6, SX7, SX8, SU0, SY0, SY1, Nat.reduceAdd, Nat.reduceMul, Nat.reduceSub, Nat.reduceLeDiff, Nat.reduceEqDiff, Nat.reduceLT, Nat.reduceBEq, ↓reduceIte, Int.reduceLE, Int.reduceLT, Int.reduceToNat, Int.reduceNeg, reduceCtorEq, Int.reduceEq, SF0, SF1, SF2, DHb0, DHb1, DHa0, DCg0, DCe0, DCe1, DCe2, DDb0, DBc0, DBc1, DDe0, DKa0, DYb0]
  with_reducible refine awp_loop_h (G := Nat) 14 117 (fun c => [(17, .val (.int .i64 c))]) (fun _ => [.cells (tabL (tabD k vs H (W + 1) 1)), .cells k.cs, .cells [.val (.int .i64 0), .val (.int .i64 0), .val (.int .i64 0), .val (.bool false), .val (.slice none 0 0)], .cells (leafS k vs w h vs.length).plan.cs]) (fun c => (1 ≤ c ∧ c ≤ h / 2 + 1) ∧ ∀ c', 1 ≤ c' → c' < c → vt k vs w c' + vt k vs w (h - c') ≠ vt k vs w h) (fun c => h / 2 + 1 - c) 1 ⟨⟨by omega, by omega⟩, fun c' a b => by omega⟩ ?_ (fun d hd => ?_)
  · simp (disch := omega) only [SX0, SX1, SX2, SX3, SX4, SX5, SX6, SX7, SX8, SU0, SY0, SY1, Nat.reduceAdd, Nat.reduceMul, Nat.reduceSub, Nat.reduceLeDiff, Nat.reduceEqDiff, Nat.reduceLT, Nat.reduceBEq, ↓reduceIte, Int.reduceLE, Int.reduceLT, Int.reduceToNat, Int.reduceNeg, reduceCtorEq, Int.reduceEq, SF0, SF1, SF2, DHb0, DHb1, DHa0, DCg0, DCe0, DCe1, DCe2, DDb0, DBc0, DBc1, DDe0, DKa0, DYb0]
    (refine wk_le ?_ ?_ ?_; (focus (simp [W8, leTm, leAV, AV.under, underL, Work.under, tabL_under, Plan.under]; done)); (focus (simp [leL, OB.under, underL, AV.under, Work.under, tabL_under, Plan.under]; done)); (focus (simp; done)))
  obtain ⟨hd, hdn⟩ := hd
  refine sx_sound (bl := []) T_tt _ _ _ ?_
  simp (disch := omega) only [SX0, SX1, SX2, SX3, SX4, SX5, SX6, SX7, SX8, SU0, SY0, SY1, Nat.reduceAdd, Nat.reduceMul, Nat.reduceSub, Nat.reduceLeDiff, Nat.reduceEqDiff, Nat.reduceLT, Nat.reduceBEq, ↓reduceIte, Int.reduceLE, Int.reduceLT, Int.reduceToNat, Int.reduceNeg, reduceCtorEq, Int.reduceEq, SF0, SF1, SF2, DHb0, DHb1, DHa0, DCg0, DCe0, DCe1, DCe2, DDb0, DBc0, DBc1, DDe0, DKa0, DYb0, q2h]
  refine br_dec (fun h5 => ?_) (fun h5 => ?_)
  · have e1 : (h : Int) - d = ((h - d : Nat) : Int) := by omega
    have t1 := tabL_get (f := tabD k vs H (W + 1) 1) (w := w) (h := d) (by omega) (by omega)
    have t2 := tabL_get (f := tabD k vs H (W + 1) 1) (w := w) (h := h - d) (by omega) (by omega)
    rw [tabD_in (by omega) (by omega)] at t1 t2
    have s1 := vt_small (k := k) hvb (w := w) (h := d) (by omega) (by omega)
    have s2 := vt_small (k := k) hvb (w := w) (h := h - d) (by omega) (by omega)
    simp (disch := omega) only [SX0, SX1, SX2, SX3, SX4, SX5, SX6, SX7, SX8, SU0, SY0, SY1, Nat.reduceAdd, Nat.reduceMul, Nat.reduceSub, Nat.reduceLeDiff, Nat.reduceEqDiff, Nat.reduceLT, Nat.reduceBEq, ↓reduceIte, Int.reduceLE, Int.reduceLT, Int.reduceToNat, Int.reduceNeg, reduceCtorEq, Int.reduceEq, SF0, SF1, SF2, DHb0, DHb1, DHa0, DCg0, DCe0, DCe1, DCe2, DDb0, DBc0, DBc1, DDe0, DKa0, DYb0]
    refine awp_drawA T_tt mixed (by decide +kernel) (by kernel_rfl) (by kernel_rfl) ?_
    repeat' first | simp (disch := omega) only [SX0, SX1, SX2, SX3, SX4, SX5, SX6, SX7, SX8, SU0, SY0, SY1, Nat.reduceAdd, Nat.reduceMul, Nat.reduceSub, Nat.reduceLeDiff, Nat.reduceEqDiff, Nat.reduceLT, Nat.reduceBEq, ↓reduceIte, Int.reduceLE, Int.reduceLT, Int.reduceToNat, Int.reduceNeg, reduceCtorEq, Int.reduceEq, SF0, SF1, SF2, DHb0, DHb1, DHa0, DCg0, DCe0, DCe1, DCe2, DDb0, DBc0, DBc1, DDe0, DKa0, DYb0, e1, t1, t2] | refine req (by omega) ?_
    refine br_dec (fun h4 => ?_) (fun h4 => ?_)
    · have hf2 := firstC_some (g := fun c => vt k vs w c + vt k vs w (h - c)) (n := h / 2) hd.1 (by omega) h4 hdn
      rw [hf2] at hb0
      simp only at hb0
      rw [hb0]
      simp (disch := omega) only [SX0, SX1, SX2, SX3, SX4, SX5, SX6, SX7, SX8, SU0, SY0, SY1, Nat.reduceAdd, Nat.reduceMul, Nat.reduceSub, Nat.reduceLeDiff, Nat.reduceEqDiff, Nat.reduceLT, Nat.reduceBEq, ↓reduceIte, Int.reduceLE, Int.reduceLT, Int.reduceToNat, Int.reduceNeg, reduceCtorEq, Int.reduceEq, SF0, SF1, SF2, DHb0, DHb1, DHa0, DCg0, DCe0, DCe1, DCe2, DDb0, DBc0, DBc1, DDe0, DKa0, DYb0]
      refine acall_own (ih w d (by omega) (by omega) (by omega)) [0] [] (by simp only [SX0, SX1, SX2, SX3, SX4, SX5, SX6, SX7, SX8, SU0, SY0, SY1, Nat.reduceAdd, Nat.reduceMul, Nat.reduceSub, Nat.reduceLeDiff, Nat.reduceEqDiff, Nat.reduceLT, Nat.reduceBEq, ↓reduceIte, Int.reduceLE, Int.reduceLT, Int.reduceToNat, Int.reduceNeg, reduceCtorEq, Int.reduceEq, SF0, SF1, SF2, DHb0, DHb1, DHa0, DCg0, DCe0, DCe1, DCe2, DDb0, DBc0, DBc1, DDe0, DKa0, DYb0, SX0]) (by decide) (by decide) (by rfl) (by simp only [SX0, SX1, SX2, SX3, SX4, SX5, SX6, SX7, SX8, SU0, SY0, SY1, Nat.reduceAdd, Nat.reduceMul, Nat.reduceSub, Nat.reduceLeDiff, Nat.reduceEqDiff, Nat.reduceLT, Nat.reduceBEq, ↓reduceIte, Int.reduceLE, Int.reduceLT, Int.reduceToNat, Int.reduceNeg, reduceCtorEq, Int.reduceEq, SF0, SF1, SF2, DHb0, DHb1, DHa0, DCg0, DCe0, DCe1, DCe2, DDb0, DBc0, DBc1, DDe0, DKa0, DYb0, SX0]) ?_
      rintro _ _ ⟨rfl, rfl⟩
      simp (disch := omega) only [SX0, SX1, SX2, SX3, SX4, SX5, SX6, SX7, SX8, SU0, SY0, SY1, Nat.reduceAdd, Nat.reduceMul, Nat.reduceSub, Nat.reduceLeDiff, Nat.reduceEqDiff, Nat.reduceLT, Nat.reduceBEq, ↓reduceIte, Int.reduceLE, Int.reduceLT, Int.reduceToNat, Int.reduceNeg, reduceCtorEq, Int.reduceEq, SF0, SF1, SF2, DHb0, DHb1, DHa0, DCg0, DCe0, DCe1, DCe2, DDb0, DBc0, DBc1, DDe0, DKa0, DYb0, e1]
      refine acall_own (ih w (h - d) (by omega) (by omega) (by omega)) [0] [] (by simp only [SX0, SX1, SX2, SX3, SX4, SX5, SX6, SX7, SX8, SU0, SY0, SY1, Nat.reduceAdd, Nat.reduceMul, Nat.reduceSub, Nat.reduceLeDiff, Nat.reduceEqDiff, Nat.reduceLT, Nat.reduceBEq, ↓reduceIte, Int.reduceLE, Int.reduceLT, Int.reduceToNat, Int.reduceNeg, reduceCtorEq, Int.reduceEq, SF0, SF1, SF2, DHb0, DHb1, DHa0, DCg0, DCe0, DCe1, DCe2, DDb0, DBc0, DBc1, DDe0, DKa0, DYb0, SX0]) (by decide) (by decide) (by rfl) (by simp only [SX0, SX1, SX2, SX3, SX4, SX5, SX6, SX7, SX8, SU0, SY0, SY1, Nat.reduceAdd, Nat.reduceMul, Nat.reduceSub, Nat.reduceLeDiff, Nat.reduceEqDiff, Nat.reduceLT, Nat.reduceBEq, ↓reduceIte, Int.reduceLE, Int.reduceLT, Int.reduceToNat, Int.reduceNeg, reduceCtorEq, Int.reduceEq, SF0, SF1, SF2, DHb0, DHb1, DHa0, DCg0, DCe0, DCe1, DCe2, DDb0, DBc0, DBc1, DDe0, DKa0, DYb0, SX0]) ?_
      rintro _ _ ⟨rfl, rfl⟩
      simp (disch := omega) only [SX0, SX1, SX2, SX3, SX4, SX5, SX6, SX7, SX8, SU0, SY0, SY1, Nat.reduceAdd, Nat.reduceMul, Nat.reduceSub, Nat.reduceLeDiff, Nat.reduceEqDiff, Nat.reduceLT, Nat.reduceBEq, ↓reduceIte, Int.reduceLE, Int.reduceLT, Int.reduceToNat, Int.reduceNeg, reduceCtorEq, Int.reduceEq, SF0, SF1, SF2, DHb0, DHb1, DHa0, DCg0, DCe0, DCe1, DCe2, DDb0, DBc0, DBc1, DDe0, DKa0, DYb0]
      exact fin_zero (.agg (Plan.mk 3 d 0 false [bpF k vs f w d, bpF k vs f w (h - d)]).cs) (.cells (tabL (tabD k vs H (W + 1) 1))) ⟨rfl, rfl⟩ (by simp [AV.ren, renL, cutP_cs]) (by simp [or_cells, tabL_rend]) (by simp) (by simp)
    · simp (disch := omega) only [SX0, SX1, SX2, SX3, SX4, SX5, SX6, SX7, SX8, SU0, SY0, SY1, Nat.reduceAdd, Nat.reduceMul, Nat.reduceSub, Nat.reduceLeDiff, Nat.reduceEqDiff, Nat.reduceLT, Nat.reduceBEq, ↓reduceIte, Int.reduceLE, Int.reduceLT, Int.reduceToNat, Int.reduceNeg, reduceCtorEq, Int.reduceEq, SF0, SF1, SF2, DHb0, DHb1, DHa0, DCg0, DCe0, DCe1, DCe2, DDb0, DBc0, DBc1, DDe0, DKa0, DYb0]
      refine ⟨d + 1, ⟨by omega, fun c' a b => ?_⟩, by omega, ?_⟩
      · by_cases e : c' = d
        · subst e; exact h4
        · exact hdn c' a (by omega)
      (refine wk_le ?_ ?_ ?_; (focus (simp [W8, leTm, leAV, AV.under, underL, Work.under, tabL_under, Plan.under]; done)); (focus (simp [leL, OB.under, underL, AV.under, Work.under, tabL_under, Plan.under]; done)); (focus (simp; done)))
  have hf2 := firstC_none (g := fun c => vt k vs w c + vt k vs w (h - c)) (t := vt k vs w h) (n := h / 2) fun c' a b => hdn c' a (by omega)
  rw [hf2] at hb0
  simp only at hb0
  rw [hb0]
  simp (disch := omega) only [SX0, SX1, SX2, SX3, SX4, SX5, SX6, SX7, SX8, SU0, SY0, SY1, Nat.reduceAdd, Nat.reduceMul, Nat.reduceSub, Nat.reduceLeDiff, Nat.reduceEqDiff, Nat.reduceLT, Nat.reduceBEq, ↓reduceIte, Int.reduceLE, Int.reduceLT, Int.reduceToNat, Int.reduceNeg, reduceCtorEq, Int.reduceEq, SF0, SF1, SF2, DHb0, DHb1, DHa0, DCg0, DCe0, DCe1, DCe2, DDb0, DBc0, DBc1, DDe0, DKa0, DYb0]
  refine fin_nrm ?_
  simp only [AV.nrm, nrmL]
  exact fin_zero (.agg (Plan.mk 0 0 0 false []).cs) (.cells (tabL (tabD k vs H (W + 1) 1))) ⟨rfl, rfl⟩ (by simp [AV.ren, renL, zeroP_cs]) (by simp [or_cells, tabL_rend]) (by simp) (by simp)

end Go.Pc
