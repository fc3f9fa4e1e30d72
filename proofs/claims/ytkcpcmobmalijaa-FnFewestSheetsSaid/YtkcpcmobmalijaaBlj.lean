/- Fewest sheets: the reference. -/
import Derived.Test.YtkcpcmobmalijaaBli
set_option linter.unusedSimpArgs false
set_option linter.unusedVariables false
namespace Go.Pc
open Go Go.Proofs

def rowM (m : Nat → Nat) (S : Nat) : List Int := (List.range S).map fun s => (m s : Int)
theorem rowM_len (m : Nat → Nat) (S : Nat) : (rowM m S).length = S := by simp [rowM]
theorem rowM_get {m : Nat → Nat} {S s : Nat} (h : s < S) : (rowM m S)[s]? = some (m s : Int) := by
  simp only [rowM, List.getElem?_map, List.getElem?_range h, Option.map_some]
theorem rowM_next (m : Nat → Nat) (S : Nat) : rowM m (S + 1) = rowM m S ++ [(m S : Int)] := by simp [rowM, List.range_succ]
theorem tabC_getS {k : Work} {S W D a : Nat} (h : a < S) : (tabC k S W D)[a]? = some (.sl (rowC (cutB k a) W D)) := by
  unfold tabC
  rw [List.getElem?_map, List.getElem?_range h]; rfl

theorem e_sheetTableS : Enters Try.prog 92 := enters_of Try.func92 (by kernel_rfl) (by kernel_rfl)
set_option maxRecDepth 16000 in
set_option maxHeartbeats 8000000 in
theorem sheetTableS_c (k : Work) (hf : fewOk k) : ACalls Try.prog 92 [.agg k.cs] [] [] (fun r L => r = .sl (ints (rowM (mD (sheetF k)) (2 ^ k.Ps.length))) ∧ L = []) := by
  obtain ⟨e1, e2, b1, b2, b3, b4⟩ := hf.toNat
  have hn := hf.2.2.2.1
  have hD1 : k.H + 1 = ((k.H.toNat + 1 : Nat) : Int) := by omega
  have CT := cutTableS_c k k.W.toNat (k.H.toNat + 1) hf.1 e1 hD1 b2 (by omega) hn
  have hm : ∀ s, s < 2 ^ k.Ps.length → LeastD (sheetF k) s (mD (sheetF k) s) := fun s hs => (mD_ok (sheetF_one hf) hs).1
  have hm2 : ∀ s, s < 2 ^ k.Ps.length → mD (sheetF k) s ≤ k.Ps.length := fun s hs => (mD_ok (sheetF_one hf) hs).2
  have hm0 : mD (sheetF k) 0 = 0 := mD_zero _
  have hF : ∀ g, cutB k g k.W.toNat k.H.toNat = true ↔ sheetF k g := fun g => cutB_iff
  have hN1 : 1 ≤ 2 ^ k.Ps.length := Nat.one_le_two_pow
  have hN2 : 2 ^ k.Ps.length ≤ 2 ^ 4 := Nat.pow_le_pow_right (by omega) hn
  generalize hFF : sheetF k = F at *
  generalize hmm : mD F = m at *
  generalize hN : 2 ^ k.Ps.length = N at *
  generalize k.W.toNat = W at *
  generalize k.H.toNat = H at *
  refine acalls_tm T_tt Try.func92 rfl e_sheetTableS 58 rfl (W8 _ .any .any .any .any .any .any .any (W8 .any .any .any .any .any .any .any .any (W8 .any .any .any .any .any .any .any .any (W8 .any .any .any .any .any .any .any .any (W8 .any .any .any .any .any .any .any .any (W8 .any .any .any .any .any .any .any .any (W8 .any .any .any .any .any .any .any .any [.any, .any, .any]))))))) rfl (rv := [.tmp 2]) rfl (sx_sound (bl := [10]) T_tt _ _ _ ?_)
  simp (disch := omega) only [SX0, SX1, SX2, SX3, SX4, SX5, SX6, SX7, SX8, SU0, SY0, SY1, Nat.reduceAdd, Nat.reduceMul, Nat.reduceSub, Nat.reduceLeDiff, Nat.reduceEqDiff, Nat.reduceLT, Nat.reduceBEq, ↓reduceIte, Int.reduceLE, Int.reduceLT, Int.reduceToNat, Int.reduceNeg, reduceCtorEq, Int.reduceEq, SF0, SF1, SF2, DBka0, DAlh0, DHb0, DHb1, DHa0, DCg0, DCe0, DCe1, DCe2, DDb0, DBc0, DBc1, DDe0, DAlv0, DBla0]
  refine acall_one CT (by simp [freeL, AV.free, Work.free]) (by simp [freeL, AV.free]) ?_
  have lt := tabC_len k N W (H + 1)
  repeat' first | simp (disch := omega) only [SX0, SX1, SX2, SX3, SX4, SX5, SX6, SX7, SX8, SU0, SY0, SY1, Nat.reduceAdd, Nat.reduceMul, Nat.reduceSub, Nat.reduceLeDiff, Nat.reduceEqDiff, Nat.reduceLT, Nat.reduceBEq, ↓reduceIte, Int.reduceLE, Int.reduceLT, Int.reduceToNat, Int.reduceNeg, reduceCtorEq, Int.reduceEq, SF0, SF1, SF2, DBka0, DAlh0, DHb0, DHb1, DHa0, DCg0, DCe0, DCe1, DCe2, DDb0, DBc0, DBc1, DDe0, DAlv0, DBla0, lt] | refine req (by omega) ?_ | fail
  with_reducible refine awp_loop_h (G := Nat) 6 53 (fun S => [(4, .os 1 1 0 S), (5, .val (.int .i64 S))]) (fun S => [.cells k.cs, .vec 1 (ints (rowM m S))]) (fun S => 1 ≤ S ∧ S ≤ N) (fun S => N - S) 1 ⟨Nat.le_refl _, hN1⟩ ?_ (fun S hS => ?_)
  · simp (disch := omega) only [SX0, SX1, SX2, SX3, SX4, SX5, SX6, SX7, SX8, SU0, SY0, SY1, Nat.reduceAdd, Nat.reduceMul, Nat.reduceSub, Nat.reduceLeDiff, Nat.reduceEqDiff, Nat.reduceLT, Nat.reduceBEq, ↓reduceIte, Int.reduceLE, Int.reduceLT, Int.reduceToNat, Int.reduceNeg, reduceCtorEq, Int.reduceEq, SF0, SF1, SF2, DBka0, DAlh0, DHb0, DHb1, DHa0, DCg0, DCe0, DCe1, DCe2, DDb0, DBc0, DBc1, DDe0, DAlv0, DBla0]
    (refine wk_le ?_ ?_ ?_; (focus (simp [W8, leTm, leAV, AV.under, underL, Work.under, ints, rowM, hm0]; done)); (focus (simp [leL, OB.under, underL, AV.under, Work.under, ints, rowM, hm0]; done)); (focus (simp; done)))
  obtain ⟨hS1, hS2⟩ := hS
  refine sx_sound (bl := []) T_tt _ _ _ ?_
  simp (disch := omega) only [SX0, SX1, SX2, SX3, SX4, SX5, SX6, SX7, SX8, SU0, SY0, SY1, Nat.reduceAdd, Nat.reduceMul, Nat.reduceSub, Nat.reduceLeDiff, Nat.reduceEqDiff, Nat.reduceLT, Nat.reduceBEq, ↓reduceIte, Int.reduceLE, Int.reduceLT, Int.reduceToNat, Int.reduceNeg, reduceCtorEq, Int.reduceEq, SF0, SF1, SF2, DBka0, DAlh0, DHb0, DHb1, DHa0, DCg0, DCe0, DCe1, DCe2, DDb0, DBc0, DBc1, DDe0, DAlv0, DBla0, lt]
  refine br_dec (fun h1 => ?_) (fun h1 => ?_)
  · have hSN : S < N := by omega
    have lr := rowM_len m S
    simp (disch := omega) only [SX0, SX1, SX2, SX3, SX4, SX5, SX6, SX7, SX8, SU0, SY0, SY1, Nat.reduceAdd, Nat.reduceMul, Nat.reduceSub, Nat.reduceLeDiff, Nat.reduceEqDiff, Nat.reduceLT, Nat.reduceBEq, ↓reduceIte, Int.reduceLE, Int.reduceLT, Int.reduceToNat, Int.reduceNeg, reduceCtorEq, Int.reduceEq, SF0, SF1, SF2, DBka0, DAlh0, DHb0, DHb1, DHa0, DCg0, DCe0, DCe1, DCe2, DDb0, DBc0, DBc1, DDe0, DAlv0, DBla0]
    with_reducible refine awp_loop_h (G := Int × Nat) 8 51 (fun g => [(6, .val (.int .i64 g.1)), (7, .val (.int .i64 g.2))]) (fun _ => [.cells k.cs, .vec 1 (ints (rowM m S))]) (fun g => (1 ≤ g.2 ∧ g.2 ≤ S + 1) ∧ (∀ a, sub a S → 0 < a → a < g.2 → F a → g.1 ≤ m (S - a) + 1) ∧ (g.1 = k.Ps.length ∨ ∃ c : Nat, g.1 = c ∧ Div F S c) ∧ 0 ≤ g.1 ∧ g.1 ≤ k.Ps.length) (fun g => S + 1 - g.2) ((k.Ps.length : Int), 1) ⟨⟨Nat.le_refl _, by simp⟩, fun a _ p q => by simp only [] at q; omega, .inl rfl, by simp, by simp⟩ ?_ (fun g hg => ?_)
    · simp (disch := omega) only [SX0, SX1, SX2, SX3, SX4, SX5, SX6, SX7, SX8, SU0, SY0, SY1, Nat.reduceAdd, Nat.reduceMul, Nat.reduceSub, Nat.reduceLeDiff, Nat.reduceEqDiff, Nat.reduceLT, Nat.reduceBEq, ↓reduceIte, Int.reduceLE, Int.reduceLT, Int.reduceToNat, Int.reduceNeg, reduceCtorEq, Int.reduceEq, SF0, SF1, SF2, DBka0, DAlh0, DHb0, DHb1, DHa0, DCg0, DCe0, DCe1, DCe2, DDb0, DBc0, DBc1, DDe0, DAlv0, DBla0]
      (refine wk_le ?_ ?_ ?_; (focus (simp [W8, leTm, leAV, AV.under, underL, Work.under, ints]; done)); (focus (simp [leL, OB.under, underL, AV.under, Work.under, ints]; done)); (focus (simp; done)))
    obtain ⟨b, g⟩ := g
    simp only at hg
    obtain ⟨⟨hg0, hg1⟩, hg2, hg3, hg4, hg5⟩ := hg
    refine sx_sound (bl := []) T_tt _ _ _ ?_
    simp (disch := omega) only [SX0, SX1, SX2, SX3, SX4, SX5, SX6, SX7, SX8, SU0, SY0, SY1, Nat.reduceAdd, Nat.reduceMul, Nat.reduceSub, Nat.reduceLeDiff, Nat.reduceEqDiff, Nat.reduceLT, Nat.reduceBEq, ↓reduceIte, Int.reduceLE, Int.reduceLT, Int.reduceToNat, Int.reduceNeg, reduceCtorEq, Int.reduceEq, SF0, SF1, SF2, DBka0, DAlh0, DHb0, DHb1, DHa0, DCg0, DCe0, DCe1, DCe2, DDb0, DBc0, DBc1, DDe0, DAlv0, DBla0]
    refine br_dec (fun h2 => ?_) (fun h2 => ?_)
    · have gR := rowM_get (m := m) (S := S) (s := S - g) (by omega)
      have hmr := hm2 (S - g) (by omega)
      have eSg : (S : Int) - g = ((S - g : Nat) : Int) := by omega
      have keep : ¬ (sub g S ∧ F g) → ∀ a, sub a S → 0 < a → a < g + 1 → F a → b ≤ m (S - a) + 1 := fun hn a ha p hl hFa => by
        by_cases e : a = g
        · subst e; exact absurd ⟨ha, hFa⟩ hn
        · exact hg2 a ha p (by omega) hFa
      have rT := tabC_getS (k := k) (S := N) (W := W) (D := H + 1) (a := g) (by omega)
      have r0 := rowC_get (g := cutB k g) (W := W) (D := H + 1) (w := W) (h := H) (Nat.le_refl _) (by omega)
      have n0 := idx_lt (w := W) (h := H) (W := W) (D := H + 1) (Nat.le_refl _) (by omega)
      have m0 : W * (H + 1) ≤ 16 * 17 := Nat.mul_le_mul (by omega) (by omega)
      have i0 := idx_int W H (H + 1)
      have j0 : ((W * (H + 1) : Nat) : Int) + (H : Int) = ((W * (H + 1) + H : Nat) : Int) := by omega
      have jH : (H : Int) + 1 = ((H + 1 : Nat) : Int) := by omega
      have lR := rowC_len (cutB k g) W (H + 1)
      simp (disch := omega) only [SX0, SX1, SX2, SX3, SX4, SX5, SX6, SX7, SX8, SU0, SY0, SY1, Nat.reduceAdd, Nat.reduceMul, Nat.reduceSub, Nat.reduceLeDiff, Nat.reduceEqDiff, Nat.reduceLT, Nat.reduceBEq, ↓reduceIte, Int.reduceLE, Int.reduceLT, Int.reduceToNat, Int.reduceNeg, reduceCtorEq, Int.reduceEq, SF0, SF1, SF2, DBka0, DAlh0, DHb0, DHb1, DHa0, DCg0, DCe0, DCe1, DCe2, DDb0, DBc0, DBc1, DDe0, DAlv0, DBla0]
      refine awp_drawA T_tt mixed (by decide +kernel) (by kernel_rfl) (by kernel_rfl) ?_
      repeat' first | simp (disch := omega) only [SX0, SX1, SX2, SX3, SX4, SX5, SX6, SX7, SX8, SU0, SY0, SY1, Nat.reduceAdd, Nat.reduceMul, Nat.reduceSub, Nat.reduceLeDiff, Nat.reduceEqDiff, Nat.reduceLT, Nat.reduceBEq, ↓reduceIte, Int.reduceLE, Int.reduceLT, Int.reduceToNat, Int.reduceNeg, reduceCtorEq, Int.reduceEq, SF0, SF1, SF2, DBka0, DAlh0, DHb0, DHb1, DHa0, DCg0, DCe0, DCe1, DCe2, DDb0, DBc0, DBc1, DDe0, DAlv0, DBla0] | refine req (by omega) ?_ | fail
      refine qc_one (insideS_c g S (by omega) (by omega)) rfl ?_
      by_cases hsb : sub g S
      · rw [decide_eq_true hsb]
        repeat' first | simp (disch := omega) only [SX0, SX1, SX2, SX3, SX4, SX5, SX6, SX7, SX8, SU0, SY0, SY1, Nat.reduceAdd, Nat.reduceMul, Nat.reduceSub, Nat.reduceLeDiff, Nat.reduceEqDiff, Nat.reduceLT, Nat.reduceBEq, ↓reduceIte, Int.reduceLE, Int.reduceLT, Int.reduceToNat, Int.reduceNeg, reduceCtorEq, Int.reduceEq, SF0, SF1, SF2, DBka0, DAlh0, DHb0, DHb1, DHa0, DCg0, DCe0, DCe1, DCe2, DDb0, DBc0, DBc1, DDe0, DAlv0, DBla0, e1, e2, jH, i0, j0, rT, r0, lR, lt] | refine req (by omega) ?_ | fail
        refine br_bool (fun h4 => ?_) (fun h4 => ?_)
        · have hFg := (hF g).1 h4
          have hdv : Div F S (m (S - g) + 1) := .more S g _ hsb (by omega) hFg (hm (S - g) (by omega)).1
          repeat' first | simp (disch := omega) only [SX0, SX1, SX2, SX3, SX4, SX5, SX6, SX7, SX8, SU0, SY0, SY1, Nat.reduceAdd, Nat.reduceMul, Nat.reduceSub, Nat.reduceLeDiff, Nat.reduceEqDiff, Nat.reduceLT, Nat.reduceBEq, ↓reduceIte, Int.reduceLE, Int.reduceLT, Int.reduceToNat, Int.reduceNeg, reduceCtorEq, Int.reduceEq, SF0, SF1, SF2, DBka0, DAlh0, DHb0, DHb1, DHa0, DCg0, DCe0, DCe1, DCe2, DDb0, DBc0, DBc1, DDe0, DAlv0, DBla0, gR, eSg] | refine req (by omega) ?_ | fail
          refine ⟨(min b (1 + (m (S - g) : Int)), g + 1), ⟨⟨by simp only []; omega, by simp only []; omega⟩, fun a ha p hl hFa => ?_, ?_, by simp only []; omega, by simp only []; omega⟩, by simp only []; omega, ?_⟩
          · simp only at hl ⊢
            by_cases e : a = g
            · subst e; omega
            · have := hg2 a ha p (by omega) hFa; omega
          · simp only
            rcases Int.le_total b (1 + (m (S - g) : Int)) with c | c
            · rw [Int.min_eq_left c]; exact hg3
            · rw [Int.min_eq_right c]; exact .inr ⟨m (S - g) + 1, by omega, hdv⟩
          (refine wk_le ?_ ?_ ?_; (focus (simp [W8, leTm, leAV, AV.under, underL, Work.under, ints]; done)); (focus (simp [leL, OB.under, underL, AV.under, Work.under, ints]; done)); (focus (simp; done)))
        · repeat' first | simp (disch := omega) only [SX0, SX1, SX2, SX3, SX4, SX5, SX6, SX7, SX8, SU0, SY0, SY1, Nat.reduceAdd, Nat.reduceMul, Nat.reduceSub, Nat.reduceLeDiff, Nat.reduceEqDiff, Nat.reduceLT, Nat.reduceBEq, ↓reduceIte, Int.reduceLE, Int.reduceLT, Int.reduceToNat, Int.reduceNeg, reduceCtorEq, Int.reduceEq, SF0, SF1, SF2, DBka0, DAlh0, DHb0, DHb1, DHa0, DCg0, DCe0, DCe1, DCe2, DDb0, DBc0, DBc1, DDe0, DAlv0, DBla0] | refine req (by omega) ?_ | fail
          refine ⟨(b, g + 1), ⟨⟨by simp only []; omega, by simp only []; omega⟩, keep (fun hh => (by rw [(hF g).2 hh.2] at h4; exact Bool.noConfusion h4)), hg3, hg4, hg5⟩, by simp only []; omega, ?_⟩
          (refine wk_le ?_ ?_ ?_; (focus (simp [W8, leTm, leAV, AV.under, underL, Work.under, ints]; done)); (focus (simp [leL, OB.under, underL, AV.under, Work.under, ints]; done)); (focus (simp; done)))
      · rw [decide_eq_false hsb]
        repeat' first | simp (disch := omega) only [SX0, SX1, SX2, SX3, SX4, SX5, SX6, SX7, SX8, SU0, SY0, SY1, Nat.reduceAdd, Nat.reduceMul, Nat.reduceSub, Nat.reduceLeDiff, Nat.reduceEqDiff, Nat.reduceLT, Nat.reduceBEq, ↓reduceIte, Int.reduceLE, Int.reduceLT, Int.reduceToNat, Int.reduceNeg, reduceCtorEq, Int.reduceEq, SF0, SF1, SF2, DBka0, DAlh0, DHb0, DHb1, DHa0, DCg0, DCe0, DCe1, DCe2, DDb0, DBc0, DBc1, DDe0, DAlv0, DBla0] | refine req (by omega) ?_ | fail
        refine ⟨(b, g + 1), ⟨⟨by simp only []; omega, by simp only []; omega⟩, keep fun hh => hsb hh.1, hg3, hg4, hg5⟩, by simp only []; omega, ?_⟩
        (refine wk_le ?_ ?_ ?_; (focus (simp [W8, leTm, leAV, AV.under, underL, Work.under, ints]; done)); (focus (simp [leL, OB.under, underL, AV.under, Work.under, ints]; done)); (focus (simp; done)))
    · have g0 : g = S + 1 := by omega
      subst g0
      have hle0 : b ≤ m S := by
        obtain ⟨a, c, p1, p2, p3, p4, p5⟩ := (hm S hSN).1.pos (by omega)
        have q1 := hg2 a p1 p2 (by have := sub_le p1; omega) p3
        have q2 := (hm (S - a) (by omega)).2 c p4
        omega
      have hmS := hm2 S hSN
      have eb : b = m S := by
        rcases hg3 with h | ⟨c, rfl, hc⟩
        · omega
        · have := (hm S hSN).2 c hc; omega
      subst eb
      have rn := rowM_next m S
      repeat' first | simp (disch := omega) only [SX0, SX1, SX2, SX3, SX4, SX5, SX6, SX7, SX8, SU0, SY0, SY1, Nat.reduceAdd, Nat.reduceMul, Nat.reduceSub, Nat.reduceLeDiff, Nat.reduceEqDiff, Nat.reduceLT, Nat.reduceBEq, ↓reduceIte, Int.reduceLE, Int.reduceLT, Int.reduceToNat, Int.reduceNeg, reduceCtorEq, Int.reduceEq, SF0, SF1, SF2, DBka0, DAlh0, DHb0, DHb1, DHa0, DCg0, DCe0, DCe1, DCe2, DDb0, DBc0, DBc1, DDe0, DAlv0, DBla0] | refine req (by omega) ?_ | fail
      refine ⟨S + 1, ⟨by omega, by omega⟩, by omega, ?_⟩
      (refine wk_le ?_ ?_ ?_; (focus (simp [W8, leTm, leAV, AV.under, underL, Work.under, ints, rn]; done)); (focus (simp [leL, OB.under, underL, AV.under, Work.under, ints, rn]; done)); (focus (simp; done)))
  · have e : S = N := by omega
    subst e
    simp (disch := omega) only [SX0, SX1, SX2, SX3, SX4, SX5, SX6, SX7, SX8, SU0, SY0, SY1, Nat.reduceAdd, Nat.reduceMul, Nat.reduceSub, Nat.reduceLeDiff, Nat.reduceEqDiff, Nat.reduceLT, Nat.reduceBEq, ↓reduceIte, Int.reduceLE, Int.reduceLT, Int.reduceToNat, Int.reduceNeg, reduceCtorEq, Int.reduceEq, SF0, SF1, SF2, DBka0, DAlh0, DHb0, DHb1, DHa0, DCg0, DCe0, DCe1, DCe2, DDb0, DBc0, DBc1, DDe0, DAlv0, DBla0]
    exact fin_row rfl (by simp [rowM_len]) ⟨rfl, rfl⟩

theorem e_fewestSheetsS : Enters Try.prog 41 := enters_of Try.func41 (by kernel_rfl) (by kernel_rfl)
theorem fewestSheetsS_c (k : Work) (hk : k.Ps.length < 2 ^ 40) : ACalls Try.prog 41 [.agg k.cs] [] [] (fun r L => r = .val (.int .i64 (fewS k)) ∧ L = []) := by
  unfold fewS
  refine acalls_tm T_tt Try.func41 rfl e_fewestSheetsS 14 rfl (W8 _ .any .any .any .any .any .any .any [.any, .any, .any, .any, .any, .any, .any]) rfl (rv := [.tmp 2]) rfl (sx_sound (bl := []) T_tt _ _ _ ?_)
  simp (disch := omega) only [SX0, SX1, SX2, SX3, SX4, SX5, SX6, SX7, SX8, SU0, SY0, SY1, Nat.reduceAdd, Nat.reduceMul, Nat.reduceSub, Nat.reduceLeDiff, Nat.reduceEqDiff, Nat.reduceLT, Nat.reduceBEq, ↓reduceIte, Int.reduceLE, Int.reduceLT, Int.reduceToNat, Int.reduceNeg, reduceCtorEq, Int.reduceEq, SF0, SF1, SF2, DBka0, DAlh0, DHb0, DHb1, DHa0, DCg0, DCe0, DCe1, DCe2, DDb0, DBc0, DBc1, DDe0, DAlv0, DBla0]
  refine acall_one (validFewS_c k hk) (by simp [freeL, AV.free, Work.free]) rfl ?_
  by_cases h : fewOk k
  · have hN1 : 1 ≤ 2 ^ k.Ps.length := Nat.one_le_two_pow
    have hN2 : 2 ^ k.Ps.length ≤ 2 ^ 4 := Nat.pow_le_pow_right (by omega) h.2.2.2.1
    have ST := sheetTableS_c k h
    have rl := rowM_len (mD (sheetF k)) (2 ^ k.Ps.length)
    have gl := rowM_get (m := mD (sheetF k)) (S := 2 ^ k.Ps.length) (s := 2 ^ k.Ps.length - 1) (by omega)
    rw [if_pos h, decide_eq_true h]
    generalize 2 ^ k.Ps.length = N at *
    generalize rowM (mD (sheetF k)) N = R at *
    simp (disch := omega) only [SX0, SX1, SX2, SX3, SX4, SX5, SX6, SX7, SX8, SU0, SY0, SY1, Nat.reduceAdd, Nat.reduceMul, Nat.reduceSub, Nat.reduceLeDiff, Nat.reduceEqDiff, Nat.reduceLT, Nat.reduceBEq, ↓reduceIte, Int.reduceLE, Int.reduceLT, Int.reduceToNat, Int.reduceNeg, reduceCtorEq, Int.reduceEq, SF0, SF1, SF2, DBka0, DAlh0, DHb0, DHb1, DHa0, DCg0, DCe0, DCe1, DCe2, DDb0, DBc0, DBc1, DDe0, DAlv0, DBla0]
    refine acall_one ST (by simp [freeL, AV.free, Work.free]) (by simp [freeL, AV.free]) ?_
    have eN : (N : Int) - 1 = ((N - 1 : Nat) : Int) := by omega
    repeat' first | simp (disch := omega) only [SX0, SX1, SX2, SX3, SX4, SX5, SX6, SX7, SX8, SU0, SY0, SY1, Nat.reduceAdd, Nat.reduceMul, Nat.reduceSub, Nat.reduceLeDiff, Nat.reduceEqDiff, Nat.reduceLT, Nat.reduceBEq, ↓reduceIte, Int.reduceLE, Int.reduceLT, Int.reduceToNat, Int.reduceNeg, reduceCtorEq, Int.reduceEq, SF0, SF1, SF2, DBka0, DAlh0, DHb0, DHb1, DHa0, DCg0, DCe0, DCe1, DCe2, DDb0, DBc0, DBc1, DDe0, DAlv0, DBla0, rl, eN, gl] | refine req (by omega) ?_ | fail
    exact fin_val ⟨rfl, rfl⟩
  · rw [if_neg h, decide_eq_false h]
    simp (disch := omega) only [SX0, SX1, SX2, SX3, SX4, SX5, SX6, SX7, SX8, SU0, SY0, SY1, Nat.reduceAdd, Nat.reduceMul, Nat.reduceSub, Nat.reduceLeDiff, Nat.reduceEqDiff, Nat.reduceLT, Nat.reduceBEq, ↓reduceIte, Int.reduceLE, Int.reduceLT, Int.reduceToNat, Int.reduceNeg, reduceCtorEq, Int.reduceEq, SF0, SF1, SF2, DBka0, DAlh0, DHb0, DHb1, DHa0, DCg0, DCe0, DCe1, DCe2, DDb0, DBc0, DBc1, DDe0, DAlv0, DBla0]
    exact fin_val ⟨rfl, rfl⟩

end Go.Pc
