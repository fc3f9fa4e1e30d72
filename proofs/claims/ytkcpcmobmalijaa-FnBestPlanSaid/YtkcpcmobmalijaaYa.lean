/- The best values of plans: what the program's table holds. -/
import Derived.Test.YtkcpcmobmalijaaMx
set_option linter.unusedSimpArgs false
set_option linter.unusedVariables false
namespace Go.Pc
open Go Go.Proofs

/-- Values that may be told. -/
def fineV (vs : List Int) : Prop := vs.length ≤ 7 ∧ ∀ v ∈ vs, 1 ≤ v ∧ v ≤ 1000
/-- No pane that fills the glass is worth more. -/
def leafUp (k : Work) (vs : List Int) (w h m : Int) : Prop := ∀ (i : Nat) (tu : Bool) (v : Int), vs[i]? = some v → fills k i tu w h = true → v ≤ m

theorem e_bestPaneI : Enters Try.prog 121 := enters_of Try.func121 (by kernel_rfl) (by kernel_rfl)
set_option maxRecDepth 8000 in
set_option maxHeartbeats 4000000 in
theorem bestPaneI_c (k : Work) (vs : List Int) (w h : Int) (hv : fineV vs) : ACalls Try.prog 121 [.agg k.cs, .sl (ints vs), .val (.int .i64 w), .val (.int .i64 h)] [] [] (fun r L => ∃ (q : Plan) (m : Int), r = .tup [.agg q.cs, .val (.int .i64 m)] ∧ L = [] ∧ (0 ≤ m ∧ m ≤ 1000) ∧ leafUp k vs w h m) := by
  obtain ⟨hvl, hvb⟩ := hv
  refine acalls_tm T_tt Try.func121 rfl e_bestPaneI 45 rfl (W8 _ _ _ _ .any .any .any .any (W8 .any .any .any .any .any .any .any .any (W8 .any .any .any .any .any .any .any .any (W8 .any .any .any .any .any .any .any .any (W8 .any .any .any .any .any .any .any .any (W8 .any .any .any .any .any .any .any .any [.any])))))) rfl (rv := [.cell 8 31, .tmp 9]) rfl (sx_sound (bl := []) T_tt _ _ _ ?_)
  simp (disch := omega) only [SX0, SX1, SX2, SX3, SX4, SX5, SX6, SX7, SX8, SU0, SY0, SY1, Nat.reduceAdd, Nat.reduceMul, Nat.reduceSub, Nat.reduceLeDiff, Nat.reduceEqDiff, Nat.reduceLT, Nat.reduceBEq, ↓reduceIte, Int.reduceLE, Int.reduceLT, Int.reduceToNat, Int.reduceNeg, reduceCtorEq, Int.reduceEq, SF0, SF1, SF2, DHb0, DHb1, DHa0, DCg0, DCe0, DCe1, DCe2, DDb0, DBc0, DBc1, DDe0, DKa0]
  with_reducible refine awp_loop_h (G := Nat × Int × Int × Int × Bool) 11 38 (fun g => [(11, .val (.int .i64 g.2.1)), (17, .sl (ints vs)), (18, .val (.int .i64 vs.length)), (19, .val (.int .i64 g.1))]) (fun g => [.cells k.cs, .cells [.val (.int .i64 0), .val (.int .i64 0), .val (.int .i64 0), .val (.bool false), .val (.slice none 0 0)], .cells [.val (.int .i64 g.2.2.1), .val (.int .i64 0), .val (.int .i64 g.2.2.2.1), .val (.bool g.2.2.2.2), .val (.slice none 0 0)]]) (fun g => g.1 ≤ vs.length ∧ (0 ≤ g.2.1 ∧ g.2.1 ≤ 1000) ∧ ∀ (i : Nat) (tu : Bool) (v : Int), i < g.1 → vs[i]? = some v → fills k i tu w h = true → v ≤ g.2.1) (fun g => vs.length - g.1) (0, 0, 0, 0, false) ⟨by simp, by simp, by simp⟩ ?_ (fun g hg => ?_)
  · simp (disch := omega) only [SX0, SX1, SX2, SX3, SX4, SX5, SX6, SX7, SX8, SU0, SY0, SY1, Nat.reduceAdd, Nat.reduceMul, Nat.reduceSub, Nat.reduceLeDiff, Nat.reduceEqDiff, Nat.reduceLT, Nat.reduceBEq, ↓reduceIte, Int.reduceLE, Int.reduceLT, Int.reduceToNat, Int.reduceNeg, reduceCtorEq, Int.reduceEq, SF0, SF1, SF2, DHb0, DHb1, DHa0, DCg0, DCe0, DCe1, DCe2, DDb0, DBc0, DBc1, DDe0, DKa0]
    (refine wk_le ?_ ?_ ?_; (focus (simp [W8, leTm, leAV, AV.under, underL, Work.under]; done)); (focus (simp [leL, OB.under, underL, AV.under, Work.under]; done)); (focus (simp; done)))
  obtain ⟨i, m, a, pa, tu⟩ := g
  simp only at hg
  obtain ⟨g1, g2, g3⟩ := hg
  refine sx_sound (bl := []) T_tt _ _ _ ?_
  simp (disch := omega) only [SX0, SX1, SX2, SX3, SX4, SX5, SX6, SX7, SX8, SU0, SY0, SY1, Nat.reduceAdd, Nat.reduceMul, Nat.reduceSub, Nat.reduceLeDiff, Nat.reduceEqDiff, Nat.reduceLT, Nat.reduceBEq, ↓reduceIte, Int.reduceLE, Int.reduceLT, Int.reduceToNat, Int.reduceNeg, reduceCtorEq, Int.reduceEq, SF0, SF1, SF2, DHb0, DHb1, DHa0, DCg0, DCe0, DCe1, DCe2, DDb0, DBc0, DBc1, DDe0, DKa0]
  refine br_dec (fun h1 => ?_) (fun h1 => ?_)
  · obtain ⟨v, hv⟩ := get_lt (l := vs) (i := i) (by omega)
    have hvr := hvb v (List.mem_of_getElem? hv)
    simp (disch := omega) only [SX0, SX1, SX2, SX3, SX4, SX5, SX6, SX7, SX8, SU0, SY0, SY1, Nat.reduceAdd, Nat.reduceMul, Nat.reduceSub, Nat.reduceLeDiff, Nat.reduceEqDiff, Nat.reduceLT, Nat.reduceBEq, ↓reduceIte, Int.reduceLE, Int.reduceLT, Int.reduceToNat, Int.reduceNeg, reduceCtorEq, Int.reduceEq, SF0, SF1, SF2, DHb0, DHb1, DHa0, DCg0, DCe0, DCe1, DCe2, DDb0, DBc0, DBc1, DDe0, DKa0, hv]
    with_reducible refine awp_loop_h (G := Nat × Int × Int × Int × Bool) 27 22 (fun g => [(11, .val (.int .i64 g.2.1)), (15, .any), (26, .val (.int .i64 g.1))]) (fun g => [.cells k.cs, .cells [.val (.int .i64 0), .val (.int .i64 0), .val (.int .i64 0), .val (.bool false), .val (.slice none 0 0)], .cells [.val (.int .i64 g.2.2.1), .val (.int .i64 0), .val (.int .i64 g.2.2.2.1), .val (.bool g.2.2.2.2), .val (.slice none 0 0)]]) (fun g => g.1 ≤ 2 ∧ (m ≤ g.2.1 ∧ 0 ≤ g.2.1 ∧ g.2.1 ≤ 1000) ∧ ∀ (j : Nat), j < g.1 → fills k i (decide (j = 1)) w h = true → v ≤ g.2.1) (fun g => 2 - g.1) (0, m, a, pa, tu) ⟨by simp, ⟨by simp only []; omega, g2⟩, by simp⟩ ?_ (fun g hg => ?_)
    · simp (disch := omega) only [SX0, SX1, SX2, SX3, SX4, SX5, SX6, SX7, SX8, SU0, SY0, SY1, Nat.reduceAdd, Nat.reduceMul, Nat.reduceSub, Nat.reduceLeDiff, Nat.reduceEqDiff, Nat.reduceLT, Nat.reduceBEq, ↓reduceIte, Int.reduceLE, Int.reduceLT, Int.reduceToNat, Int.reduceNeg, reduceCtorEq, Int.reduceEq, SF0, SF1, SF2, DHb0, DHb1, DHa0, DCg0, DCe0, DCe1, DCe2, DDb0, DBc0, DBc1, DDe0, DKa0]
      (refine wk_le ?_ ?_ ?_; (focus (simp [W8, leTm, leAV, AV.under, underL, Work.under]; done)); (focus (simp [leL, OB.under, underL, AV.under, Work.under]; done)); (focus (simp; done)))
    obtain ⟨j, m2, a2, pa2, tu2⟩ := g
    simp only at hg
    obtain ⟨j1, j2, j3⟩ := hg
    refine sx_sound (bl := []) T_tt _ _ _ ?_
    simp (disch := omega) only [SX0, SX1, SX2, SX3, SX4, SX5, SX6, SX7, SX8, SU0, SY0, SY1, Nat.reduceAdd, Nat.reduceMul, Nat.reduceSub, Nat.reduceLeDiff, Nat.reduceEqDiff, Nat.reduceLT, Nat.reduceBEq, ↓reduceIte, Int.reduceLE, Int.reduceLT, Int.reduceToNat, Int.reduceNeg, reduceCtorEq, Int.reduceEq, SF0, SF1, SF2, DHb0, DHb1, DHa0, DCg0, DCe0, DCe1, DCe2, DDb0, DBc0, DBc1, DDe0, DKa0]
    refine br_dec (fun h2 => ?_) (fun h2 => ?_)
    · have hj : ([[AV.val (.bool false)], [AV.val (.bool true)]] : List (List AV))[j]? = some [.val (.bool (decide (j = 1)))] := by
        have : j = 0 ∨ j = 1 := by omega
        rcases this with rfl | rfl <;> rfl
      simp (disch := omega) only [SX0, SX1, SX2, SX3, SX4, SX5, SX6, SX7, SX8, SU0, SY0, SY1, Nat.reduceAdd, Nat.reduceMul, Nat.reduceSub, Nat.reduceLeDiff, Nat.reduceEqDiff, Nat.reduceLT, Nat.reduceBEq, ↓reduceIte, Int.reduceLE, Int.reduceLT, Int.reduceToNat, Int.reduceNeg, reduceCtorEq, Int.reduceEq, SF0, SF1, SF2, DHb0, DHb1, DHa0, DCg0, DCe0, DCe1, DCe2, DDb0, DBc0, DBc1, DDe0, DKa0, hj]
      refine br_dec (fun h3 => ?_) (fun h3 => ?_)
      · simp (disch := omega) only [SX0, SX1, SX2, SX3, SX4, SX5, SX6, SX7, SX8, SU0, SY0, SY1, Nat.reduceAdd, Nat.reduceMul, Nat.reduceSub, Nat.reduceLeDiff, Nat.reduceEqDiff, Nat.reduceLT, Nat.reduceBEq, ↓reduceIte, Int.reduceLE, Int.reduceLT, Int.reduceToNat, Int.reduceNeg, reduceCtorEq, Int.reduceEq, SF0, SF1, SF2, DHb0, DHb1, DHa0, DCg0, DCe0, DCe1, DCe2, DDb0, DBc0, DBc1, DDe0, DKa0]
        refine acall_one (paneFillsI_c k i (decide (j = 1)) w h) (by simp [freeL, AV.free, Work.free]) rfl ?_
        simp (disch := omega) only [SX0, SX1, SX2, SX3, SX4, SX5, SX6, SX7, SX8, SU0, SY0, SY1, Nat.reduceAdd, Nat.reduceMul, Nat.reduceSub, Nat.reduceLeDiff, Nat.reduceEqDiff, Nat.reduceLT, Nat.reduceBEq, ↓reduceIte, Int.reduceLE, Int.reduceLT, Int.reduceToNat, Int.reduceNeg, reduceCtorEq, Int.reduceEq, SF0, SF1, SF2, DHb0, DHb1, DHa0, DCg0, DCe0, DCe1, DCe2, DDb0, DBc0, DBc1, DDe0, DKa0]
        refine br_bool (fun h4 => ?_) (fun h4 => ?_)
        · simp (disch := omega) only [SX0, SX1, SX2, SX3, SX4, SX5, SX6, SX7, SX8, SU0, SY0, SY1, Nat.reduceAdd, Nat.reduceMul, Nat.reduceSub, Nat.reduceLeDiff, Nat.reduceEqDiff, Nat.reduceLT, Nat.reduceBEq, ↓reduceIte, Int.reduceLE, Int.reduceLT, Int.reduceToNat, Int.reduceNeg, reduceCtorEq, Int.reduceEq, SF0, SF1, SF2, DHb0, DHb1, DHa0, DCg0, DCe0, DCe1, DCe2, DDb0, DBc0, DBc1, DDe0, DKa0]
          refine ⟨(j + 1, v, 1, i, decide (j = 1)), ⟨by simp only []; omega, ⟨by simp only []; omega, by simp only []; omega, by simp only []; omega⟩, fun j' hj' _ => by simp only []; omega⟩, by simp only []; omega, ?_⟩
          (refine wk_le ?_ ?_ ?_; (focus (simp [W8, leTm, leAV, AV.under, underL, Work.under]; done)); (focus (simp [leL, OB.under, underL, AV.under, Work.under]; done)); (focus (simp; done)))
        · simp (disch := omega) only [SX0, SX1, SX2, SX3, SX4, SX5, SX6, SX7, SX8, SU0, SY0, SY1, Nat.reduceAdd, Nat.reduceMul, Nat.reduceSub, Nat.reduceLeDiff, Nat.reduceEqDiff, Nat.reduceLT, Nat.reduceBEq, ↓reduceIte, Int.reduceLE, Int.reduceLT, Int.reduceToNat, Int.reduceNeg, reduceCtorEq, Int.reduceEq, SF0, SF1, SF2, DHb0, DHb1, DHa0, DCg0, DCe0, DCe1, DCe2, DDb0, DBc0, DBc1, DDe0, DKa0]
          refine ⟨(j + 1, m2, a2, pa2, tu2), ⟨by simp only []; omega, j2, fun j' hj' hf => ?_⟩, by simp only []; omega, ?_⟩
          · by_cases e : j' = j
            · rw [e, h4] at hf; cases hf
            · exact j3 j' (by simp only [] at hj'; omega) hf
          (refine wk_le ?_ ?_ ?_; (focus (simp [W8, leTm, leAV, AV.under, underL, Work.under]; done)); (focus (simp [leL, OB.under, underL, AV.under, Work.under]; done)); (focus (simp; done)))
      · simp (disch := omega) only [SX0, SX1, SX2, SX3, SX4, SX5, SX6, SX7, SX8, SU0, SY0, SY1, Nat.reduceAdd, Nat.reduceMul, Nat.reduceSub, Nat.reduceLeDiff, Nat.reduceEqDiff, Nat.reduceLT, Nat.reduceBEq, ↓reduceIte, Int.reduceLE, Int.reduceLT, Int.reduceToNat, Int.reduceNeg, reduceCtorEq, Int.reduceEq, SF0, SF1, SF2, DHb0, DHb1, DHa0, DCg0, DCe0, DCe1, DCe2, DDb0, DBc0, DBc1, DDe0, DKa0]
        refine ⟨(j + 1, m2, a2, pa2, tu2), ⟨by simp only []; omega, j2, fun j' hj' hf => by simp only []; omega⟩, by simp only []; omega, ?_⟩
        (refine wk_le ?_ ?_ ?_; (focus (simp [W8, leTm, leAV, AV.under, underL, Work.under]; done)); (focus (simp [leL, OB.under, underL, AV.under, Work.under]; done)); (focus (simp; done)))
    · simp (disch := omega) only [SX0, SX1, SX2, SX3, SX4, SX5, SX6, SX7, SX8, SU0, SY0, SY1, Nat.reduceAdd, Nat.reduceMul, Nat.reduceSub, Nat.reduceLeDiff, Nat.reduceEqDiff, Nat.reduceLT, Nat.reduceBEq, ↓reduceIte, Int.reduceLE, Int.reduceLT, Int.reduceToNat, Int.reduceNeg, reduceCtorEq, Int.reduceEq, SF0, SF1, SF2, DHb0, DHb1, DHa0, DCg0, DCe0, DCe1, DCe2, DDb0, DBc0, DBc1, DDe0, DKa0]
      refine ⟨(i + 1, m2, a2, pa2, tu2), ⟨by simp only []; omega, j2.2, fun i' tu' v' hi' hv' hf => ?_⟩, by simp only []; omega, ?_⟩
      · by_cases e : i' = i
        · subst e
          rw [hv] at hv'; cases hv'
          cases tu'
          · exact j3 0 (by omega) hf
          · exact j3 1 (by omega) hf
        · exact Int.le_trans (g3 i' tu' v' (by simp only [] at hi'; omega) hv' hf) j2.1
      (refine wk_le ?_ ?_ ?_; (focus (simp [W8, leTm, leAV, AV.under, underL, Work.under]; done)); (focus (simp [leL, OB.under, underL, AV.under, Work.under]; done)); (focus (simp; done)))
  · simp (disch := omega) only [SX0, SX1, SX2, SX3, SX4, SX5, SX6, SX7, SX8, SU0, SY0, SY1, Nat.reduceAdd, Nat.reduceMul, Nat.reduceSub, Nat.reduceLeDiff, Nat.reduceEqDiff, Nat.reduceLT, Nat.reduceBEq, ↓reduceIte, Int.reduceLE, Int.reduceLT, Int.reduceToNat, Int.reduceNeg, reduceCtorEq, Int.reduceEq, SF0, SF1, SF2, DHb0, DHb1, DHa0, DCg0, DCe0, DCe1, DCe2, DDb0, DBc0, DBc1, DDe0, DKa0]
    refine fin_nrm ?_
    simp only [AV.nrm, nrmL]
    exact fin_free rfl ⟨.mk a 0 pa tu [], m, by simp [Plan.cs_eq (Plan.mk _ _ _ _ _), Plan.op, Plan.at_, Plan.pa, Plan.tu, Plan.ks], rfl, g2, fun i' tu' v' hv' hf => g3 i' tu' v' (by have := (List.getElem?_eq_some_iff.1 hv').1; omega) hv' hf⟩

end Go.Pc
