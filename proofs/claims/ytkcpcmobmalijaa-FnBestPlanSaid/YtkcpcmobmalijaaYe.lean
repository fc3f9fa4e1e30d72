/- The best pane, exactly. -/
import Derived.Test.YtkcpcmobmalijaaYa
set_option linter.unusedSimpArgs false
set_option linter.unusedVariables false
namespace Go.Pc
open Go Go.Proofs

structure LfS where
  a : Int
  pa : Int
  tu : Bool
  m : Int
def LfS.plan (s : LfS) : Plan := .mk s.a 0 s.pa s.tu []
def LfS.cs (s : LfS) : List AV := [.val (.int .i64 s.a), .val (.int .i64 0), .val (.int .i64 s.pa), .val (.bool s.tu), .val (.slice none 0 0)]
def LfS.one (k : Work) (w h : Int) (i : Nat) (v : Int) (t : Bool) (s : LfS) : LfS := if s.m < v ∧ fills k i t w h = true then ⟨1, i, t, v⟩ else s
def leafS (k : Work) (vs : List Int) (w h : Int) : Nat → LfS
  | 0 => ⟨0, 0, false, 0⟩
  | i + 1 => ((leafS k vs w h i).one k w h i (vs.getD i 0) false).one k w h i (vs.getD i 0) true
def leafJ (k : Work) (vs : List Int) (w h : Int) (i j : Nat) : LfS := if j = 0 then leafS k vs w h i else if j = 1 then (leafS k vs w h i).one k w h i (vs.getD i 0) false else leafS k vs w h (i + 1)
theorem leafJ_zero (k : Work) (vs : List Int) (w h : Int) (i : Nat) : leafJ k vs w h i 0 = leafS k vs w h i := rfl
theorem leafJ_two (k : Work) (vs : List Int) (w h : Int) (i : Nat) : leafJ k vs w h i 2 = leafS k vs w h (i + 1) := rfl
theorem leafJ_next {k : Work} {vs : List Int} {w h v : Int} {i j : Nat} (hj : j < 2) (hv : vs[i]? = some v) : leafJ k vs w h i (j + 1) = (leafJ k vs w h i j).one k w h i v (decide (j = 1)) := by
  have e : vs[i]?.getD 0 = v := by simp [hv]
  have : j = 0 ∨ j = 1 := by omega
  rcases this with rfl | rfl
  · simp [leafJ, e]
  · simp [leafJ, leafS, e]

theorem e_bestPaneX : Enters Try.prog 121 := enters_of Try.func121 (by kernel_rfl) (by kernel_rfl)
set_option maxRecDepth 8000 in
set_option maxHeartbeats 4000000 in
theorem bestPaneV_c (k : Work) (vs : List Int) (w h : Int) (hl : vs.length ≤ 1000) : ACalls Try.prog 121 [.agg k.cs, .sl (ints vs), .val (.int .i64 w), .val (.int .i64 h)] [] [] (fun r L => r = .tup [.agg (leafS k vs w h vs.length).cs, .val (.int .i64 (leafS k vs w h vs.length).m)] ∧ L = []) := by
  refine acalls_tm T_tt Try.func121 rfl e_bestPaneX 45 rfl (W8 _ _ _ _ .any .any .any .any (W8 .any .any .any .any .any .any .any .any (W8 .any .any .any .any .any .any .any .any (W8 .any .any .any .any .any .any .any .any (W8 .any .any .any .any .any .any .any .any (W8 .any .any .any .any .any .any .any .any [.any])))))) rfl (rv := [.cell 8 31, .tmp 9]) rfl (sx_sound (bl := []) T_tt _ _ _ ?_)
  simp (disch := omega) only [SX0, SX1, SX2, SX3, SX4, SX5, SX6, SX7, SX8, SU0, SY0, SY1, Nat.reduceAdd, Nat.reduceMul, Nat.reduceSub, Nat.reduceLeDiff, Nat.reduceEqDiff, Nat.reduceLT, Nat.reduceBEq, ↓reduceIte, Int.reduceLE, Int.reduceLT, Int.reduceToNat, Int.reduceNeg, reduceCtorEq, Int.reduceEq, SF0, SF1, SF2, DHb0, DHb1, DHa0, DCg0, DCe0, DCe1, DCe2, DDb0, DBc0, DBc1, DDe0, DKa0]
  with_reducible refine awp_loop_h (G := Nat) 11 38 (fun i => [(11, .val (.int .i64 (leafS k vs w h i).m)), (17, .sl (ints vs)), (18, .val (.int .i64 vs.length)), (19, .val (.int .i64 i))]) (fun i => [.cells k.cs, .cells [.val (.int .i64 0), .val (.int .i64 0), .val (.int .i64 0), .val (.bool false), .val (.slice none 0 0)], .cells (leafS k vs w h i).cs]) (fun i => i ≤ vs.length) (fun i => vs.length - i) 0 (Nat.zero_le _) ?_ (fun i hi => ?_)
  · simp (disch := omega) only [SX0, SX1, SX2, SX3, SX4, SX5, SX6, SX7, SX8, SU0, SY0, SY1, Nat.reduceAdd, Nat.reduceMul, Nat.reduceSub, Nat.reduceLeDiff, Nat.reduceEqDiff, Nat.reduceLT, Nat.reduceBEq, ↓reduceIte, Int.reduceLE, Int.reduceLT, Int.reduceToNat, Int.reduceNeg, reduceCtorEq, Int.reduceEq, SF0, SF1, SF2, DHb0, DHb1, DHa0, DCg0, DCe0, DCe1, DCe2, DDb0, DBc0, DBc1, DDe0, DKa0]
    (refine wk_le ?_ ?_ ?_; (focus (simp [W8, leTm, leAV, AV.under, underL, Work.under, leafS, LfS.cs]; done)); (focus (simp [leL, OB.under, underL, AV.under, Work.under, leafS, LfS.cs]; done)); (focus (simp; done)))
  refine sx_sound (bl := []) T_tt _ _ _ ?_
  simp (disch := omega) only [SX0, SX1, SX2, SX3, SX4, SX5, SX6, SX7, SX8, SU0, SY0, SY1, Nat.reduceAdd, Nat.reduceMul, Nat.reduceSub, Nat.reduceLeDiff, Nat.reduceEqDiff, Nat.reduceLT, Nat.reduceBEq, ↓reduceIte, Int.reduceLE, Int.reduceLT, Int.reduceToNat, Int.reduceNeg, reduceCtorEq, Int.reduceEq, SF0, SF1, SF2, DHb0, DHb1, DHa0, DCg0, DCe0, DCe1, DCe2, DDb0, DBc0, DBc1, DDe0, DKa0]
  refine br_dec (fun h1 => ?_) (fun h1 => ?_)
  · obtain ⟨v, hv⟩ := get_lt (l := vs) (i := i) (by omega)
    simp (disch := omega) only [SX0, SX1, SX2, SX3, SX4, SX5, SX6, SX7, SX8, SU0, SY0, SY1, Nat.reduceAdd, Nat.reduceMul, Nat.reduceSub, Nat.reduceLeDiff, Nat.reduceEqDiff, Nat.reduceLT, Nat.reduceBEq, ↓reduceIte, Int.reduceLE, Int.reduceLT, Int.reduceToNat, Int.reduceNeg, reduceCtorEq, Int.reduceEq, SF0, SF1, SF2, DHb0, DHb1, DHa0, DCg0, DCe0, DCe1, DCe2, DDb0, DBc0, DBc1, DDe0, DKa0, hv]
    with_reducible refine awp_loop_h (G := Nat) 27 22 (fun j => [(11, .val (.int .i64 (leafJ k vs w h i j).m)), (15, .any), (26, .val (.int .i64 j))]) (fun j => [.cells k.cs, .cells [.val (.int .i64 0), .val (.int .i64 0), .val (.int .i64 0), .val (.bool false), .val (.slice none 0 0)], .cells (leafJ k vs w h i j).cs]) (fun j => j ≤ 2) (fun j => 2 - j) 0 (Nat.zero_le _) ?_ (fun j hj => ?_)
    · simp (disch := omega) only [SX0, SX1, SX2, SX3, SX4, SX5, SX6, SX7, SX8, SU0, SY0, SY1, Nat.reduceAdd, Nat.reduceMul, Nat.reduceSub, Nat.reduceLeDiff, Nat.reduceEqDiff, Nat.reduceLT, Nat.reduceBEq, ↓reduceIte, Int.reduceLE, Int.reduceLT, Int.reduceToNat, Int.reduceNeg, reduceCtorEq, Int.reduceEq, SF0, SF1, SF2, DHb0, DHb1, DHa0, DCg0, DCe0, DCe1, DCe2, DDb0, DBc0, DBc1, DDe0, DKa0]
      (refine wk_le ?_ ?_ ?_; (focus (simp [W8, leTm, leAV, AV.under, underL, Work.under, leafJ_zero, LfS.cs]; done)); (focus (simp [leL, OB.under, underL, AV.under, Work.under, leafJ_zero, LfS.cs]; done)); (focus (simp; done)))
    refine sx_sound (bl := []) T_tt _ _ _ ?_
    simp (disch := omega) only [SX0, SX1, SX2, SX3, SX4, SX5, SX6, SX7, SX8, SU0, SY0, SY1, Nat.reduceAdd, Nat.reduceMul, Nat.reduceSub, Nat.reduceLeDiff, Nat.reduceEqDiff, Nat.reduceLT, Nat.reduceBEq, ↓reduceIte, Int.reduceLE, Int.reduceLT, Int.reduceToNat, Int.reduceNeg, reduceCtorEq, Int.reduceEq, SF0, SF1, SF2, DHb0, DHb1, DHa0, DCg0, DCe0, DCe1, DCe2, DDb0, DBc0, DBc1, DDe0, DKa0]
    refine br_dec (fun h2 => ?_) (fun h2 => ?_)
    · have hjt : ([[AV.val (.bool false)], [AV.val (.bool true)]] : List (List AV))[j]? = some [.val (.bool (decide (j = 1)))] := by
        have : j = 0 ∨ j = 1 := by omega
        rcases this with rfl | rfl <;> rfl
      have nx := leafJ_next (k := k) (w := w) (h := h) (i := i) (j := j) (by omega) hv
      unfold LfS.one at nx
      generalize leafJ k vs w h i j = s0 at *
      simp (disch := omega) only [SX0, SX1, SX2, SX3, SX4, SX5, SX6, SX7, SX8, SU0, SY0, SY1, Nat.reduceAdd, Nat.reduceMul, Nat.reduceSub, Nat.reduceLeDiff, Nat.reduceEqDiff, Nat.reduceLT, Nat.reduceBEq, ↓reduceIte, Int.reduceLE, Int.reduceLT, Int.reduceToNat, Int.reduceNeg, reduceCtorEq, Int.reduceEq, SF0, SF1, SF2, DHb0, DHb1, DHa0, DCg0, DCe0, DCe1, DCe2, DDb0, DBc0, DBc1, DDe0, DKa0, hjt]
      refine br_dec (fun h3 => ?_) (fun h3 => ?_)
      · simp (disch := omega) only [SX0, SX1, SX2, SX3, SX4, SX5, SX6, SX7, SX8, SU0, SY0, SY1, Nat.reduceAdd, Nat.reduceMul, Nat.reduceSub, Nat.reduceLeDiff, Nat.reduceEqDiff, Nat.reduceLT, Nat.reduceBEq, ↓reduceIte, Int.reduceLE, Int.reduceLT, Int.reduceToNat, Int.reduceNeg, reduceCtorEq, Int.reduceEq, SF0, SF1, SF2, DHb0, DHb1, DHa0, DCg0, DCe0, DCe1, DCe2, DDb0, DBc0, DBc1, DDe0, DKa0]
        refine acall_one (paneFillsI_c k i (decide (j = 1)) w h) (by simp [freeL, AV.free, Work.free]) rfl ?_
        simp (disch := omega) only [SX0, SX1, SX2, SX3, SX4, SX5, SX6, SX7, SX8, SU0, SY0, SY1, Nat.reduceAdd, Nat.reduceMul, Nat.reduceSub, Nat.reduceLeDiff, Nat.reduceEqDiff, Nat.reduceLT, Nat.reduceBEq, ↓reduceIte, Int.reduceLE, Int.reduceLT, Int.reduceToNat, Int.reduceNeg, reduceCtorEq, Int.reduceEq, SF0, SF1, SF2, DHb0, DHb1, DHa0, DCg0, DCe0, DCe1, DCe2, DDb0, DBc0, DBc1, DDe0, DKa0]
        refine br_bool (fun h4 => ?_) (fun h4 => ?_)
        · rw [if_pos ⟨h3, h4⟩] at nx
          simp (disch := omega) only [SX0, SX1, SX2, SX3, SX4, SX5, SX6, SX7, SX8, SU0, SY0, SY1, Nat.reduceAdd, Nat.reduceMul, Nat.reduceSub, Nat.reduceLeDiff, Nat.reduceEqDiff, Nat.reduceLT, Nat.reduceBEq, ↓reduceIte, Int.reduceLE, Int.reduceLT, Int.reduceToNat, Int.reduceNeg, reduceCtorEq, Int.reduceEq, SF0, SF1, SF2, DHb0, DHb1, DHa0, DCg0, DCe0, DCe1, DCe2, DDb0, DBc0, DBc1, DDe0, DKa0, LfS.cs]
          refine ⟨j + 1, by omega, by omega, ?_⟩
          rw [nx]
          (refine wk_le ?_ ?_ ?_; (focus (simp [W8, leTm, leAV, AV.under, underL, Work.under, LfS.cs]; done)); (focus (simp [leL, OB.under, underL, AV.under, Work.under, LfS.cs]; done)); (focus (simp; done)))
        · rw [if_neg (fun h => by rw [h4] at h; cases h.2)] at nx
          simp (disch := omega) only [SX0, SX1, SX2, SX3, SX4, SX5, SX6, SX7, SX8, SU0, SY0, SY1, Nat.reduceAdd, Nat.reduceMul, Nat.reduceSub, Nat.reduceLeDiff, Nat.reduceEqDiff, Nat.reduceLT, Nat.reduceBEq, ↓reduceIte, Int.reduceLE, Int.reduceLT, Int.reduceToNat, Int.reduceNeg, reduceCtorEq, Int.reduceEq, SF0, SF1, SF2, DHb0, DHb1, DHa0, DCg0, DCe0, DCe1, DCe2, DDb0, DBc0, DBc1, DDe0, DKa0]
          refine ⟨j + 1, by omega, by omega, ?_⟩
          rw [nx]
          (refine wk_le ?_ ?_ ?_; (focus (simp [W8, leTm, leAV, AV.under, underL, Work.under, LfS.cs]; done)); (focus (simp [leL, OB.under, underL, AV.under, Work.under, LfS.cs]; done)); (focus (simp; done)))
      · rw [if_neg (fun h => h3 h.1)] at nx
        simp (disch := omega) only [SX0, SX1, SX2, SX3, SX4, SX5, SX6, SX7, SX8, SU0, SY0, SY1, Nat.reduceAdd, Nat.reduceMul, Nat.reduceSub, Nat.reduceLeDiff, Nat.reduceEqDiff, Nat.reduceLT, Nat.reduceBEq, ↓reduceIte, Int.reduceLE, Int.reduceLT, Int.reduceToNat, Int.reduceNeg, reduceCtorEq, Int.reduceEq, SF0, SF1, SF2, DHb0, DHb1, DHa0, DCg0, DCe0, DCe1, DCe2, DDb0, DBc0, DBc1, DDe0, DKa0]
        refine ⟨j + 1, by omega, by omega, ?_⟩
        rw [nx]
        (refine wk_le ?_ ?_ ?_; (focus (simp [W8, leTm, leAV, AV.under, underL, Work.under, LfS.cs]; done)); (focus (simp [leL, OB.under, underL, AV.under, Work.under, LfS.cs]; done)); (focus (simp; done)))
    · have hj2 : j = 2 := by omega
      subst hj2
      rw [leafJ_two]
      simp (disch := omega) only [SX0, SX1, SX2, SX3, SX4, SX5, SX6, SX7, SX8, SU0, SY0, SY1, Nat.reduceAdd, Nat.reduceMul, Nat.reduceSub, Nat.reduceLeDiff, Nat.reduceEqDiff, Nat.reduceLT, Nat.reduceBEq, ↓reduceIte, Int.reduceLE, Int.reduceLT, Int.reduceToNat, Int.reduceNeg, reduceCtorEq, Int.reduceEq, SF0, SF1, SF2, DHb0, DHb1, DHa0, DCg0, DCe0, DCe1, DCe2, DDb0, DBc0, DBc1, DDe0, DKa0]
      refine ⟨i + 1, by omega, by omega, ?_⟩
      (refine wk_le ?_ ?_ ?_; (focus (simp [W8, leTm, leAV, AV.under, underL, Work.under, LfS.cs]; done)); (focus (simp [leL, OB.under, underL, AV.under, Work.under, LfS.cs]; done)); (focus (simp; done)))
  · have hil : i = vs.length := by omega
    subst hil
    simp (disch := omega) only [SX0, SX1, SX2, SX3, SX4, SX5, SX6, SX7, SX8, SU0, SY0, SY1, Nat.reduceAdd, Nat.reduceMul, Nat.reduceSub, Nat.reduceLeDiff, Nat.reduceEqDiff, Nat.reduceLT, Nat.reduceBEq, ↓reduceIte, Int.reduceLE, Int.reduceLT, Int.reduceToNat, Int.reduceNeg, reduceCtorEq, Int.reduceEq, SF0, SF1, SF2, DHb0, DHb1, DHa0, DCg0, DCe0, DCe1, DCe2, DDb0, DBc0, DBc1, DDe0, DKa0, LfS.cs]
    exact fin_free rfl ⟨rfl, rfl⟩
theorem bestPaneX_c (k : Work) (vs : List Int) (w h : Int) (hl : vs.length ≤ 1000) : ACalls Try.prog 121 [.agg k.cs, .sl (ints vs), .val (.int .i64 w), .val (.int .i64 h)] [] [] (fun r L => r = .tup [.agg (leafS k vs w h vs.length).plan.cs, .val (.int .i64 (leafS k vs w h vs.length).m)] ∧ L = []) :=
  (bestPaneV_c k vs w h hl).fin fun r L ⟨h1, h2⟩ _ => by
    subst h1; subst h2
    refine fin_nrm ?_
    simp only [LfS.cs, AV.nrm, nrmL]
    exact fin_free rfl ⟨by simp [LfS.plan, Plan.cs_eq (Plan.mk _ _ _ _ _), Plan.op, Plan.at_, Plan.pa, Plan.tu, Plan.ks], rfl⟩

theorem wf_leafE (a : Int) (tu : Bool) : (Plan.mk 1 0 a tu []).wf = true := by
  rw [Plan.wf_iff]
  refine ⟨?_, fun q hq => by simp [Plan.ks] at hq⟩
  simp [Plan.good, Plan.cut, Plan.op, Plan.ks, Plan.at_]
theorem Work.nrmdE (k : Work) : nrmL k.cs = k.cs := by rw [Work.cs]; simp [nrmL, AV.nrm]

theorem e_leafValueX : Enters Try.prog 123 := enters_of Try.func123 (by kernel_rfl) (by kernel_rfl)
set_option maxRecDepth 8000 in
set_option maxHeartbeats 4000000 in
theorem leafValueX_c (k : Work) (vs : List Int) (w h : Int) (hl : vs.length ≤ 1000) (hk : k.Ps.length < 2 ^ 40) (hw : 0 ≤ w ∧ w ≤ 1000) (hh : 0 ≤ h ∧ h ≤ 1000) : ACalls Try.prog 123 [.agg k.cs, .sl (ints vs), .val (.int .i64 w), .val (.int .i64 h)] [] [] (fun r L => r = .tup [.agg (leafS k vs w h vs.length).plan.cs, .val (.int .i64 (leafS k vs w h vs.length).m)] ∧ L = []) := by
  refine acalls_tm T_tt Try.func123 rfl e_leafValueX 46 rfl (W8 _ _ _ _ .any .any .any .any (W8 .any .any .any .any .any .any .any .any (W8 .any .any .any .any .any .any .any .any (W8 .any .any .any .any .any .any .any .any (W8 .any .any .any .any .any .any .any .any (W8 .any .any .any .any .any .any .any .any [.any, .any])))))) rfl (rv := [.cell 8 31, .tmp 9]) rfl (sx_sound (bl := []) T_tt _ _ _ ?_)
  simp (disch := omega) only [SX0, SX1, SX2, SX3, SX4, SX5, SX6, SX7, SX8, SU0, SY0, SY1, Nat.reduceAdd, Nat.reduceMul, Nat.reduceSub, Nat.reduceLeDiff, Nat.reduceEqDiff, Nat.reduceLT, Nat.reduceBEq, ↓reduceIte, Int.reduceLE, Int.reduceLT, Int.reduceToNat, Int.reduceNeg, reduceCtorEq, Int.reduceEq, SF0, SF1, SF2, DHb0, DHb1, DHa0, DCg0, DCe0, DCe1, DCe2, DDb0, DBc0, DBc1, DDe0, DKa0]
  with_reducible refine awp_loop_h (G := Nat) 13 37 (fun i => [(11, .val (.int .i64 (leafS k vs w h i).m)), (12, .val (.int .i64 i))]) (fun i => [.cells k.cs, .cells [.val (.int .i64 0), .val (.int .i64 0), .val (.int .i64 0), .val (.bool false), .val (.slice none 0 0)], .cells (leafS k vs w h i).cs]) (fun i => i ≤ vs.length) (fun i => vs.length - i) 0 (Nat.zero_le _) ?_ (fun i hi => ?_)
  · simp (disch := omega) only [SX0, SX1, SX2, SX3, SX4, SX5, SX6, SX7, SX8, SU0, SY0, SY1, Nat.reduceAdd, Nat.reduceMul, Nat.reduceSub, Nat.reduceLeDiff, Nat.reduceEqDiff, Nat.reduceLT, Nat.reduceBEq, ↓reduceIte, Int.reduceLE, Int.reduceLT, Int.reduceToNat, Int.reduceNeg, reduceCtorEq, Int.reduceEq, SF0, SF1, SF2, DHb0, DHb1, DHa0, DCg0, DCe0, DCe1, DCe2, DDb0, DBc0, DBc1, DDe0, DKa0]
    (refine wk_le ?_ ?_ ?_; (focus (simp [W8, leTm, leAV, AV.under, underL, Work.under, leafS, LfS.cs]; done)); (focus (simp [leL, OB.under, underL, AV.under, Work.under, leafS, LfS.cs]; done)); (focus (simp; done)))
  refine sx_sound (bl := []) T_tt _ _ _ ?_
  simp (disch := omega) only [SX0, SX1, SX2, SX3, SX4, SX5, SX6, SX7, SX8, SU0, SY0, SY1, Nat.reduceAdd, Nat.reduceMul, Nat.reduceSub, Nat.reduceLeDiff, Nat.reduceEqDiff, Nat.reduceLT, Nat.reduceBEq, ↓reduceIte, Int.reduceLE, Int.reduceLT, Int.reduceToNat, Int.reduceNeg, reduceCtorEq, Int.reduceEq, SF0, SF1, SF2, DHb0, DHb1, DHa0, DCg0, DCe0, DCe1, DCe2, DDb0, DBc0, DBc1, DDe0, DKa0]
  refine br_dec (fun h1 => ?_) (fun h1 => ?_)
  · obtain ⟨v, hv⟩ := get_lt (l := vs) (i := i) (by omega)
    simp (disch := omega) only [SX0, SX1, SX2, SX3, SX4, SX5, SX6, SX7, SX8, SU0, SY0, SY1, Nat.reduceAdd, Nat.reduceMul, Nat.reduceSub, Nat.reduceLeDiff, Nat.reduceEqDiff, Nat.reduceLT, Nat.reduceBEq, ↓reduceIte, Int.reduceLE, Int.reduceLT, Int.reduceToNat, Int.reduceNeg, reduceCtorEq, Int.reduceEq, SF0, SF1, SF2, DHb0, DHb1, DHa0, DCg0, DCe0, DCe1, DCe2, DDb0, DBc0, DBc1, DDe0, DKa0]
    with_reducible refine awp_loop_h (G := Nat) 14 36 (fun j => [(11, .val (.int .i64 (leafJ k vs w h i j).m)), (13, .val (.int .i64 j))]) (fun j => [.cells k.cs, .cells [.val (.int .i64 0), .val (.int .i64 0), .val (.int .i64 0), .val (.bool false), .val (.slice none 0 0)], .cells (leafJ k vs w h i j).cs]) (fun j => j ≤ 2) (fun j => 2 - j) 0 (Nat.zero_le _) ?_ (fun j hj => ?_)
    · simp (disch := omega) only [SX0, SX1, SX2, SX3, SX4, SX5, SX6, SX7, SX8, SU0, SY0, SY1, Nat.reduceAdd, Nat.reduceMul, Nat.reduceSub, Nat.reduceLeDiff, Nat.reduceEqDiff, Nat.reduceLT, Nat.reduceBEq, ↓reduceIte, Int.reduceLE, Int.reduceLT, Int.reduceToNat, Int.reduceNeg, reduceCtorEq, Int.reduceEq, SF0, SF1, SF2, DHb0, DHb1, DHa0, DCg0, DCe0, DCe1, DCe2, DDb0, DBc0, DBc1, DDe0, DKa0]
      (refine wk_le ?_ ?_ ?_; (focus (simp [W8, leTm, leAV, AV.under, underL, Work.under, leafJ_zero, LfS.cs]; done)); (focus (simp [leL, OB.under, underL, AV.under, Work.under, leafJ_zero, LfS.cs]; done)); (focus (simp; done)))
    refine sx_sound (bl := []) T_tt _ _ _ ?_
    simp (disch := omega) only [SX0, SX1, SX2, SX3, SX4, SX5, SX6, SX7, SX8, SU0, SY0, SY1, Nat.reduceAdd, Nat.reduceMul, Nat.reduceSub, Nat.reduceLeDiff, Nat.reduceEqDiff, Nat.reduceLT, Nat.reduceBEq, ↓reduceIte, Int.reduceLE, Int.reduceLT, Int.reduceToNat, Int.reduceNeg, reduceCtorEq, Int.reduceEq, SF0, SF1, SF2, DHb0, DHb1, DHa0, DCg0, DCe0, DCe1, DCe2, DDb0, DBc0, DBc1, DDe0, DKa0]
    refine br_dec (fun h2 => ?_) (fun h2 => ?_)
    · have nx := leafJ_next (k := k) (w := w) (h := h) (i := i) (j := j) (by omega) hv
      unfold LfS.one at nx
      generalize leafJ k vs w h i j = s0 at *
      have hjd : decide ((j : Int) = 1) = decide (j = 1) := by rw [decide_eq_decide]; omega
      have F := fitsS_n k hk 1 (.mk 1 0 i (decide (j = 1)) []) w h (by rw [Plan.nodes_leaf (wf_leafE _ _) (by simp [Plan.cut, Plan.op])]; omega) (wf_leafE _ _) (by omega) (by omega)
      rw [Plan.fits_pane k _ _ _ rfl, Plan.cs_eq] at F
      simp only [Plan.op, Plan.at_, Plan.pa, Plan.tu, Plan.ks, List.map_nil] at F
      simp (disch := omega) only [SX0, SX1, SX2, SX3, SX4, SX5, SX6, SX7, SX8, SU0, SY0, SY1, Nat.reduceAdd, Nat.reduceMul, Nat.reduceSub, Nat.reduceLeDiff, Nat.reduceEqDiff, Nat.reduceLT, Nat.reduceBEq, ↓reduceIte, Int.reduceLE, Int.reduceLT, Int.reduceToNat, Int.reduceNeg, reduceCtorEq, Int.reduceEq, SF0, SF1, SF2, DHb0, DHb1, DHa0, DCg0, DCe0, DCe1, DCe2, DDb0, DBc0, DBc1, DDe0, DKa0, hv, hjd]
      refine br_dec (fun h3 => ?_) (fun h3 => ?_)
      · simp (disch := omega) only [SX0, SX1, SX2, SX3, SX4, SX5, SX6, SX7, SX8, SU0, SY0, SY1, Nat.reduceAdd, Nat.reduceMul, Nat.reduceSub, Nat.reduceLeDiff, Nat.reduceEqDiff, Nat.reduceLT, Nat.reduceBEq, ↓reduceIte, Int.reduceLE, Int.reduceLT, Int.reduceToNat, Int.reduceNeg, reduceCtorEq, Int.reduceEq, SF0, SF1, SF2, DHb0, DHb1, DHa0, DCg0, DCe0, DCe1, DCe2, DDb0, DBc0, DBc1, DDe0, DKa0]
        refine acall_nrm ?_
        simp only [List.map_cons, List.map_nil, AV.nrm, nrmL, Work.nrmdE]
        refine acall_one F (by simp [freeL, AV.free, Work.free]) rfl ?_
        simp (disch := omega) only [SX0, SX1, SX2, SX3, SX4, SX5, SX6, SX7, SX8, SU0, SY0, SY1, Nat.reduceAdd, Nat.reduceMul, Nat.reduceSub, Nat.reduceLeDiff, Nat.reduceEqDiff, Nat.reduceLT, Nat.reduceBEq, ↓reduceIte, Int.reduceLE, Int.reduceLT, Int.reduceToNat, Int.reduceNeg, reduceCtorEq, Int.reduceEq, SF0, SF1, SF2, DHb0, DHb1, DHa0, DCg0, DCe0, DCe1, DCe2, DDb0, DBc0, DBc1, DDe0, DKa0]
        refine br_bool (fun h4 => ?_) (fun h4 => ?_)
        · rw [if_pos ⟨h3, h4⟩] at nx
          simp (disch := omega) only [SX0, SX1, SX2, SX3, SX4, SX5, SX6, SX7, SX8, SU0, SY0, SY1, Nat.reduceAdd, Nat.reduceMul, Nat.reduceSub, Nat.reduceLeDiff, Nat.reduceEqDiff, Nat.reduceLT, Nat.reduceBEq, ↓reduceIte, Int.reduceLE, Int.reduceLT, Int.reduceToNat, Int.reduceNeg, reduceCtorEq, Int.reduceEq, SF0, SF1, SF2, DHb0, DHb1, DHa0, DCg0, DCe0, DCe1, DCe2, DDb0, DBc0, DBc1, DDe0, DKa0, LfS.cs, hv]
          refine ⟨j + 1, by omega, by omega, ?_⟩
          rw [nx]
          (refine wk_le ?_ ?_ ?_; (focus (simp [W8, leTm, leAV, AV.under, underL, Work.under, LfS.cs]; done)); (focus (simp [leL, OB.under, underL, AV.under, Work.under, LfS.cs]; done)); (focus (simp; done)))
        · rw [if_neg (fun h => by rw [h4] at h; cases h.2)] at nx
          simp (disch := omega) only [SX0, SX1, SX2, SX3, SX4, SX5, SX6, SX7, SX8, SU0, SY0, SY1, Nat.reduceAdd, Nat.reduceMul, Nat.reduceSub, Nat.reduceLeDiff, Nat.reduceEqDiff, Nat.reduceLT, Nat.reduceBEq, ↓reduceIte, Int.reduceLE, Int.reduceLT, Int.reduceToNat, Int.reduceNeg, reduceCtorEq, Int.reduceEq, SF0, SF1, SF2, DHb0, DHb1, DHa0, DCg0, DCe0, DCe1, DCe2, DDb0, DBc0, DBc1, DDe0, DKa0]
          refine ⟨j + 1, by omega, by omega, ?_⟩
          rw [nx]
          (refine wk_le ?_ ?_ ?_; (focus (simp [W8, leTm, leAV, AV.under, underL, Work.under, LfS.cs]; done)); (focus (simp [leL, OB.under, underL, AV.under, Work.under, LfS.cs]; done)); (focus (simp; done)))
      · rw [if_neg (fun h => h3 h.1)] at nx
        simp (disch := omega) only [SX0, SX1, SX2, SX3, SX4, SX5, SX6, SX7, SX8, SU0, SY0, SY1, Nat.reduceAdd, Nat.reduceMul, Nat.reduceSub, Nat.reduceLeDiff, Nat.reduceEqDiff, Nat.reduceLT, Nat.reduceBEq, ↓reduceIte, Int.reduceLE, Int.reduceLT, Int.reduceToNat, Int.reduceNeg, reduceCtorEq, Int.reduceEq, SF0, SF1, SF2, DHb0, DHb1, DHa0, DCg0, DCe0, DCe1, DCe2, DDb0, DBc0, DBc1, DDe0, DKa0]
        refine ⟨j + 1, by omega, by omega, ?_⟩
        rw [nx]
        (refine wk_le ?_ ?_ ?_; (focus (simp [W8, leTm, leAV, AV.under, underL, Work.under, LfS.cs]; done)); (focus (simp [leL, OB.under, underL, AV.under, Work.under, LfS.cs]; done)); (focus (simp; done)))
    · have hj2 : j = 2 := by omega
      subst hj2
      rw [leafJ_two]
      simp (disch := omega) only [SX0, SX1, SX2, SX3, SX4, SX5, SX6, SX7, SX8, SU0, SY0, SY1, Nat.reduceAdd, Nat.reduceMul, Nat.reduceSub, Nat.reduceLeDiff, Nat.reduceEqDiff, Nat.reduceLT, Nat.reduceBEq, ↓reduceIte, Int.reduceLE, Int.reduceLT, Int.reduceToNat, Int.reduceNeg, reduceCtorEq, Int.reduceEq, SF0, SF1, SF2, DHb0, DHb1, DHa0, DCg0, DCe0, DCe1, DCe2, DDb0, DBc0, DBc1, DDe0, DKa0]
      refine ⟨i + 1, by omega, by omega, ?_⟩
      (refine wk_le ?_ ?_ ?_; (focus (simp [W8, leTm, leAV, AV.under, underL, Work.under, LfS.cs]; done)); (focus (simp [leL, OB.under, underL, AV.under, Work.under, LfS.cs]; done)); (focus (simp; done)))
  · have hil : i = vs.length := by omega
    subst hil
    simp (disch := omega) only [SX0, SX1, SX2, SX3, SX4, SX5, SX6, SX7, SX8, SU0, SY0, SY1, Nat.reduceAdd, Nat.reduceMul, Nat.reduceSub, Nat.reduceLeDiff, Nat.reduceEqDiff, Nat.reduceLT, Nat.reduceBEq, ↓reduceIte, Int.reduceLE, Int.reduceLT, Int.reduceToNat, Int.reduceNeg, reduceCtorEq, Int.reduceEq, SF0, SF1, SF2, DHb0, DHb1, DHa0, DCg0, DCe0, DCe1, DCe2, DDb0, DBc0, DBc1, DDe0, DKa0, LfS.cs]
    refine fin_nrm ?_
    simp only [AV.nrm, nrmL]
    exact fin_free rfl ⟨by simp [LfS.plan, Plan.cs_eq (Plan.mk _ _ _ _ _), Plan.op, Plan.at_, Plan.pa, Plan.tu, Plan.ks], rfl⟩

end Go.Pc
