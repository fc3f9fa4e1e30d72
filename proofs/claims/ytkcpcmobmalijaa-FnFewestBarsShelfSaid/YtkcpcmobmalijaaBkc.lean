/- Fewest bars: the program and the reference. -/
import Derived.Test.YtkcpcmobmalijaaBkb
set_option linter.unusedSimpArgs false
set_option linter.unusedVariables false
namespace Go.Pc
open Go Go.Proofs

theorem sumS_next : ∀ (l : List Int) (j : Nat) (x : Int) (S : Nat), l[j]? = some x → sumS (l.take (j + 1)) S = sumS (l.take j) S + if S / 2 ^ j % 2 = 1 then x else 0
  | [], _, _, _, h => by simp at h
  | y :: l, 0, x, S, h => by
    simp at h
    subst h
    simp [sumS]
  | y :: l, j + 1, x, S, h => by
    have h' : l[j]? = some x := by simpa using h
    have ih := sumS_next l j x (S / 2) h'
    have e : S / 2 ^ (j + 1) = S / 2 / 2 ^ j := by rw [Nat.pow_succ, Nat.mul_comm, Nat.div_div_eq_div_mul]
    simp only [List.take_succ_cons, sumS]
    rw [ih, e]
    omega

/-- The least number, chosen. -/
noncomputable def mD (F : Nat → Prop) (s : Nat) : Nat := Classical.epsilon (LeastD F s)
theorem mD_ok {F : Nat → Prop} {n : Nat} (hF : ∀ i, i < n → F (2 ^ i)) {s : Nat} (hs : s < 2 ^ n) : LeastD F s (mD F s) ∧ mD F s ≤ n := by
  obtain ⟨c, h1, h2⟩ := div_all n hF s hs
  have h3 : LeastD F s (mD F s) := Classical.epsilon_spec (leastD_ex ⟨c, h2⟩)
  exact ⟨h3, Nat.le_trans (h3.2 c h2) h1⟩
theorem mD_zero (F : Nat → Prop) : mD F 0 = 0 := by
  have h3 : LeastD F 0 (mD F 0) := Classical.epsilon_spec (p := LeastD F 0) ⟨0, .zero F⟩
  exact h3.uniq (.zero F)

def barsF (l : List Int) (bar : Int) (S : Nat) : Prop := sumS l S ≤ bar
instance (l : List Int) (bar : Int) : DecidablePred (barsF l bar) := fun S => inferInstanceAs (Decidable (sumS l S ≤ bar))
def okBars (l : List Int) (bar : Int) (most : Nat) : Prop := (1 ≤ bar ∧ bar ≤ 200) ∧ l.length ≤ most ∧ ∀ x ∈ l, 1 ≤ x ∧ x ≤ bar
instance (l : List Int) (bar : Int) (most : Nat) : Decidable (okBars l bar most) := inferInstanceAs (Decidable (_ ∧ _))
theorem sumS_one : ∀ (l : List Int) (i : Nat) (x : Int), l[i]? = some x → sumS l (2 ^ i) = x
  | [], _, _, h => by simp at h
  | y :: l, 0, x, h => by
    simp at h
    subst h
    simp [sumS, sumS_zero]
  | y :: l, i + 1, x, h => by
    have h' : l[i]? = some x := by simpa using h
    rw [sumS, Nat.pow_succ, Nat.mul_mod_left, Nat.mul_div_cancel _ (by omega), sumS_one l i x h']
    simp
theorem barsF_one {l : List Int} {bar : Int} {most : Nat} (h : okBars l bar most) : ∀ i, i < l.length → barsF l bar (2 ^ i) := fun i hi => by
  obtain ⟨x, hx⟩ := get_lt (l := l) (i := i) hi
  unfold barsF
  rw [sumS_one l i x hx]
  exact (h.2.2 x (List.mem_of_getElem? hx)).2
theorem okBars.sum {l : List Int} {bar : Int} {most : Nat} (h : okBars l bar most) (hm : most ≤ 20) (S : Nat) : 0 ≤ sumS l S ∧ sumS l S ≤ 4000 := by
  refine ⟨sumS_nn l (fun x hx => by have := h.2.2 x hx; omega) S, ?_⟩
  have h1 := sumS_bd l 200 (by omega) (fun x hx => by have := h.2.2 x hx; have := h.1; omega) S
  have h2 := h.2.1
  omega
theorem okBars.sumT {l : List Int} {bar : Int} {most : Nat} (h : okBars l bar most) (hm : most ≤ 20) (j S : Nat) : 0 ≤ sumS (l.take j) S ∧ sumS (l.take j) S ≤ 4000 :=
  okBars.sum (l := l.take j) (bar := bar) (most := most) ⟨h.1, by rw [List.length_take]; have := h.2.1; omega, fun x hx => h.2.2 x (List.mem_of_mem_take hx)⟩ hm S

theorem e_sumIn : Enters Try.prog 96 := enters_of Try.func96 (by kernel_rfl) (by kernel_rfl)
theorem sumIn_c (l : List Int) (bar : Int) (h : okBars l bar 7) (S : Nat) (hS : S < 2 ^ 40) : ACalls Try.prog 96 [.sl (ints l), .val (.int .i64 S)] [] [] (fun r L => r = .val (.int .i64 (sumS l S)) ∧ L = []) := by
  have hl := h.2.1
  refine acalls_tm T_tt Try.func96 rfl e_sumIn 23 rfl (W8 _ _ .any .any .any .any .any .any (W8 .any .any .any .any .any .any .any .any (W8 .any .any .any .any .any .any .any .any [.any]))) rfl (rv := [.tmp 4]) rfl (sx_sound (bl := []) T_tt _ _ _ ?_)
  simp (disch := omega) only [SX0, SX1, SX2, SX3, SX4, SX5, SX6, SX7, SX8, SU0, SY0, SY1, Nat.reduceAdd, Nat.reduceMul, Nat.reduceSub, Nat.reduceLeDiff, Nat.reduceEqDiff, Nat.reduceLT, Nat.reduceBEq, ↓reduceIte, Int.reduceLE, Int.reduceLT, Int.reduceToNat, Int.reduceNeg, reduceCtorEq, Int.reduceEq, SF0, SF1, SF2, DBka0, DAlh0, DHb0, DHb1, DHa0, DCg0, DCe0, DCe1, DCe2, DDb0, DBc0, DBc1, DDe0, DAlv0]
  with_reducible refine awp_loop_h (G := Nat) 6 19 (fun j => [(5, .val (.int .i64 (sumS (l.take j) S))), (8, .sl (ints l)), (9, .val (.int .i64 l.length)), (10, .val (.int .i64 j))]) (fun _ => []) (fun j => j ≤ l.length) (fun j => l.length - j) 0 (Nat.zero_le _) ?_ (fun j hj => sx_sound (bl := []) T_tt _ _ _ ?_)
  · simp (disch := omega) only [SX0, SX1, SX2, SX3, SX4, SX5, SX6, SX7, SX8, SU0, SY0, SY1, Nat.reduceAdd, Nat.reduceMul, Nat.reduceSub, Nat.reduceLeDiff, Nat.reduceEqDiff, Nat.reduceLT, Nat.reduceBEq, ↓reduceIte, Int.reduceLE, Int.reduceLT, Int.reduceToNat, Int.reduceNeg, reduceCtorEq, Int.reduceEq, SF0, SF1, SF2, DBka0, DAlh0, DHb0, DHb1, DHa0, DCg0, DCe0, DCe1, DCe2, DDb0, DBc0, DBc1, DDe0, DAlv0]
    (refine wk_le ?_ ?_ ?_; (focus (simp [W8, leTm, leAV, AV.under, underL, ints, sumS]; done)); (focus (simp [leL, OB.under, underL, AV.under, ints, sumS]; done)); (focus (simp; done)))
  simp (disch := omega) only [SX0, SX1, SX2, SX3, SX4, SX5, SX6, SX7, SX8, SU0, SY0, SY1, Nat.reduceAdd, Nat.reduceMul, Nat.reduceSub, Nat.reduceLeDiff, Nat.reduceEqDiff, Nat.reduceLT, Nat.reduceBEq, ↓reduceIte, Int.reduceLE, Int.reduceLT, Int.reduceToNat, Int.reduceNeg, reduceCtorEq, Int.reduceEq, SF0, SF1, SF2, DBka0, DAlh0, DHb0, DHb1, DHa0, DCg0, DCe0, DCe1, DCe2, DDb0, DBc0, DBc1, DDe0, DAlv0]
  refine br_dec (fun h1 => ?_) (fun h1 => ?_)
  · obtain ⟨x, hx⟩ := get_lt (l := l) (i := j) (by omega)
    have hnx := sumS_next l j x S hx
    have hxb := h.2.2 x (List.mem_of_getElem? hx)
    have hbar := h.1
    have hst := h.sumT (by omega) j S
    have eS := shr_val (a := S) (n := j) (by omega)
    have hdv : S / 2 ^ j ≤ S := Nat.div_le_self _ _
    have eA := and_val (a := S / 2 ^ j) (b := 1) (by omega) (by omega)
    rw [Nat.and_one_is_mod] at eA
    have eA' : IntKind.i64.wrap (BitVec.ofInt IntKind.i64.bits ((S / 2 ^ j : Nat) : Int) &&& BitVec.ofInt IntKind.i64.bits 1).toNat = ((S / 2 ^ j % 2 : Nat) : Int) := eA
    repeat' first | simp (disch := omega) only [SX0, SX1, SX2, SX3, SX4, SX5, SX6, SX7, SX8, SU0, SY0, SY1, Nat.reduceAdd, Nat.reduceMul, Nat.reduceSub, Nat.reduceLeDiff, Nat.reduceEqDiff, Nat.reduceLT, Nat.reduceBEq, ↓reduceIte, Int.reduceLE, Int.reduceLT, Int.reduceToNat, Int.reduceNeg, reduceCtorEq, Int.reduceEq, SF0, SF1, SF2, DBka0, DAlh0, DHb0, DHb1, DHa0, DCg0, DCe0, DCe1, DCe2, DDb0, DBc0, DBc1, DDe0, DAlv0, hx, Int.toNat_natCast, eS, eA'] | refine req (by omega) ?_ | fail
    refine br_dec (fun h2 => ?_) (fun h2 => ?_)
    · rw [if_pos (by omega)] at hnx
      repeat' first | simp (disch := omega) only [SX0, SX1, SX2, SX3, SX4, SX5, SX6, SX7, SX8, SU0, SY0, SY1, Nat.reduceAdd, Nat.reduceMul, Nat.reduceSub, Nat.reduceLeDiff, Nat.reduceEqDiff, Nat.reduceLT, Nat.reduceBEq, ↓reduceIte, Int.reduceLE, Int.reduceLT, Int.reduceToNat, Int.reduceNeg, reduceCtorEq, Int.reduceEq, SF0, SF1, SF2, DBka0, DAlh0, DHb0, DHb1, DHa0, DCg0, DCe0, DCe1, DCe2, DDb0, DBc0, DBc1, DDe0, DAlv0] | refine req (by omega) ?_ | fail
      refine ⟨j + 1, by omega, by omega, ?_⟩
      (refine wk_le ?_ ?_ ?_; (focus (simp [W8, leTm, leAV, AV.under, underL, ints, hnx]; done)); (focus (simp [leL, OB.under, underL, AV.under, ints, hnx]; done)); (focus (simp; done)))
    · rw [if_neg (by omega)] at hnx
      repeat' first | simp (disch := omega) only [SX0, SX1, SX2, SX3, SX4, SX5, SX6, SX7, SX8, SU0, SY0, SY1, Nat.reduceAdd, Nat.reduceMul, Nat.reduceSub, Nat.reduceLeDiff, Nat.reduceEqDiff, Nat.reduceLT, Nat.reduceBEq, ↓reduceIte, Int.reduceLE, Int.reduceLT, Int.reduceToNat, Int.reduceNeg, reduceCtorEq, Int.reduceEq, SF0, SF1, SF2, DBka0, DAlh0, DHb0, DHb1, DHa0, DCg0, DCe0, DCe1, DCe2, DDb0, DBc0, DBc1, DDe0, DAlv0] | refine req (by omega) ?_ | fail
      refine ⟨j + 1, by omega, by omega, ?_⟩
      (refine wk_le ?_ ?_ ?_; (focus (simp [W8, leTm, leAV, AV.under, underL, ints, hnx]; done)); (focus (simp [leL, OB.under, underL, AV.under, ints, hnx]; done)); (focus (simp; done)))
  · have e : j = l.length := by omega
    subst e
    simp (disch := omega) only [SX0, SX1, SX2, SX3, SX4, SX5, SX6, SX7, SX8, SU0, SY0, SY1, Nat.reduceAdd, Nat.reduceMul, Nat.reduceSub, Nat.reduceLeDiff, Nat.reduceEqDiff, Nat.reduceLT, Nat.reduceBEq, ↓reduceIte, Int.reduceLE, Int.reduceLT, Int.reduceToNat, Int.reduceNeg, reduceCtorEq, Int.reduceEq, SF0, SF1, SF2, DBka0, DAlh0, DHb0, DHb1, DHa0, DCg0, DCe0, DCe1, DCe2, DDb0, DBc0, DBc1, DDe0, DAlv0]
    rw [List.take_length]
    exact fin_val ⟨rfl, rfl⟩

theorem e_fewestBars1 : Enters Try.prog 95 := enters_of Try.func95 (by kernel_rfl) (by kernel_rfl)
theorem fewestBars1_c (l : List Int) (bar : Int) (h : okBars l bar 7) (S : Nat) (hS : S < 2 ^ 7) : ACalls Try.prog 95 [.val (.int .i64 S), .ptr 0 0, .ptr 1 0] [.cells [.sl (ints l)], .cells [.val (.int .i64 bar)]] [0, 1] (fun r L => r = .val (.bool (decide (barsF l bar S))) ∧ L = [.cells [.sl (ints l)], .cells [.val (.int .i64 bar)]]) := by
  refine acalls_tm T_tt Try.func95 rfl e_fewestBars1 7 rfl (W8 _ _ _ .any .any .any .any .any [.any, .any]) rfl (rv := [.tmp 4]) rfl (sx_sound (bl := []) T_tt _ _ _ ?_)
  simp (disch := omega) only [SX0, SX1, SX2, SX3, SX4, SX5, SX6, SX7, SX8, SU0, SY0, SY1, Nat.reduceAdd, Nat.reduceMul, Nat.reduceSub, Nat.reduceLeDiff, Nat.reduceEqDiff, Nat.reduceLT, Nat.reduceBEq, ↓reduceIte, Int.reduceLE, Int.reduceLT, Int.reduceToNat, Int.reduceNeg, reduceCtorEq, Int.reduceEq, SF0, SF1, SF2, DBka0, DAlh0, DHb0, DHb1, DHa0, DCg0, DCe0, DCe1, DCe2, DDb0, DBc0, DBc1, DDe0, DAlv0]
  refine awp_drawA T_tt mixed (by decide +kernel) (by kernel_rfl) (by kernel_rfl) ?_
  repeat' first | simp (disch := omega) only [SX0, SX1, SX2, SX3, SX4, SX5, SX6, SX7, SX8, SU0, SY0, SY1, Nat.reduceAdd, Nat.reduceMul, Nat.reduceSub, Nat.reduceLeDiff, Nat.reduceEqDiff, Nat.reduceLT, Nat.reduceBEq, ↓reduceIte, Int.reduceLE, Int.reduceLT, Int.reduceToNat, Int.reduceNeg, reduceCtorEq, Int.reduceEq, SF0, SF1, SF2, DBka0, DAlh0, DHb0, DHb1, DHa0, DCg0, DCe0, DCe1, DCe2, DDb0, DBc0, DBc1, DDe0, DAlv0] | refine req (by omega) ?_ | fail
  refine qc_one (sumIn_c l bar h S (by omega)) rfl ?_
  repeat' first | simp (disch := omega) only [SX0, SX1, SX2, SX3, SX4, SX5, SX6, SX7, SX8, SU0, SY0, SY1, Nat.reduceAdd, Nat.reduceMul, Nat.reduceSub, Nat.reduceLeDiff, Nat.reduceEqDiff, Nat.reduceLT, Nat.reduceBEq, ↓reduceIte, Int.reduceLE, Int.reduceLT, Int.reduceToNat, Int.reduceNeg, reduceCtorEq, Int.reduceEq, SF0, SF1, SF2, DBka0, DAlh0, DHb0, DHb1, DHa0, DCg0, DCe0, DCe1, DCe2, DDb0, DBc0, DBc1, DDe0, DAlv0] | refine req (by omega) ?_ | fail
  exact fin_ks [0, 1] (.val (.bool (decide (barsF l bar S)))) [.cells [.sl (ints l)], .cells [.val (.int .i64 bar)]] ⟨rfl, rfl⟩ (by simp only [AV.ren]; exact congrArg (fun b => AV.val (.bool b)) (decide_eq_decide.2 Iff.rfl)) (by simp [keepL, nameK, OB.ren, AV.ren, renL, ints]) (by simp) (by simp) (by simp)

theorem e_barLengths : Enters Try.prog 94 := enters_of Try.func94 (by kernel_rfl) (by kernel_rfl)
set_option maxHeartbeats 1000000 in
theorem barLengths_c (l : List Int) (bar : Int) (most : Nat) (hm : most < 2 ^ 40) (hl : l.length < 2 ^ 40) : ACalls Try.prog 94 [.sl (ints l), .val (.int .i64 bar), .val (.int .i64 most)] [] [] (fun r L => r = .val (.bool (decide (okBars l bar most))) ∧ L = []) := by
  refine acalls_tm T_tt Try.func94 rfl e_barLengths 32 rfl (W8 _ _ _ .any .any .any .any .any (W8 .any .any .any .any .any .any .any .any (W8 .any .any .any .any .any .any .any .any (W8 .any .any .any .any .any .any .any .any [.any, .any, .any])))) rfl (rv := [.tmp 6]) rfl (sx_sound (bl := []) T_tt _ _ _ ?_)
  repeat' first | with_reducible refine fin_val ⟨?_, rfl⟩ | with_reducible refine br_dec (fun hb => ?_) (fun hb => ?_) | with_reducible refine br_ndec (fun hb => ?_) (fun hb => ?_) | with_reducible refine br_bool (fun hb => ?_) (fun hb => ?_) | with_reducible refine pk_dec (fun hb => ?_) (fun hb => ?_) | with_reducible refine pk_ndec (fun hb => ?_) (fun hb => ?_) | with_reducible refine awp_drawA T_tt mixed (by decide +kernel) (by kernel_rfl) (by kernel_rfl) ?_ | simp (disch := omega) only [SX0, SX1, SX2, SX3, SX4, SX5, SX6, SX7, SX8, SU0, SY0, SY1, Nat.reduceAdd, Nat.reduceMul, Nat.reduceSub, Nat.reduceLeDiff, Nat.reduceEqDiff, Nat.reduceLT, Nat.reduceBEq, ↓reduceIte, Int.reduceLE, Int.reduceLT, Int.reduceToNat, Int.reduceNeg, reduceCtorEq, Int.reduceEq, SF0, SF1, SF2, DBka0, DAlh0, DHb0, DHb1, DHa0, DCg0, DCe0, DCe1, DCe2, DDb0, DBc0, DBc1, DDe0, DAlv0]
  all_goals first | exact vF (fun hh => by unfold okBars at hh; omega) | skip
  with_reducible refine awp_loop_h (G := Nat) 7 28 (fun i => [(21, .sl (ints l)), (22, .val (.int .i64 l.length)), (23, .val (.int .i64 i))]) (fun _ => []) (fun i => i ≤ l.length ∧ ∀ x ∈ l.take i, 1 ≤ x ∧ x ≤ bar) (fun i => l.length - i) 0 ⟨Nat.zero_le _, by simp⟩ ?_ (fun i hi => sx_sound (bl := []) T_tt _ _ _ ?_)
  · simp (disch := omega) only [SX0, SX1, SX2, SX3, SX4, SX5, SX6, SX7, SX8, SU0, SY0, SY1, Nat.reduceAdd, Nat.reduceMul, Nat.reduceSub, Nat.reduceLeDiff, Nat.reduceEqDiff, Nat.reduceLT, Nat.reduceBEq, ↓reduceIte, Int.reduceLE, Int.reduceLT, Int.reduceToNat, Int.reduceNeg, reduceCtorEq, Int.reduceEq, SF0, SF1, SF2, DBka0, DAlh0, DHb0, DHb1, DHa0, DCg0, DCe0, DCe1, DCe2, DDb0, DBc0, DBc1, DDe0, DAlv0]
    (refine wk_le ?_ ?_ ?_; (focus (simp [W8, leTm, leAV, AV.under, underL, ints]; done)); (focus (simp [leL, OB.under, underL, AV.under, ints]; done)); (focus (simp; done)))
  simp (disch := omega) only [SX0, SX1, SX2, SX3, SX4, SX5, SX6, SX7, SX8, SU0, SY0, SY1, Nat.reduceAdd, Nat.reduceMul, Nat.reduceSub, Nat.reduceLeDiff, Nat.reduceEqDiff, Nat.reduceLT, Nat.reduceBEq, ↓reduceIte, Int.reduceLE, Int.reduceLT, Int.reduceToNat, Int.reduceNeg, reduceCtorEq, Int.reduceEq, SF0, SF1, SF2, DBka0, DAlh0, DHb0, DHb1, DHa0, DCg0, DCe0, DCe1, DCe2, DDb0, DBc0, DBc1, DDe0, DAlv0]
  refine br_dec (fun h4 => ?_) (fun h4 => ?_)
  · obtain ⟨x, hx⟩ := get_lt (l := l) (i := i) (by omega)
    have no : ¬ (1 ≤ x ∧ x ≤ bar) → ¬ okBars l bar most := fun h hp => h (hp.2.2 x (List.mem_of_getElem? hx))
    repeat' first | with_reducible refine fin_val ⟨?_, rfl⟩ | with_reducible refine br_dec (fun hb => ?_) (fun hb => ?_) | with_reducible refine br_ndec (fun hb => ?_) (fun hb => ?_) | with_reducible refine br_bool (fun hb => ?_) (fun hb => ?_) | with_reducible refine pk_dec (fun hb => ?_) (fun hb => ?_) | with_reducible refine pk_ndec (fun hb => ?_) (fun hb => ?_) | with_reducible refine awp_drawA T_tt mixed (by decide +kernel) (by kernel_rfl) (by kernel_rfl) ?_ | simp (disch := omega) only [SX0, SX1, SX2, SX3, SX4, SX5, SX6, SX7, SX8, SU0, SY0, SY1, Nat.reduceAdd, Nat.reduceMul, Nat.reduceSub, Nat.reduceLeDiff, Nat.reduceEqDiff, Nat.reduceLT, Nat.reduceBEq, ↓reduceIte, Int.reduceLE, Int.reduceLT, Int.reduceToNat, Int.reduceNeg, reduceCtorEq, Int.reduceEq, SF0, SF1, SF2, DBka0, DAlh0, DHb0, DHb1, DHa0, DCg0, DCe0, DCe1, DCe2, DDb0, DBc0, DBc1, DDe0, DAlv0, hx]
    all_goals first
      | exact vF (no (by omega))
      | (refine ⟨i + 1, ⟨by omega, take_next hx hi.2 (by omega)⟩, by omega, ?_⟩
         (refine wk_le ?_ ?_ ?_; (focus (simp [W8, leTm, leAV, AV.under, underL, ints]; done)); (focus (simp [leL, OB.under, underL, AV.under, ints]; done)); (focus (simp; done))))
  · simp (disch := omega) only [SX0, SX1, SX2, SX3, SX4, SX5, SX6, SX7, SX8, SU0, SY0, SY1, Nat.reduceAdd, Nat.reduceMul, Nat.reduceSub, Nat.reduceLeDiff, Nat.reduceEqDiff, Nat.reduceLT, Nat.reduceBEq, ↓reduceIte, Int.reduceLE, Int.reduceLT, Int.reduceToNat, Int.reduceNeg, reduceCtorEq, Int.reduceEq, SF0, SF1, SF2, DBka0, DAlh0, DHb0, DHb1, DHa0, DCg0, DCe0, DCe1, DCe2, DDb0, DBc0, DBc1, DDe0, DAlv0]
    exact fin_val ⟨vT ⟨by omega, by omega, take_all (by omega) hi.2⟩, rfl⟩

noncomputable def fewB (l : List Int) (bar : Int) : Int := if okBars l bar 7 then (mD (barsF l bar) (2 ^ l.length - 1) : Int) else -1

theorem e_fewestBarsI : Enters Try.prog 44 := enters_of Try.func44 (by kernel_rfl) (by kernel_rfl)
theorem fewestBarsI_c (l : List Int) (bar : Int) (hl : l.length < 2 ^ 40) : ACalls Try.prog 44 [.sl (ints l), .val (.int .i64 bar)] [] [] (fun r L => r = .val (.int .i64 (fewB l bar)) ∧ L = []) := by
  have BL := barLengths_c l bar 7 (by omega) hl
  unfold fewB
  refine acalls_tm T_tt Try.func44 rfl e_fewestBarsI 11 rfl (W8 _ _ .any .any .any .any .any .any [.any, .any, .any, .any, .any]) rfl (rv := [.tmp 4]) rfl (sx_sound (bl := []) T_tt _ _ _ ?_)
  simp (disch := omega) only [SX0, SX1, SX2, SX3, SX4, SX5, SX6, SX7, SX8, SU0, SY0, SY1, Nat.reduceAdd, Nat.reduceMul, Nat.reduceSub, Nat.reduceLeDiff, Nat.reduceEqDiff, Nat.reduceLT, Nat.reduceBEq, ↓reduceIte, Int.reduceLE, Int.reduceLT, Int.reduceToNat, Int.reduceNeg, reduceCtorEq, Int.reduceEq, SF0, SF1, SF2, DBka0, DAlh0, DHb0, DHb1, DHa0, DCg0, DCe0, DCe1, DCe2, DDb0, DBc0, DBc1, DDe0, DAlv0]
  refine acall_one BL rfl rfl ?_
  by_cases h : okBars l bar 7
  · rw [if_pos h]
    have h7 := h.2.1
    have hd := barsF_one h
    have FG := fgBars_c l bar (barsF l bar) (mD (barsF l bar)) l.length h7 (fun s hs => (mD_ok hd hs).1) (mD_zero _) (fun s hs => by have := (mD_ok hd hs).2; omega) 95 (fun s hs => fewestBars1_c l bar h s (Nat.lt_of_lt_of_le hs (Nat.pow_le_pow_right (by omega) h7)))
    simp (disch := omega) only [SX0, SX1, SX2, SX3, SX4, SX5, SX6, SX7, SX8, SU0, SY0, SY1, Nat.reduceAdd, Nat.reduceMul, Nat.reduceSub, Nat.reduceLeDiff, Nat.reduceEqDiff, Nat.reduceLT, Nat.reduceBEq, ↓reduceIte, Int.reduceLE, Int.reduceLT, Int.reduceToNat, Int.reduceNeg, reduceCtorEq, Int.reduceEq, SF0, SF1, SF2, DBka0, DAlh0, DHb0, DHb1, DHa0, DCg0, DCe0, DCe1, DCe2, DDb0, DBc0, DBc1, DDe0, DAlv0, h, decide_true, Bool.not_true]
    refine acall_own FG [0, 1] [] (by simp only [SX0, SX1, SX2, SX3, SX4, SX5, SX6, SX7, SX8, SU0, SY0, SY1, Nat.reduceAdd, Nat.reduceMul, Nat.reduceSub, Nat.reduceLeDiff, Nat.reduceEqDiff, Nat.reduceLT, Nat.reduceBEq, ↓reduceIte, Int.reduceLE, Int.reduceLT, Int.reduceToNat, Int.reduceNeg, reduceCtorEq, Int.reduceEq, SF0, SF1, SF2, DBka0, DAlh0, DHb0, DHb1, DHa0, DCg0, DCe0, DCe1, DCe2, DDb0, DBc0, DBc1, DDe0, DAlv0, SX0]) (by decide) (by decide) (by rfl) (by simp only [SX0, SX1, SX2, SX3, SX4, SX5, SX6, SX7, SX8, SU0, SY0, SY1, Nat.reduceAdd, Nat.reduceMul, Nat.reduceSub, Nat.reduceLeDiff, Nat.reduceEqDiff, Nat.reduceLT, Nat.reduceBEq, ↓reduceIte, Int.reduceLE, Int.reduceLT, Int.reduceToNat, Int.reduceNeg, reduceCtorEq, Int.reduceEq, SF0, SF1, SF2, DBka0, DAlh0, DHb0, DHb1, DHa0, DCg0, DCe0, DCe1, DCe2, DDb0, DBc0, DBc1, DDe0, DAlv0, SX0]) ?_
    rintro _ _ ⟨rfl, rfl⟩
    simp (disch := omega) only [SX0, SX1, SX2, SX3, SX4, SX5, SX6, SX7, SX8, SU0, SY0, SY1, Nat.reduceAdd, Nat.reduceMul, Nat.reduceSub, Nat.reduceLeDiff, Nat.reduceEqDiff, Nat.reduceLT, Nat.reduceBEq, ↓reduceIte, Int.reduceLE, Int.reduceLT, Int.reduceToNat, Int.reduceNeg, reduceCtorEq, Int.reduceEq, SF0, SF1, SF2, DBka0, DAlh0, DHb0, DHb1, DHa0, DCg0, DCe0, DCe1, DCe2, DDb0, DBc0, DBc1, DDe0, DAlv0]
    exact fin_val ⟨rfl, rfl⟩
  · rw [if_neg h]
    simp (disch := omega) only [SX0, SX1, SX2, SX3, SX4, SX5, SX6, SX7, SX8, SU0, SY0, SY1, Nat.reduceAdd, Nat.reduceMul, Nat.reduceSub, Nat.reduceLeDiff, Nat.reduceEqDiff, Nat.reduceLT, Nat.reduceBEq, ↓reduceIte, Int.reduceLE, Int.reduceLT, Int.reduceToNat, Int.reduceNeg, reduceCtorEq, Int.reduceEq, SF0, SF1, SF2, DBka0, DAlh0, DHb0, DHb1, DHa0, DCg0, DCe0, DCe1, DCe2, DDb0, DBc0, DBc1, DDe0, DAlv0, h, decide_false, Bool.not_false]
    exact fin_val ⟨rfl, rfl⟩

end Go.Pc
