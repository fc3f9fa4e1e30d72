/- What is drawn for the laws of bars. -/
import Derived.Test.YtkcpcmobmalijaaDe
import Derived.Test.YtkcpcmobmalijaaAlg
import Derived.Test.YtkcpcmobmalijaaJa
set_option linter.unusedSimpArgs false
set_option linter.unusedVariables false
namespace Go.Pc
open Go Go.Proofs

theorem fin_bars {R : AV → List OB → Prop} {s : AS} (S : List Int) (n r : Nat) (bar : Int) (hL : s.L[r]? = some (.vec 1 (ints S))) (hn : n ≤ S.length) (hR : R (.tup [.sl (ints (S.take n)), .val (.int .i64 bar)]) []) : Fin [] 0 R s (.tup [.os r 1 0 n, .val (.int .i64 bar)]) := by
  refine fin_frz (r := r) (k := 1) (es := ints S) hL (by simp) ?_
  have e : n ≤ (ints S).length := by simp [ints]; exact hn
  simp only [AV.frz, frzL, if_true, Nat.zero_add, true_and, e, List.drop_zero]
  have e2 : List.take n (ints S) = ints (S.take n) := by simp [ints, List.map_take]
  rw [e2]
  exact fin_free (by simp [AV.free, freeL]) hR

theorem e_barLengthsS : Enters Try.prog 93 := enters_of Try.func93 (by kernel_rfl) (by kernel_rfl)
set_option maxHeartbeats 2000000 in
theorem barLengthsS_c (xs : List Int) (p : Int) (hx : ∀ x ∈ xs, 0 ≤ x ∧ x < 256) (hl : xs.length ≤ 2000) (hp : 0 ≤ p ∧ p ≤ 900000000) : ACalls Try.prog 93 [.ptr 0 0] [rdr xs p] [0] (fun r L => ∃ (S : List Int) (bar p' : Int), r = .tup [.os 1 1 0 S.length, .val (.int .i64 bar)] ∧ L = [rdr xs p', .vec 1 (ints S)] ∧ S.length ≤ 14 ∧ (p ≤ p' ∧ p' ≤ p + 40)) := by
  refine acalls_tm T_tt Try.func93 rfl e_barLengthsS 41 rfl (W8 _ .any .any .any .any .any .any .any (W8 .any .any .any .any .any .any .any .any (W8 .any .any .any .any .any .any .any .any (W8 .any .any .any .any .any .any .any .any (W8 .any .any .any .any .any .any .any .any [.any, .any]))))) rfl (rv := [.tmp 2, .tmp 3]) rfl (sx_sound (bl := []) T_tt _ _ _ ?_)
  simp (disch := omega) only [SX0, SX1, SX2, SX3, SX4, SX5, SX6, SX7, SX8, SU0, SY0, SY1, Nat.reduceAdd, Nat.reduceMul, Nat.reduceSub, Nat.reduceLeDiff, Nat.reduceEqDiff, Nat.reduceLT, Nat.reduceBEq, ↓reduceIte, Int.reduceLE, Int.reduceLT, Int.reduceToNat, Int.reduceNeg, reduceCtorEq, Int.reduceEq, SF0, SF1, SF2, DDe0, DCg0, DCe0, DCe1, DCe2, DDb0, DBc0, DBc1, DAlg0, DAlh0, DHb0, DHb1, DHa0]
  refine one_call hx hl (by omega) (l := [10, 12, 20, 7]) (by simp) rfl rfl fun bar hb => ?_
  have hb' : 7 ≤ bar ∧ bar ≤ 20 := by simp at hb; omega
  simp (disch := omega) only [SX0, SX1, SX2, SX3, SX4, SX5, SX6, SX7, SX8, SU0, SY0, SY1, Nat.reduceAdd, Nat.reduceMul, Nat.reduceSub, Nat.reduceLeDiff, Nat.reduceEqDiff, Nat.reduceLT, Nat.reduceBEq, ↓reduceIte, Int.reduceLE, Int.reduceLT, Int.reduceToNat, Int.reduceNeg, reduceCtorEq, Int.reduceEq, SF0, SF1, SF2, DDe0, DCg0, DCe0, DCe1, DCe2, DDb0, DBc0, DBc1, DAlg0, DAlh0, DHb0, DHb1, DHa0]
  refine one_call hx hl (by omega) (l := [5, 7, 4, 3, 9, 0, 14]) (by simp) rfl rfl fun n hn => ?_
  have hn' : 0 ≤ n ∧ n ≤ 14 := by simp at hn; omega
  simp (disch := omega) only [SX0, SX1, SX2, SX3, SX4, SX5, SX6, SX7, SX8, SU0, SY0, SY1, Nat.reduceAdd, Nat.reduceMul, Nat.reduceSub, Nat.reduceLeDiff, Nat.reduceEqDiff, Nat.reduceLT, Nat.reduceBEq, ↓reduceIte, Int.reduceLE, Int.reduceLT, Int.reduceToNat, Int.reduceNeg, reduceCtorEq, Int.reduceEq, SF0, SF1, SF2, DDe0, DCg0, DCe0, DCe1, DCe2, DDb0, DBc0, DBc1, DAlg0, DAlh0, DHb0, DHb1, DHa0]
  with_reducible refine awp_loop_h (G := List Int × Int) 7 35 (fun g => [(5, .os 1 1 0 g.1.length), (6, .val (.int .i64 (n - g.1.length)))]) (fun g => [rdr xs g.2, .vec 1 (ints g.1)]) (fun g => (g.1.length : Int) ≤ n ∧ p + 2 ≤ g.2 ∧ g.2 ≤ p + 2 + g.1.length) (fun g => 14 - g.1.length) ([], p + 1 + 1) ⟨by simp; omega, by simp only []; omega, by simp; omega⟩ ?_ (fun g hg => ?_)
  · simp (disch := omega) only [SX0, SX1, SX2, SX3, SX4, SX5, SX6, SX7, SX8, SU0, SY0, SY1, Nat.reduceAdd, Nat.reduceMul, Nat.reduceSub, Nat.reduceLeDiff, Nat.reduceEqDiff, Nat.reduceLT, Nat.reduceBEq, ↓reduceIte, Int.reduceLE, Int.reduceLT, Int.reduceToNat, Int.reduceNeg, reduceCtorEq, Int.reduceEq, SF0, SF1, SF2, DDe0, DCg0, DCe0, DCe1, DCe2, DDb0, DBc0, DBc1, DAlg0, DAlh0, DHb0, DHb1, DHa0]
    (refine wk_le ?_ ?_ ?_; (focus (simp [W8, leTm, leAV, AV.under, underL, ints, rdr]; done)); (focus (simp [leL, OB.under, underL, AV.under, ints, rdr]; done)); (focus (simp; done)))
  obtain ⟨S, p1⟩ := g
  simp only at hg
  obtain ⟨g1, g2, g3⟩ := hg
  refine sx_sound (bl := []) T_tt _ _ _ ?_
  simp (disch := omega) only [SX0, SX1, SX2, SX3, SX4, SX5, SX6, SX7, SX8, SU0, SY0, SY1, Nat.reduceAdd, Nat.reduceMul, Nat.reduceSub, Nat.reduceLeDiff, Nat.reduceEqDiff, Nat.reduceLT, Nat.reduceBEq, ↓reduceIte, Int.reduceLE, Int.reduceLT, Int.reduceToNat, Int.reduceNeg, reduceCtorEq, Int.reduceEq, SF0, SF1, SF2, DDe0, DCg0, DCe0, DCe1, DCe2, DDb0, DBc0, DBc1, DAlg0, DAlh0, DHb0, DHb1, DHa0]
  refine br_dec (fun h1 => ?_) (fun h1 => ?_)
  · simp (disch := omega) only [SX0, SX1, SX2, SX3, SX4, SX5, SX6, SX7, SX8, SU0, SY0, SY1, Nat.reduceAdd, Nat.reduceMul, Nat.reduceSub, Nat.reduceLeDiff, Nat.reduceEqDiff, Nat.reduceLT, Nat.reduceBEq, ↓reduceIte, Int.reduceLE, Int.reduceLT, Int.reduceToNat, Int.reduceNeg, reduceCtorEq, Int.reduceEq, SF0, SF1, SF2, DDe0, DCg0, DCe0, DCe1, DCe2, DDb0, DBc0, DBc1, DAlg0, DAlh0, DHb0, DHb1, DHa0]
    refine pick_call hx hl (by omega) rfl fun v hv1 hv2 _ => ?_
    have hv2 := hv2 (by omega)
    repeat' first | simp (disch := omega) only [SX0, SX1, SX2, SX3, SX4, SX5, SX6, SX7, SX8, SU0, SY0, SY1, Nat.reduceAdd, Nat.reduceMul, Nat.reduceSub, Nat.reduceLeDiff, Nat.reduceEqDiff, Nat.reduceLT, Nat.reduceBEq, ↓reduceIte, Int.reduceLE, Int.reduceLT, Int.reduceToNat, Int.reduceNeg, reduceCtorEq, Int.reduceEq, SF0, SF1, SF2, DDe0, DCg0, DCe0, DCe1, DCe2, DDb0, DBc0, DBc1, DAlg0, DAlh0, DHb0, DHb1, DHa0] | refine req (by omega) ?_ | fail
    have e1 : n - (S.length : Int) - 1 = n - ((S ++ [1 + v]).length : Nat) := by simp; omega
    refine ⟨(S ++ [1 + v], p1 + 1), ⟨by simp; omega, by simp only []; omega, by simp; omega⟩, by simp; omega, ?_⟩
    (refine wk_le ?_ ?_ ?_; (focus (simp [W8, leTm, leAV, AV.under, underL, ints, rdr, e1]; done)); (focus (simp [leL, OB.under, underL, AV.under, ints, rdr, e1]; done)); (focus (simp; done)))
  · simp (disch := omega) only [SX0, SX1, SX2, SX3, SX4, SX5, SX6, SX7, SX8, SU0, SY0, SY1, Nat.reduceAdd, Nat.reduceMul, Nat.reduceSub, Nat.reduceLeDiff, Nat.reduceEqDiff, Nat.reduceLT, Nat.reduceBEq, ↓reduceIte, Int.reduceLE, Int.reduceLT, Int.reduceToNat, Int.reduceNeg, reduceCtorEq, Int.reduceEq, SF0, SF1, SF2, DDe0, DCg0, DCe0, DCe1, DCe2, DDb0, DBc0, DBc1, DAlg0, DAlh0, DHb0, DHb1, DHa0]
    refine br_dec (fun h2 => ?_) (fun h2 => ?_)
    · simp (disch := omega) only [SX0, SX1, SX2, SX3, SX4, SX5, SX6, SX7, SX8, SU0, SY0, SY1, Nat.reduceAdd, Nat.reduceMul, Nat.reduceSub, Nat.reduceLeDiff, Nat.reduceEqDiff, Nat.reduceLT, Nat.reduceBEq, ↓reduceIte, Int.reduceLE, Int.reduceLT, Int.reduceToNat, Int.reduceNeg, reduceCtorEq, Int.reduceEq, SF0, SF1, SF2, DDe0, DCg0, DCe0, DCe1, DCe2, DDb0, DBc0, DBc1, DAlg0, DAlh0, DHb0, DHb1, DHa0]
      refine pick_call hx hl (by omega) rfl fun v hv1 hv2 _ => ?_
      simp (disch := omega) only [SX0, SX1, SX2, SX3, SX4, SX5, SX6, SX7, SX8, SU0, SY0, SY1, Nat.reduceAdd, Nat.reduceMul, Nat.reduceSub, Nat.reduceLeDiff, Nat.reduceEqDiff, Nat.reduceLT, Nat.reduceBEq, ↓reduceIte, Int.reduceLE, Int.reduceLT, Int.reduceToNat, Int.reduceNeg, reduceCtorEq, Int.reduceEq, SF0, SF1, SF2, DDe0, DCg0, DCe0, DCe1, DCe2, DDb0, DBc0, DBc1, DAlg0, DAlh0, DHb0, DHb1, DHa0]
      refine br_dec (fun h3 => ?_) (fun h3 => ?_)
      · repeat' first | simp (disch := omega) only [SX0, SX1, SX2, SX3, SX4, SX5, SX6, SX7, SX8, SU0, SY0, SY1, Nat.reduceAdd, Nat.reduceMul, Nat.reduceSub, Nat.reduceLeDiff, Nat.reduceEqDiff, Nat.reduceLT, Nat.reduceBEq, ↓reduceIte, Int.reduceLE, Int.reduceLT, Int.reduceToNat, Int.reduceNeg, reduceCtorEq, Int.reduceEq, SF0, SF1, SF2, DDe0, DCg0, DCe0, DCe1, DCe2, DDb0, DBc0, DBc1, DAlg0, DAlh0, DHb0, DHb1, DHa0] | refine req (by omega) ?_ | fail
        refine one_call hx hl (by omega) (l := [0, bar + 1]) (by simp) rfl rfl fun u hu => ?_
        cases S with
        | nil => simp at h2
        | cons a S =>
        repeat' first | simp (disch := omega) only [SX0, SX1, SX2, SX3, SX4, SX5, SX6, SX7, SX8, SU0, SY0, SY1, Nat.reduceAdd, Nat.reduceMul, Nat.reduceSub, Nat.reduceLeDiff, Nat.reduceEqDiff, Nat.reduceLT, Nat.reduceBEq, ↓reduceIte, Int.reduceLE, Int.reduceLT, Int.reduceToNat, Int.reduceNeg, reduceCtorEq, Int.reduceEq, SF0, SF1, SF2, DDe0, DCg0, DCe0, DCe1, DCe2, DDb0, DBc0, DBc1, DAlg0, DAlh0, DHb0, DHb1, DHa0, List.map_cons, List.set_cons_zero] | refine req (by omega) ?_ | refine req (by simp) ?_ | fail
        exact fin_ks [0, 1] (.tup [.os 1 1 0 (S.length + 1), .val (.int .i64 bar)]) [rdr xs (p1 + 1 + 1), .vec 1 (ints (u :: S))] ⟨u :: S, bar, p1 + 1 + 1, rfl, rfl, by have e : (a :: S).length = S.length + 1 := rfl; simp only [List.length_cons]; omega, by have e : (a :: S).length = S.length + 1 := rfl; omega⟩ (by simp [AV.ren, renL, nameK]) (by simp [keepL, nameK, OB.ren, rdr, ints, AV.ren]) (by simp) (by simp) (by simp)
      · simp (disch := omega) only [SX0, SX1, SX2, SX3, SX4, SX5, SX6, SX7, SX8, SU0, SY0, SY1, Nat.reduceAdd, Nat.reduceMul, Nat.reduceSub, Nat.reduceLeDiff, Nat.reduceEqDiff, Nat.reduceLT, Nat.reduceBEq, ↓reduceIte, Int.reduceLE, Int.reduceLT, Int.reduceToNat, Int.reduceNeg, reduceCtorEq, Int.reduceEq, SF0, SF1, SF2, DDe0, DCg0, DCe0, DCe1, DCe2, DDb0, DBc0, DBc1, DAlg0, DAlh0, DHb0, DHb1, DHa0]
        exact fin_ks [0, 1] (.tup [.os 1 1 0 S.length, .val (.int .i64 bar)]) [rdr xs (p1 + 1), .vec 1 (ints S)] ⟨S, bar, p1 + 1, rfl, rfl, by omega, by omega⟩ (by simp [AV.ren, renL, nameK]) (by simp [keepL, nameK, OB.ren, rdr, ints, AV.ren]) (by simp) (by simp) (by simp)
    · simp (disch := omega) only [SX0, SX1, SX2, SX3, SX4, SX5, SX6, SX7, SX8, SU0, SY0, SY1, Nat.reduceAdd, Nat.reduceMul, Nat.reduceSub, Nat.reduceLeDiff, Nat.reduceEqDiff, Nat.reduceLT, Nat.reduceBEq, ↓reduceIte, Int.reduceLE, Int.reduceLT, Int.reduceToNat, Int.reduceNeg, reduceCtorEq, Int.reduceEq, SF0, SF1, SF2, DDe0, DCg0, DCe0, DCe1, DCe2, DDb0, DBc0, DBc1, DAlg0, DAlh0, DHb0, DHb1, DHa0]
      exact fin_ks [0, 1] (.tup [.os 1 1 0 S.length, .val (.int .i64 bar)]) [rdr xs p1, .vec 1 (ints S)] ⟨S, bar, p1, rfl, rfl, by omega, by omega⟩ (by simp [AV.ren, renL, nameK]) (by simp [keepL, nameK, OB.ren, rdr, ints, AV.ren]) (by simp) (by simp) (by simp)

theorem e_drawFewestBars : Enters Try.prog 43 := enters_of Try.func43 (by kernel_rfl) (by kernel_rfl)
theorem drawFewestBars_c (xs : List Int) (hx : ∀ x ∈ xs, 0 ≤ x ∧ x < 256) : ACalls Try.prog 43 [.sl (bys xs)] [] [] (fun r L => L = [] ∧ ∃ (S : List Int) (bar : Int), r = .tup [.sl (ints S), .val (.int .i64 bar)] ∧ S.length ≤ 14) := by
  have hx' := take_byte hx
  have hl' : (xs.take 2000).length ≤ 2000 := by rw [List.length_take]; omega
  refine acalls_tm T_tt Try.func43 rfl e_drawFewestBars 25 rfl (W8 _ .any .any .any .any .any .any .any (W8 .any .any .any .any .any .any .any .any (W8 .any .any .any .any .any .any .any .any [.any, .any]))) rfl (rv := [.tmp 2, .tmp 3]) rfl (sx_sound (bl := []) T_tt _ _ _ ?_)
  simp (disch := omega) only [SX0, SX1, SX2, SX3, SX4, SX5, SX6, SX7, SX8, SU0, SY0, SY1, Nat.reduceAdd, Nat.reduceMul, Nat.reduceSub, Nat.reduceLeDiff, Nat.reduceEqDiff, Nat.reduceLT, Nat.reduceBEq, ↓reduceIte, Int.reduceLE, Int.reduceLT, Int.reduceToNat, Int.reduceNeg, reduceCtorEq, Int.reduceEq, SF0, SF1, SF2, DDe0, DCg0, DCe0, DCe1, DCe2, DDb0, DBc0, DBc1, DAlg0, DAlh0, DHb0, DHb1, DHa0]
  refine acall_own (newReader_c xs) [] [] (by simp only [SX0, SX1, SX2, SX3, SX4, SX5, SX6, SX7, SX8, SU0, SY0, SY1, Nat.reduceAdd, Nat.reduceMul, Nat.reduceSub, Nat.reduceLeDiff, Nat.reduceEqDiff, Nat.reduceLT, Nat.reduceBEq, ↓reduceIte, Int.reduceLE, Int.reduceLT, Int.reduceToNat, Int.reduceNeg, reduceCtorEq, Int.reduceEq, SF0, SF1, SF2, DDe0, DCg0, DCe0, DCe1, DCe2, DDb0, DBc0, DBc1, DAlg0, DAlh0, DHb0, DHb1, DHa0, SX0]) (by decide) (by decide) (by rfl) (by simp only [SX0, SX1, SX2, SX3, SX4, SX5, SX6, SX7, SX8, SU0, SY0, SY1, Nat.reduceAdd, Nat.reduceMul, Nat.reduceSub, Nat.reduceLeDiff, Nat.reduceEqDiff, Nat.reduceLT, Nat.reduceBEq, ↓reduceIte, Int.reduceLE, Int.reduceLT, Int.reduceToNat, Int.reduceNeg, reduceCtorEq, Int.reduceEq, SF0, SF1, SF2, DDe0, DCg0, DCe0, DCe1, DCe2, DDb0, DBc0, DBc1, DAlg0, DAlh0, DHb0, DHb1, DHa0, SX0]) ?_
  rintro _ _ ⟨rfl, rfl⟩
  simp (disch := omega) only [SX0, SX1, SX2, SX3, SX4, SX5, SX6, SX7, SX8, SU0, SY0, SY1, Nat.reduceAdd, Nat.reduceMul, Nat.reduceSub, Nat.reduceLeDiff, Nat.reduceEqDiff, Nat.reduceLT, Nat.reduceBEq, ↓reduceIte, Int.reduceLE, Int.reduceLT, Int.reduceToNat, Int.reduceNeg, reduceCtorEq, Int.reduceEq, SF0, SF1, SF2, DDe0, DCg0, DCe0, DCe1, DCe2, DDb0, DBc0, DBc1, DAlg0, DAlh0, DHb0, DHb1, DHa0]
  refine acall_own (barLengthsS_c _ 0 hx' hl' (by omega)) [0] [] (by simp only [SX0, SX1, SX2, SX3, SX4, SX5, SX6, SX7, SX8, SU0, SY0, SY1, Nat.reduceAdd, Nat.reduceMul, Nat.reduceSub, Nat.reduceLeDiff, Nat.reduceEqDiff, Nat.reduceLT, Nat.reduceBEq, ↓reduceIte, Int.reduceLE, Int.reduceLT, Int.reduceToNat, Int.reduceNeg, reduceCtorEq, Int.reduceEq, SF0, SF1, SF2, DDe0, DCg0, DCe0, DCe1, DCe2, DDb0, DBc0, DBc1, DAlg0, DAlh0, DHb0, DHb1, DHa0, SX0]) (by decide) (by decide) (by rfl) (by simp only [SX0, SX1, SX2, SX3, SX4, SX5, SX6, SX7, SX8, SU0, SY0, SY1, Nat.reduceAdd, Nat.reduceMul, Nat.reduceSub, Nat.reduceLeDiff, Nat.reduceEqDiff, Nat.reduceLT, Nat.reduceBEq, ↓reduceIte, Int.reduceLE, Int.reduceLT, Int.reduceToNat, Int.reduceNeg, reduceCtorEq, Int.reduceEq, SF0, SF1, SF2, DDe0, DCg0, DCe0, DCe1, DCe2, DDb0, DBc0, DBc1, DAlg0, DAlh0, DHb0, DHb1, DHa0, SX0]) ?_
  rintro _ _ ⟨S, bar, p1, rfl, rfl, h1, h2⟩
  have hT : (S.take S.length).length ≤ 14 := by rw [List.take_length]; exact h1
  simp (disch := omega) only [SX0, SX1, SX2, SX3, SX4, SX5, SX6, SX7, SX8, SU0, SY0, SY1, Nat.reduceAdd, Nat.reduceMul, Nat.reduceSub, Nat.reduceLeDiff, Nat.reduceEqDiff, Nat.reduceLT, Nat.reduceBEq, ↓reduceIte, Int.reduceLE, Int.reduceLT, Int.reduceToNat, Int.reduceNeg, reduceCtorEq, Int.reduceEq, SF0, SF1, SF2, DDe0, DCg0, DCe0, DCe1, DCe2, DDb0, DBc0, DBc1, DAlg0, DAlh0, DHb0, DHb1, DHa0]
  refine br_dec (fun h3 => ?_) (fun h3 => ?_)
  · simp (disch := omega) only [SX0, SX1, SX2, SX3, SX4, SX5, SX6, SX7, SX8, SU0, SY0, SY1, Nat.reduceAdd, Nat.reduceMul, Nat.reduceSub, Nat.reduceLeDiff, Nat.reduceEqDiff, Nat.reduceLT, Nat.reduceBEq, ↓reduceIte, Int.reduceLE, Int.reduceLT, Int.reduceToNat, Int.reduceNeg, reduceCtorEq, Int.reduceEq, SF0, SF1, SF2, DDe0, DCg0, DCe0, DCe1, DCe2, DDb0, DBc0, DBc1, DAlg0, DAlh0, DHb0, DHb1, DHa0]
    refine pick_call hx' hl' (by omega) rfl fun v hv1 hv2 _ => ?_
    simp (disch := omega) only [SX0, SX1, SX2, SX3, SX4, SX5, SX6, SX7, SX8, SU0, SY0, SY1, Nat.reduceAdd, Nat.reduceMul, Nat.reduceSub, Nat.reduceLeDiff, Nat.reduceEqDiff, Nat.reduceLT, Nat.reduceBEq, ↓reduceIte, Int.reduceLE, Int.reduceLT, Int.reduceToNat, Int.reduceNeg, reduceCtorEq, Int.reduceEq, SF0, SF1, SF2, DDe0, DCg0, DCe0, DCe1, DCe2, DDb0, DBc0, DBc1, DAlg0, DAlh0, DHb0, DHb1, DHa0]
    refine br_dec (fun h4 => ?_) (fun h4 => ?_)
    · repeat' first | simp (disch := omega) only [SX0, SX1, SX2, SX3, SX4, SX5, SX6, SX7, SX8, SU0, SY0, SY1, Nat.reduceAdd, Nat.reduceMul, Nat.reduceSub, Nat.reduceLeDiff, Nat.reduceEqDiff, Nat.reduceLT, Nat.reduceBEq, ↓reduceIte, Int.reduceLE, Int.reduceLT, Int.reduceToNat, Int.reduceNeg, reduceCtorEq, Int.reduceEq, SF0, SF1, SF2, DDe0, DCg0, DCe0, DCe1, DCe2, DDb0, DBc0, DBc1, DAlg0, DAlh0, DHb0, DHb1, DHa0] | refine req (by simp only [List.length_map]; omega) ?_ | refine req (by omega) ?_ | fail
      exact fin_bars S 6 1 bar rfl (by omega) ⟨rfl, _, _, rfl, by rw [List.length_take]; omega⟩
    · simp (disch := omega) only [SX0, SX1, SX2, SX3, SX4, SX5, SX6, SX7, SX8, SU0, SY0, SY1, Nat.reduceAdd, Nat.reduceMul, Nat.reduceSub, Nat.reduceLeDiff, Nat.reduceEqDiff, Nat.reduceLT, Nat.reduceBEq, ↓reduceIte, Int.reduceLE, Int.reduceLT, Int.reduceToNat, Int.reduceNeg, reduceCtorEq, Int.reduceEq, SF0, SF1, SF2, DDe0, DCg0, DCe0, DCe1, DCe2, DDb0, DBc0, DBc1, DAlg0, DAlh0, DHb0, DHb1, DHa0]
      exact fin_bars S S.length 1 bar rfl (Nat.le_refl _) ⟨rfl, _, _, rfl, hT⟩
  · simp (disch := omega) only [SX0, SX1, SX2, SX3, SX4, SX5, SX6, SX7, SX8, SU0, SY0, SY1, Nat.reduceAdd, Nat.reduceMul, Nat.reduceSub, Nat.reduceLeDiff, Nat.reduceEqDiff, Nat.reduceLT, Nat.reduceBEq, ↓reduceIte, Int.reduceLE, Int.reduceLT, Int.reduceToNat, Int.reduceNeg, reduceCtorEq, Int.reduceEq, SF0, SF1, SF2, DDe0, DCg0, DCe0, DCe1, DCe2, DDb0, DBc0, DBc1, DAlg0, DAlh0, DHb0, DHb1, DHa0]
    exact fin_bars S S.length 1 bar rfl (Nat.le_refl _) ⟨rfl, _, _, rfl, hT⟩

end Go.Pc
