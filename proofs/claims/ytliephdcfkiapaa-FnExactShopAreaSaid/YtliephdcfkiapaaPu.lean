/- What the exact laws do with shops; ValidShop and ShopArea of the program and of the reference, for all arguments. -/
import Derived.Test.YtliephdcfkiapaaPb
import Derived.Test.YtliephdcfkiapaaPt
set_option linter.unusedSimpArgs false
set_option linter.unusedVariables false
namespace Go.Pc
open Go Go.Proofs

theorem leftOf_of {n : Nat} {left : Int} (h : (n : Int) ≤ left) : leftOf n left = left - n := by unfold leftOf; rw [if_pos h]
def flawsL (l : List Piece) : Nat := (l.map fun q => q.Fl.length).sum
theorem flawsL_next {l : List Piece} {i : Nat} {q : Piece} (h : l[i]? = some q) : flawsL (l.take (i + 1)) = flawsL (l.take i) + q.Fl.length := by
  unfold flawsL; rw [List.take_add_one, h]; simp
theorem flawsL_split (l : List Piece) (i : Nat) : flawsL l = flawsL (l.take i) + flawsL (l.drop i) := by
  unfold flawsL
  rw [← List.sum_append, ← List.map_append, List.take_append_drop]
theorem flawsL_mem {l : List Piece} {q : Piece} (h : q ∈ l) : q.Fl.length ≤ flawsL l := by
  obtain ⟨i, hi, rfl⟩ := List.mem_iff_getElem.1 h
  have h1 := flawsL_split l (i + 1)
  have h2 := flawsL_next (List.getElem?_eq_getElem hi)
  omega

theorem e_szPieceS : Enters Try.prog 104 := enters_of Try.func104 (by kernel_rfl) (by kernel_rfl)
set_option maxHeartbeats 1000000 in
theorem szPieceS_c (ks : List Piece) (left : Int) (hl : ks.length ≤ 9223372036854775807) (hq' : ∀ q ∈ ks, q.Fl.length ≤ 9223372036854775807) (h : 0 ≤ left ∧ left ≤ 1048576) :
    ACalls Try.prog 104 [.sl (ks.map Piece.cs), .val (.int .i64 left)] [] [] (fun r L => r = .val (.int .i64 (leftOf (ks.length + flawsL ks) left)) ∧ L = []) := by
  refine acalls_tm T_tt Try.func104 rfl e_szPieceS 25 rfl (W8 _ _ .any .any .any .any .any .any (W8 .any .any .any .any .any .any .any .any (W8 .any .any .any .any .any .any .any .any [.any, .any, .any]))) rfl (rv := [.tmp 4]) rfl (sx_sound (bl := []) T_tt _ _ _ ?_)
  simp (disch := omega) only [SX0, SX1, SX2, SX3, SX4, SX5, SX6, SX7, SX8, SU0, SY0, SY1, Nat.reduceAdd, Nat.reduceMul, Nat.reduceSub, Nat.reduceLeDiff, Nat.reduceEqDiff, Nat.reduceLT, Nat.reduceBEq, ↓reduceIte, Int.reduceLE, Int.reduceLT, Int.reduceToNat, Int.reduceNeg, reduceCtorEq, Int.reduceEq, SF0, SF1, SF2, DPb0, DLa0, DCg0, DCe0, DCa0, DCa1, DDb0, DBc0, DBa0, DPa0, DHb0, DHb1, DHa0, DPt0, DPt1, DPs0]
  refine br_dec (fun h1 => ?_) (fun h1 => ?_)
  · simp (disch := omega) only [SX0, SX1, SX2, SX3, SX4, SX5, SX6, SX7, SX8, SU0, SY0, SY1, Nat.reduceAdd, Nat.reduceMul, Nat.reduceSub, Nat.reduceLeDiff, Nat.reduceEqDiff, Nat.reduceLT, Nat.reduceBEq, ↓reduceIte, Int.reduceLE, Int.reduceLT, Int.reduceToNat, Int.reduceNeg, reduceCtorEq, Int.reduceEq, SF0, SF1, SF2, DPb0, DLa0, DCg0, DCe0, DCa0, DCa1, DDb0, DBc0, DBa0, DPa0, DHb0, DHb1, DHa0, DPt0, DPt1, DPs0]
    exact fin_val ⟨by unfold leftOf; rw [if_neg (by omega)], rfl⟩
  simp (disch := omega) only [SX0, SX1, SX2, SX3, SX4, SX5, SX6, SX7, SX8, SU0, SY0, SY1, Nat.reduceAdd, Nat.reduceMul, Nat.reduceSub, Nat.reduceLeDiff, Nat.reduceEqDiff, Nat.reduceLT, Nat.reduceBEq, ↓reduceIte, Int.reduceLE, Int.reduceLT, Int.reduceToNat, Int.reduceNeg, reduceCtorEq, Int.reduceEq, SF0, SF1, SF2, DPb0, DLa0, DCg0, DCe0, DCa0, DCa1, DDb0, DBc0, DBa0, DPa0, DHb0, DHb1, DHa0, DPt0, DPt1, DPs0]
  with_reducible refine awp_loop_h 1 26 (fun (i : Nat) => [(1, .val (.int .i64 (left - ks.length - flawsL (ks.take i)))), (4, .val (.int .i64 0)), (5, .val (.int .i64 i))]) (fun i => []) (fun i => i ≤ ks.length ∧ 0 ≤ left - ks.length - flawsL (ks.take i)) (fun i => ks.length - i) 0 ⟨Nat.zero_le _, by simp [flawsL]; omega⟩ ?_ (fun i hi => sx_sound (bl := []) T_tt _ _ _ ?_)
  · simp (disch := omega) only [SX0, SX1, SX2, SX3, SX4, SX5, SX6, SX7, SX8, SU0, SY0, SY1, Nat.reduceAdd, Nat.reduceMul, Nat.reduceSub, Nat.reduceLeDiff, Nat.reduceEqDiff, Nat.reduceLT, Nat.reduceBEq, ↓reduceIte, Int.reduceLE, Int.reduceLT, Int.reduceToNat, Int.reduceNeg, reduceCtorEq, Int.reduceEq, SF0, SF1, SF2, DPb0, DLa0, DCg0, DCe0, DCa0, DCa1, DDb0, DBc0, DBa0, DPa0, DHb0, DHb1, DHa0, DPt0, DPt1, DPs0]
    (refine wk_le ?_ ?_ ?_; (focus (simp [W8, leTm, leAV, AV.under, underL, flawsL]; done)); (focus (simp [leL, OB.under, underL, AV.under, flawsL]; done)); (focus (simp; done)))
  simp (disch := omega) only [SX0, SX1, SX2, SX3, SX4, SX5, SX6, SX7, SX8, SU0, SY0, SY1, Nat.reduceAdd, Nat.reduceMul, Nat.reduceSub, Nat.reduceLeDiff, Nat.reduceEqDiff, Nat.reduceLT, Nat.reduceBEq, ↓reduceIte, Int.reduceLE, Int.reduceLT, Int.reduceToNat, Int.reduceNeg, reduceCtorEq, Int.reduceEq, SF0, SF1, SF2, DPb0, DLa0, DCg0, DCe0, DCa0, DCa1, DDb0, DBc0, DBa0, DPa0, DHb0, DHb1, DHa0, DPt0, DPt1, DPs0]
  refine br_dec (fun h2 => ?_) (fun h2 => ?_)
  · obtain ⟨q, hq⟩ := get_lt (l := ks) (i := i) (by omega)
    have hn := flawsL_next hq
    have hg := flawsL_split ks (i + 1)
    simp (disch := omega) only [SX0, SX1, SX2, SX3, SX4, SX5, SX6, SX7, SX8, SU0, SY0, SY1, Nat.reduceAdd, Nat.reduceMul, Nat.reduceSub, Nat.reduceLeDiff, Nat.reduceEqDiff, Nat.reduceLT, Nat.reduceBEq, ↓reduceIte, Int.reduceLE, Int.reduceLT, Int.reduceToNat, Int.reduceNeg, reduceCtorEq, Int.reduceEq, SF0, SF1, SF2, DPb0, DLa0, DCg0, DCe0, DCa0, DCa1, DDb0, DBc0, DBa0, DPa0, DHb0, DHb1, DHa0, DPt0, DPt1, DPs0, hq]
    refine acall_one (szPiece_c q _ (hq' q (List.mem_of_getElem? hq)) ⟨hi.2, by omega⟩) rfl rfl ?_
    simp (disch := omega) only [SX0, SX1, SX2, SX3, SX4, SX5, SX6, SX7, SX8, SU0, SY0, SY1, Nat.reduceAdd, Nat.reduceMul, Nat.reduceSub, Nat.reduceLeDiff, Nat.reduceEqDiff, Nat.reduceLT, Nat.reduceBEq, ↓reduceIte, Int.reduceLE, Int.reduceLT, Int.reduceToNat, Int.reduceNeg, reduceCtorEq, Int.reduceEq, SF0, SF1, SF2, DPb0, DLa0, DCg0, DCe0, DCa0, DCa1, DDb0, DBc0, DBa0, DPa0, DHb0, DHb1, DHa0, DPt0, DPt1, DPs0]
    refine br_dec (fun h3 => ?_) (fun h3 => ?_)
    · simp (disch := omega) only [SX0, SX1, SX2, SX3, SX4, SX5, SX6, SX7, SX8, SU0, SY0, SY1, Nat.reduceAdd, Nat.reduceMul, Nat.reduceSub, Nat.reduceLeDiff, Nat.reduceEqDiff, Nat.reduceLT, Nat.reduceBEq, ↓reduceIte, Int.reduceLE, Int.reduceLT, Int.reduceToNat, Int.reduceNeg, reduceCtorEq, Int.reduceEq, SF0, SF1, SF2, DPb0, DLa0, DCg0, DCe0, DCa0, DCa1, DDb0, DBc0, DBa0, DPa0, DHb0, DHb1, DHa0, DPt0, DPt1, DPs0]
      exact fin_val ⟨by unfold leftOf at *; split at h3 <;> (rw [if_neg (by omega)]), rfl⟩
    · simp (disch := omega) only [SX0, SX1, SX2, SX3, SX4, SX5, SX6, SX7, SX8, SU0, SY0, SY1, Nat.reduceAdd, Nat.reduceMul, Nat.reduceSub, Nat.reduceLeDiff, Nat.reduceEqDiff, Nat.reduceLT, Nat.reduceBEq, ↓reduceIte, Int.reduceLE, Int.reduceLT, Int.reduceToNat, Int.reduceNeg, reduceCtorEq, Int.reduceEq, SF0, SF1, SF2, DPb0, DLa0, DCg0, DCe0, DCa0, DCa1, DDb0, DBc0, DBa0, DPa0, DHb0, DHb1, DHa0, DPt0, DPt1, DPs0]
      obtain ⟨h4, h5⟩ := leftOf_pos h3
      have e : leftOf q.Fl.length (left - ks.length - flawsL (ks.take i)) = left - ks.length - flawsL (ks.take (i + 1)) := by omega
      rw [e]
      refine ⟨i + 1, ⟨by omega, by omega⟩, by omega, ?_⟩
      (refine wk_le ?_ ?_ ?_; (focus (simp [W8, leTm, leAV, AV.under, underL]; done)); (focus (simp [leL, OB.under, underL, AV.under]; done)); (focus (simp; done)))
  · have hi2 := hi.2
    rw [List.take_of_length_le (by omega)] at hi2
    rw [List.take_of_length_le (by omega)]
    simp (disch := omega) only [SX0, SX1, SX2, SX3, SX4, SX5, SX6, SX7, SX8, SU0, SY0, SY1, Nat.reduceAdd, Nat.reduceMul, Nat.reduceSub, Nat.reduceLeDiff, Nat.reduceEqDiff, Nat.reduceLT, Nat.reduceBEq, ↓reduceIte, Int.reduceLE, Int.reduceLT, Int.reduceToNat, Int.reduceNeg, reduceCtorEq, Int.reduceEq, SF0, SF1, SF2, DPb0, DLa0, DCg0, DCe0, DCa0, DCa1, DDb0, DBc0, DBa0, DPa0, DHb0, DHb1, DHa0, DPt0, DPt1, DPs0]
    exact fin_val ⟨congrArg (fun z => AV.val (.int .i64 z)) (by rw [leftOf_of (by omega)]; omega), rfl⟩

theorem e_szLineS : Enters Try.prog 105 := enters_of Try.func105 (by kernel_rfl) (by kernel_rfl)
theorem szLineS_c (l : List Line) (left : Int) (hl : l.length ≤ 9223372036854775807) (h : 0 ≤ left ∧ left ≤ 1048576) : ACalls Try.prog 105 [.sl (l.map Line.cs), .val (.int .i64 left)] [] [] (fun r L => r = .val (.int .i64 (leftOf l.length left)) ∧ L = []) := by
  refine acalls_tm T_tt Try.func105 rfl e_szLineS 10 rfl (W8 _ _ .any .any .any .any .any .any [.any, .any, .any, .any]) rfl (rv := [.tmp 4]) rfl (sx_sound (bl := []) T_tt _ _ _ ?_)
  simp (disch := omega) only [SX0, SX1, SX2, SX3, SX4, SX5, SX6, SX7, SX8, SU0, SY0, SY1, Nat.reduceAdd, Nat.reduceMul, Nat.reduceSub, Nat.reduceLeDiff, Nat.reduceEqDiff, Nat.reduceLT, Nat.reduceBEq, ↓reduceIte, Int.reduceLE, Int.reduceLT, Int.reduceToNat, Int.reduceNeg, reduceCtorEq, Int.reduceEq, SF0, SF1, SF2, DPb0, DLa0, DCg0, DCe0, DCa0, DCa1, DDb0, DBc0, DBa0, DPa0, DHb0, DHb1, DHa0, DPt0, DPt1, DPs0]
  refine br_dec (fun h1 => ?_) (fun h1 => ?_)
  · simp (disch := omega) only [SX0, SX1, SX2, SX3, SX4, SX5, SX6, SX7, SX8, SU0, SY0, SY1, Nat.reduceAdd, Nat.reduceMul, Nat.reduceSub, Nat.reduceLeDiff, Nat.reduceEqDiff, Nat.reduceLT, Nat.reduceBEq, ↓reduceIte, Int.reduceLE, Int.reduceLT, Int.reduceToNat, Int.reduceNeg, reduceCtorEq, Int.reduceEq, SF0, SF1, SF2, DPb0, DLa0, DCg0, DCe0, DCa0, DCa1, DDb0, DBc0, DBa0, DPa0, DHb0, DHb1, DHa0, DPt0, DPt1, DPs0]
    exact fin_val ⟨by unfold leftOf; rw [if_neg (by omega)], rfl⟩
  · simp (disch := omega) only [SX0, SX1, SX2, SX3, SX4, SX5, SX6, SX7, SX8, SU0, SY0, SY1, Nat.reduceAdd, Nat.reduceMul, Nat.reduceSub, Nat.reduceLeDiff, Nat.reduceEqDiff, Nat.reduceLT, Nat.reduceBEq, ↓reduceIte, Int.reduceLE, Int.reduceLT, Int.reduceToNat, Int.reduceNeg, reduceCtorEq, Int.reduceEq, SF0, SF1, SF2, DPb0, DLa0, DCg0, DCe0, DCa0, DCa1, DDb0, DBc0, DBa0, DPa0, DHb0, DHb1, DHa0, DPt0, DPt1, DPs0]
    exact fin_val ⟨by unfold leftOf; rw [if_pos (by omega)], rfl⟩

theorem e_szShop : Enters Try.prog 51 := enters_of Try.func51 (by kernel_rfl) (by kernel_rfl)
set_option maxHeartbeats 1000000 in
theorem szShop_c (q : Shop) (left : Int) (h0 : q.St.length ≤ 9223372036854775807) (hq' : ∀ p ∈ q.St, p.Fl.length ≤ 9223372036854775807) (h1 : q.Op.length ≤ 9223372036854775807) (h2 : q.Do.length ≤ 9223372036854775807) (h : 0 ≤ left ∧ left ≤ 1048576) :
    ACalls Try.prog 51 [.agg q.cs, .val (.int .i64 left)] [] [] (fun r L => r = .val (.int .i64 (leftOf (q.St.length + flawsL q.St + q.Op.length + q.Do.length) left)) ∧ L = []) := by
  refine acalls_tm T_tt Try.func51 rfl e_szShop 22 rfl (W8 _ _ .any .any .any .any .any .any (W8 .any .any .any .any .any .any .any .any (W8 .any .any .any .any .any .any .any .any []))) rfl (rv := [.tmp 4]) rfl (sx_sound (bl := []) T_tt _ _ _ ?_)
  simp (disch := omega) only [SX0, SX1, SX2, SX3, SX4, SX5, SX6, SX7, SX8, SU0, SY0, SY1, Nat.reduceAdd, Nat.reduceMul, Nat.reduceSub, Nat.reduceLeDiff, Nat.reduceEqDiff, Nat.reduceLT, Nat.reduceBEq, ↓reduceIte, Int.reduceLE, Int.reduceLT, Int.reduceToNat, Int.reduceNeg, reduceCtorEq, Int.reduceEq, SF0, SF1, SF2, DPb0, DLa0, DCg0, DCe0, DCa0, DCa1, DDb0, DBc0, DBa0, DPa0, DHb0, DHb1, DHa0, DPt0, DPt1, DPs0]
  refine acall_one (szPieceS_c q.St left h0 hq' h) rfl rfl ?_
  simp (disch := omega) only [SX0, SX1, SX2, SX3, SX4, SX5, SX6, SX7, SX8, SU0, SY0, SY1, Nat.reduceAdd, Nat.reduceMul, Nat.reduceSub, Nat.reduceLeDiff, Nat.reduceEqDiff, Nat.reduceLT, Nat.reduceBEq, ↓reduceIte, Int.reduceLE, Int.reduceLT, Int.reduceToNat, Int.reduceNeg, reduceCtorEq, Int.reduceEq, SF0, SF1, SF2, DPb0, DLa0, DCg0, DCe0, DCa0, DCa1, DDb0, DBc0, DBa0, DPa0, DHb0, DHb1, DHa0, DPt0, DPt1, DPs0]
  refine br_dec (fun h3 => ?_) (fun h3 => ?_)
  · simp (disch := omega) only [SX0, SX1, SX2, SX3, SX4, SX5, SX6, SX7, SX8, SU0, SY0, SY1, Nat.reduceAdd, Nat.reduceMul, Nat.reduceSub, Nat.reduceLeDiff, Nat.reduceEqDiff, Nat.reduceLT, Nat.reduceBEq, ↓reduceIte, Int.reduceLE, Int.reduceLT, Int.reduceToNat, Int.reduceNeg, reduceCtorEq, Int.reduceEq, SF0, SF1, SF2, DPb0, DLa0, DCg0, DCe0, DCa0, DCa1, DDb0, DBc0, DBa0, DPa0, DHb0, DHb1, DHa0, DPt0, DPt1, DPs0]
    exact fin_val ⟨by unfold leftOf at *; split at h3 <;> (rw [if_neg (by omega)]), rfl⟩
  obtain ⟨a1, a2⟩ := leftOf_pos h3
  rw [a2]
  simp (disch := omega) only [SX0, SX1, SX2, SX3, SX4, SX5, SX6, SX7, SX8, SU0, SY0, SY1, Nat.reduceAdd, Nat.reduceMul, Nat.reduceSub, Nat.reduceLeDiff, Nat.reduceEqDiff, Nat.reduceLT, Nat.reduceBEq, ↓reduceIte, Int.reduceLE, Int.reduceLT, Int.reduceToNat, Int.reduceNeg, reduceCtorEq, Int.reduceEq, SF0, SF1, SF2, DPb0, DLa0, DCg0, DCe0, DCa0, DCa1, DDb0, DBc0, DBa0, DPa0, DHb0, DHb1, DHa0, DPt0, DPt1, DPs0]
  refine acall_one (szLineS_c q.Op _ h1 (by omega)) rfl rfl ?_
  simp (disch := omega) only [SX0, SX1, SX2, SX3, SX4, SX5, SX6, SX7, SX8, SU0, SY0, SY1, Nat.reduceAdd, Nat.reduceMul, Nat.reduceSub, Nat.reduceLeDiff, Nat.reduceEqDiff, Nat.reduceLT, Nat.reduceBEq, ↓reduceIte, Int.reduceLE, Int.reduceLT, Int.reduceToNat, Int.reduceNeg, reduceCtorEq, Int.reduceEq, SF0, SF1, SF2, DPb0, DLa0, DCg0, DCe0, DCa0, DCa1, DDb0, DBc0, DBa0, DPa0, DHb0, DHb1, DHa0, DPt0, DPt1, DPs0]
  refine br_dec (fun h4 => ?_) (fun h4 => ?_)
  · simp (disch := omega) only [SX0, SX1, SX2, SX3, SX4, SX5, SX6, SX7, SX8, SU0, SY0, SY1, Nat.reduceAdd, Nat.reduceMul, Nat.reduceSub, Nat.reduceLeDiff, Nat.reduceEqDiff, Nat.reduceLT, Nat.reduceBEq, ↓reduceIte, Int.reduceLE, Int.reduceLT, Int.reduceToNat, Int.reduceNeg, reduceCtorEq, Int.reduceEq, SF0, SF1, SF2, DPb0, DLa0, DCg0, DCe0, DCa0, DCa1, DDb0, DBc0, DBa0, DPa0, DHb0, DHb1, DHa0, DPt0, DPt1, DPs0]
    exact fin_val ⟨by unfold leftOf at *; split at h4 <;> (rw [if_neg (by omega)]), rfl⟩
  obtain ⟨a3, a4⟩ := leftOf_pos h4
  rw [a4]
  simp (disch := omega) only [SX0, SX1, SX2, SX3, SX4, SX5, SX6, SX7, SX8, SU0, SY0, SY1, Nat.reduceAdd, Nat.reduceMul, Nat.reduceSub, Nat.reduceLeDiff, Nat.reduceEqDiff, Nat.reduceLT, Nat.reduceBEq, ↓reduceIte, Int.reduceLE, Int.reduceLT, Int.reduceToNat, Int.reduceNeg, reduceCtorEq, Int.reduceEq, SF0, SF1, SF2, DPb0, DLa0, DCg0, DCe0, DCa0, DCa1, DDb0, DBc0, DBa0, DPa0, DHb0, DHb1, DHa0, DPt0, DPt1, DPs0]
  refine acall_one (szLineS_c q.Do _ h2 (by omega)) rfl rfl ?_
  simp (disch := omega) only [SX0, SX1, SX2, SX3, SX4, SX5, SX6, SX7, SX8, SU0, SY0, SY1, Nat.reduceAdd, Nat.reduceMul, Nat.reduceSub, Nat.reduceLeDiff, Nat.reduceEqDiff, Nat.reduceLT, Nat.reduceBEq, ↓reduceIte, Int.reduceLE, Int.reduceLT, Int.reduceToNat, Int.reduceNeg, reduceCtorEq, Int.reduceEq, SF0, SF1, SF2, DPb0, DLa0, DCg0, DCe0, DCa0, DCa1, DDb0, DBc0, DBa0, DPa0, DHb0, DHb1, DHa0, DPt0, DPt1, DPs0]
  refine br_dec (fun h5 => ?_) (fun h5 => ?_)
  · simp (disch := omega) only [SX0, SX1, SX2, SX3, SX4, SX5, SX6, SX7, SX8, SU0, SY0, SY1, Nat.reduceAdd, Nat.reduceMul, Nat.reduceSub, Nat.reduceLeDiff, Nat.reduceEqDiff, Nat.reduceLT, Nat.reduceBEq, ↓reduceIte, Int.reduceLE, Int.reduceLT, Int.reduceToNat, Int.reduceNeg, reduceCtorEq, Int.reduceEq, SF0, SF1, SF2, DPb0, DLa0, DCg0, DCe0, DCa0, DCa1, DDb0, DBc0, DBa0, DPa0, DHb0, DHb1, DHa0, DPt0, DPt1, DPs0]
    exact fin_val ⟨by unfold leftOf at *; split at h5 <;> (rw [if_neg (by omega)]), rfl⟩
  obtain ⟨a5, a6⟩ := leftOf_pos h5
  rw [a6]
  simp (disch := omega) only [SX0, SX1, SX2, SX3, SX4, SX5, SX6, SX7, SX8, SU0, SY0, SY1, Nat.reduceAdd, Nat.reduceMul, Nat.reduceSub, Nat.reduceLeDiff, Nat.reduceEqDiff, Nat.reduceLT, Nat.reduceBEq, ↓reduceIte, Int.reduceLE, Int.reduceLT, Int.reduceToNat, Int.reduceNeg, reduceCtorEq, Int.reduceEq, SF0, SF1, SF2, DPb0, DLa0, DCg0, DCe0, DCa0, DCa1, DDb0, DBc0, DBa0, DPa0, DHb0, DHb1, DHa0, DPt0, DPt1, DPs0]
  exact fin_val ⟨congrArg (fun z => AV.val (.int .i64 z)) (by rw [leftOf_of (by omega)]; omega), rfl⟩

theorem e_toLine : Enters Try.prog 142 := enters_of Try.func142 (by kernel_rfl) (by kernel_rfl)
theorem toLine_c (q : Line) : ACalls Try.prog 142 [.agg q.cs] [] [] (fun r L => r = .agg q.cs ∧ L = []) := by
  refine acalls_tm T_tt Try.func142 rfl e_toLine 11 rfl (W8 _ .any .any .any .any .any .any .any [.any, .any, .any, .any]) rfl (rv := [.cell 2 175]) rfl (sx_sound (bl := []) T_tt _ _ _ ?_)
  simp (disch := omega) only [SX0, SX1, SX2, SX3, SX4, SX5, SX6, SX7, SX8, SU0, SY0, SY1, Nat.reduceAdd, Nat.reduceMul, Nat.reduceSub, Nat.reduceLeDiff, Nat.reduceEqDiff, Nat.reduceLT, Nat.reduceBEq, ↓reduceIte, Int.reduceLE, Int.reduceLT, Int.reduceToNat, Int.reduceNeg, reduceCtorEq, Int.reduceEq, SF0, SF1, SF2, DPb0, DLa0, DCg0, DCe0, DCa0, DCa1, DDb0, DBc0, DBa0, DPa0, DHb0, DHb1, DHa0, DPt0, DPt1, DPs0]
  refine acall_one (toPane_c q.P) rfl rfl ?_
  simp (disch := omega) only [SX0, SX1, SX2, SX3, SX4, SX5, SX6, SX7, SX8, SU0, SY0, SY1, Nat.reduceAdd, Nat.reduceMul, Nat.reduceSub, Nat.reduceLeDiff, Nat.reduceEqDiff, Nat.reduceLT, Nat.reduceBEq, ↓reduceIte, Int.reduceLE, Int.reduceLT, Int.reduceToNat, Int.reduceNeg, reduceCtorEq, Int.reduceEq, SF0, SF1, SF2, DPb0, DLa0, DCg0, DCe0, DCa0, DCa1, DDb0, DBc0, DBa0, DPa0, DHb0, DHb1, DHa0, DPt0, DPt1, DPs0, Pane.cs]
  exact fin_free rfl ⟨rfl, rfl⟩

def zLine : List AV := [.val (.int .i64 0), .val (.int .i64 0), .val (.bool false), .val (.int .i64 0), .val (.int .i64 0)]
theorem zLine_len : zLine.length = 5 := rfl
theorem zLine_drop : zLine.drop 5 = [] := rfl
def zPiece : List AV := [.val (.int .i64 0), .val (.int .i64 0), .val (.int .i64 0), .val (.slice none 0 0)]
theorem zPiece_len : zPiece.length = 4 := rfl
theorem zPiece_drop : zPiece.drop 4 = [] := rfl
theorem DPu0 : type_of% @zLine_len ∧ type_of% @zLine_drop ∧ type_of% @zPiece_len ∧ type_of% @zPiece_drop := ⟨@zLine_len, @zLine_drop, @zPiece_len, @zPiece_drop⟩
theorem e_toLineS : Enters Try.prog 108 := enters_of Try.func108 (by kernel_rfl) (by kernel_rfl)
set_option maxHeartbeats 1000000 in
theorem toLineS_c (l : List Line) (hl : l.length ≤ 1048576) : ACalls Try.prog 108 [.sl (l.map Line.cs)] [] [] (fun r L => r = .sl (l.map Line.cs) ∧ L = []) := by
  refine acalls_tm T_tt Try.func108 rfl e_toLineS 22 rfl (W8 _ .any .any .any .any .any .any .any (W8 .any .any .any .any .any .any .any .any [.any, .any, .any, .any, .any, .any, .any])) rfl (rv := [.tmp 2]) rfl (sx_sound (bl := []) T_tt _ _ _ ?_)
  simp (disch := omega) only [SX0, SX1, SX2, SX3, SX4, SX5, SX6, SX7, SX8, SU0, SY0, SY1, Nat.reduceAdd, Nat.reduceMul, Nat.reduceSub, Nat.reduceLeDiff, Nat.reduceEqDiff, Nat.reduceLT, Nat.reduceBEq, ↓reduceIte, Int.reduceLE, Int.reduceLT, Int.reduceToNat, Int.reduceNeg, reduceCtorEq, Int.reduceEq, SF0, SF1, SF2, DPb0, DLa0, DCg0, DCe0, DCa0, DCa1, DDb0, DBc0, DBa0, DPa0, DHb0, DHb1, DHa0, DPt0, DPt1, DPs0, DPu0]
  refine req (by omega) ?_
  simp (disch := omega) only [SX0, SX1, SX2, SX3, SX4, SX5, SX6, SX7, SX8, SU0, SY0, SY1, Nat.reduceAdd, Nat.reduceMul, Nat.reduceSub, Nat.reduceLeDiff, Nat.reduceEqDiff, Nat.reduceLT, Nat.reduceBEq, ↓reduceIte, Int.reduceLE, Int.reduceLT, Int.reduceToNat, Int.reduceNeg, reduceCtorEq, Int.reduceEq, SF0, SF1, SF2, DPb0, DLa0, DCg0, DCe0, DCa0, DCa1, DDb0, DBc0, DBa0, DPa0, DHb0, DHb1, DHa0, DPt0, DPt1, DPs0, DPu0]
  with_reducible refine awp_loop_h 3 20 (fun (i : Nat) => [(3, .os 0 5 0 l.length), (4, .val (.int .i64 i))]) (fun i => [.vec 5 (fillR (l.map Line.cs) zLine i)]) (fun i => i ≤ l.length) (fun i => l.length - i) 0 (Nat.zero_le _) ?_ (fun i hi => sx_sound (bl := []) T_tt _ _ _ ?_)
  · simp (disch := omega) only [SX0, SX1, SX2, SX3, SX4, SX5, SX6, SX7, SX8, SU0, SY0, SY1, Nat.reduceAdd, Nat.reduceMul, Nat.reduceSub, Nat.reduceLeDiff, Nat.reduceEqDiff, Nat.reduceLT, Nat.reduceBEq, ↓reduceIte, Int.reduceLE, Int.reduceLT, Int.reduceToNat, Int.reduceNeg, reduceCtorEq, Int.reduceEq, SF0, SF1, SF2, DPb0, DLa0, DCg0, DCe0, DCa0, DCa1, DDb0, DBc0, DBa0, DPa0, DHb0, DHb1, DHa0, DPt0, DPt1, DPs0, DPu0]
    (refine wk_le ?_ ?_ ?_; (focus (simp [W8, leTm, leAV, AV.under, underL, fillR_zero, zLine]; done)); (focus (simp [leL, OB.under, underL, AV.under, fillR_zero, zLine]; done)); (focus (simp; done)))
  simp (disch := omega) only [SX0, SX1, SX2, SX3, SX4, SX5, SX6, SX7, SX8, SU0, SY0, SY1, Nat.reduceAdd, Nat.reduceMul, Nat.reduceSub, Nat.reduceLeDiff, Nat.reduceEqDiff, Nat.reduceLT, Nat.reduceBEq, ↓reduceIte, Int.reduceLE, Int.reduceLT, Int.reduceToNat, Int.reduceNeg, reduceCtorEq, Int.reduceEq, SF0, SF1, SF2, DPb0, DLa0, DCg0, DCe0, DCa0, DCa1, DDb0, DBc0, DBa0, DPa0, DHb0, DHb1, DHa0, DPt0, DPt1, DPs0, DPu0]
  refine br_dec (fun h1 => ?_) (fun h1 => ?_)
  · obtain ⟨q, hq⟩ := get_lt (l := l) (i := i) (by omega)
    have hlt : i < (l.map Line.cs).length := by simp; omega
    have hs := fillR_set (z := zLine) (show (l.map Line.cs)[i]? = some q.cs by simp [hq])
    have hg := fillR_get (z := zLine) hlt
    have h2t : ((i : Int) < (l.length : Int)) = True := eq_true h1
    simp (disch := omega) only [SX0, SX1, SX2, SX3, SX4, SX5, SX6, SX7, SX8, SU0, SY0, SY1, Nat.reduceAdd, Nat.reduceMul, Nat.reduceSub, Nat.reduceLeDiff, Nat.reduceEqDiff, Nat.reduceLT, Nat.reduceBEq, ↓reduceIte, Int.reduceLE, Int.reduceLT, Int.reduceToNat, Int.reduceNeg, reduceCtorEq, Int.reduceEq, SF0, SF1, SF2, DPb0, DLa0, DCg0, DCe0, DCa0, DCa1, DDb0, DBc0, DBa0, DPa0, DHb0, DHb1, DHa0, DPt0, DPt1, DPs0, DPu0, hq]
    refine acall_one (toLine_c q) rfl rfl ?_
    simp (disch := omega) only [SX0, SX1, SX2, SX3, SX4, SX5, SX6, SX7, SX8, SU0, SY0, SY1, Nat.reduceAdd, Nat.reduceMul, Nat.reduceSub, Nat.reduceLeDiff, Nat.reduceEqDiff, Nat.reduceLT, Nat.reduceBEq, ↓reduceIte, Int.reduceLE, Int.reduceLT, Int.reduceToNat, Int.reduceNeg, reduceCtorEq, Int.reduceEq, SF0, SF1, SF2, DPb0, DLa0, DCg0, DCe0, DCa0, DCa1, DDb0, DBc0, DBa0, DPa0, DHb0, DHb1, DHa0, DPt0, DPt1, DPs0, DPu0, hq, hg, h2t]
    refine ⟨i + 1, by omega, by omega, ?_⟩
    (refine wk_le ?_ ?_ ?_; (focus (simp [W8, leTm, leAV, AV.under, underL, hs]; done)); (focus (simp [leL, OB.under, underL, AV.under, hs]; done)); (focus (simp; done)))
  · simp (disch := omega) only [SX0, SX1, SX2, SX3, SX4, SX5, SX6, SX7, SX8, SU0, SY0, SY1, Nat.reduceAdd, Nat.reduceMul, Nat.reduceSub, Nat.reduceLeDiff, Nat.reduceEqDiff, Nat.reduceLT, Nat.reduceBEq, ↓reduceIte, Int.reduceLE, Int.reduceLT, Int.reduceToNat, Int.reduceNeg, reduceCtorEq, Int.reduceEq, SF0, SF1, SF2, DPb0, DLa0, DCg0, DCe0, DCa0, DCa1, DDb0, DBc0, DBa0, DPa0, DHb0, DHb1, DHa0, DPt0, DPt1, DPs0, DPu0]
    exact fin_row rfl (by simp [fillR_len]) ⟨by rw [fillR_full _ _ (by simp; omega)], rfl⟩

theorem e_toPieceS : Enters Try.prog 107 := enters_of Try.func107 (by kernel_rfl) (by kernel_rfl)
set_option maxHeartbeats 1000000 in
theorem toPieceS_c (l : List Piece) (hl : l.length ≤ 1048576) (hf : ∀ q ∈ l, q.Fl.length ≤ 1048576) : ACalls Try.prog 107 [.sl (l.map Piece.cs)] [] [] (fun r L => r = .sl (l.map Piece.cs) ∧ L = []) := by
  refine acalls_tm T_tt Try.func107 rfl e_toPieceS 22 rfl (W8 _ .any .any .any .any .any .any .any (W8 .any .any .any .any .any .any .any .any [.any, .any, .any, .any, .any, .any, .any])) rfl (rv := [.tmp 2]) rfl (sx_sound (bl := []) T_tt _ _ _ ?_)
  simp (disch := omega) only [SX0, SX1, SX2, SX3, SX4, SX5, SX6, SX7, SX8, SU0, SY0, SY1, Nat.reduceAdd, Nat.reduceMul, Nat.reduceSub, Nat.reduceLeDiff, Nat.reduceEqDiff, Nat.reduceLT, Nat.reduceBEq, ↓reduceIte, Int.reduceLE, Int.reduceLT, Int.reduceToNat, Int.reduceNeg, reduceCtorEq, Int.reduceEq, SF0, SF1, SF2, DPb0, DLa0, DCg0, DCe0, DCa0, DCa1, DDb0, DBc0, DBa0, DPa0, DHb0, DHb1, DHa0, DPt0, DPt1, DPs0, DPu0]
  refine req (by omega) ?_
  simp (disch := omega) only [SX0, SX1, SX2, SX3, SX4, SX5, SX6, SX7, SX8, SU0, SY0, SY1, Nat.reduceAdd, Nat.reduceMul, Nat.reduceSub, Nat.reduceLeDiff, Nat.reduceEqDiff, Nat.reduceLT, Nat.reduceBEq, ↓reduceIte, Int.reduceLE, Int.reduceLT, Int.reduceToNat, Int.reduceNeg, reduceCtorEq, Int.reduceEq, SF0, SF1, SF2, DPb0, DLa0, DCg0, DCe0, DCa0, DCa1, DDb0, DBc0, DBa0, DPa0, DHb0, DHb1, DHa0, DPt0, DPt1, DPs0, DPu0]
  with_reducible refine awp_loop_h 3 20 (fun (i : Nat) => [(3, .os 0 4 0 l.length), (4, .val (.int .i64 i))]) (fun i => [.vec 4 (fillR (l.map Piece.cs) zPiece i)]) (fun i => i ≤ l.length) (fun i => l.length - i) 0 (Nat.zero_le _) ?_ (fun i hi => sx_sound (bl := []) T_tt _ _ _ ?_)
  · simp (disch := omega) only [SX0, SX1, SX2, SX3, SX4, SX5, SX6, SX7, SX8, SU0, SY0, SY1, Nat.reduceAdd, Nat.reduceMul, Nat.reduceSub, Nat.reduceLeDiff, Nat.reduceEqDiff, Nat.reduceLT, Nat.reduceBEq, ↓reduceIte, Int.reduceLE, Int.reduceLT, Int.reduceToNat, Int.reduceNeg, reduceCtorEq, Int.reduceEq, SF0, SF1, SF2, DPb0, DLa0, DCg0, DCe0, DCa0, DCa1, DDb0, DBc0, DBa0, DPa0, DHb0, DHb1, DHa0, DPt0, DPt1, DPs0, DPu0]
    (refine wk_le ?_ ?_ ?_; (focus (simp [W8, leTm, leAV, AV.under, underL, fillR_zero, zPiece]; done)); (focus (simp [leL, OB.under, underL, AV.under, fillR_zero, zPiece]; done)); (focus (simp; done)))
  simp (disch := omega) only [SX0, SX1, SX2, SX3, SX4, SX5, SX6, SX7, SX8, SU0, SY0, SY1, Nat.reduceAdd, Nat.reduceMul, Nat.reduceSub, Nat.reduceLeDiff, Nat.reduceEqDiff, Nat.reduceLT, Nat.reduceBEq, ↓reduceIte, Int.reduceLE, Int.reduceLT, Int.reduceToNat, Int.reduceNeg, reduceCtorEq, Int.reduceEq, SF0, SF1, SF2, DPb0, DLa0, DCg0, DCe0, DCa0, DCa1, DDb0, DBc0, DBa0, DPa0, DHb0, DHb1, DHa0, DPt0, DPt1, DPs0, DPu0]
  refine br_dec (fun h1 => ?_) (fun h1 => ?_)
  · obtain ⟨q, hq⟩ := get_lt (l := l) (i := i) (by omega)
    have hlt : i < (l.map Piece.cs).length := by simp; omega
    have hs := fillR_set (z := zPiece) (show (l.map Piece.cs)[i]? = some q.cs by simp [hq])
    have hg := fillR_get (z := zPiece) hlt
    have h2t : ((i : Int) < (l.length : Int)) = True := eq_true h1
    simp (disch := omega) only [SX0, SX1, SX2, SX3, SX4, SX5, SX6, SX7, SX8, SU0, SY0, SY1, Nat.reduceAdd, Nat.reduceMul, Nat.reduceSub, Nat.reduceLeDiff, Nat.reduceEqDiff, Nat.reduceLT, Nat.reduceBEq, ↓reduceIte, Int.reduceLE, Int.reduceLT, Int.reduceToNat, Int.reduceNeg, reduceCtorEq, Int.reduceEq, SF0, SF1, SF2, DPb0, DLa0, DCg0, DCe0, DCa0, DCa1, DDb0, DBc0, DBa0, DPa0, DHb0, DHb1, DHa0, DPt0, DPt1, DPs0, DPu0, hq]
    refine acall_one (toPiece_c q (hf q (List.mem_of_getElem? hq))) rfl rfl ?_
    simp (disch := omega) only [SX0, SX1, SX2, SX3, SX4, SX5, SX6, SX7, SX8, SU0, SY0, SY1, Nat.reduceAdd, Nat.reduceMul, Nat.reduceSub, Nat.reduceLeDiff, Nat.reduceEqDiff, Nat.reduceLT, Nat.reduceBEq, ↓reduceIte, Int.reduceLE, Int.reduceLT, Int.reduceToNat, Int.reduceNeg, reduceCtorEq, Int.reduceEq, SF0, SF1, SF2, DPb0, DLa0, DCg0, DCe0, DCa0, DCa1, DDb0, DBc0, DBa0, DPa0, DHb0, DHb1, DHa0, DPt0, DPt1, DPs0, DPu0, hq, hg, h2t]
    refine ⟨i + 1, by omega, by omega, ?_⟩
    (refine wk_le ?_ ?_ ?_; (focus (simp [W8, leTm, leAV, AV.under, underL, hs]; done)); (focus (simp [leL, OB.under, underL, AV.under, hs]; done)); (focus (simp; done)))
  · simp (disch := omega) only [SX0, SX1, SX2, SX3, SX4, SX5, SX6, SX7, SX8, SU0, SY0, SY1, Nat.reduceAdd, Nat.reduceMul, Nat.reduceSub, Nat.reduceLeDiff, Nat.reduceEqDiff, Nat.reduceLT, Nat.reduceBEq, ↓reduceIte, Int.reduceLE, Int.reduceLT, Int.reduceToNat, Int.reduceNeg, reduceCtorEq, Int.reduceEq, SF0, SF1, SF2, DPb0, DLa0, DCg0, DCe0, DCa0, DCa1, DDb0, DBc0, DBa0, DPa0, DHb0, DHb1, DHa0, DPt0, DPt1, DPs0, DPu0]
    exact fin_row rfl (by simp [fillR_len]) ⟨by rw [fillR_full _ _ (by simp; omega)], rfl⟩

theorem e_toShop : Enters Try.prog 53 := enters_of Try.func53 (by kernel_rfl) (by kernel_rfl)
theorem toShop_c (q : Shop) (h0 : q.St.length ≤ 1048576) (hf : ∀ p ∈ q.St, p.Fl.length ≤ 1048576) (h1 : q.Op.length ≤ 1048576) (h2 : q.Do.length ≤ 1048576) : ACalls Try.prog 53 [.agg q.cs] [] [] (fun r L => r = .agg q.cs ∧ L = []) := by
  refine acalls_tm T_tt Try.func53 rfl e_toShop 22 rfl (W8 _ .any .any .any .any .any .any .any (W8 .any .any .any .any .any .any .any .any [.any, .any, .any, .any, .any, .any, .any])) rfl (rv := [.cell 2 96]) rfl (sx_sound (bl := []) T_tt _ _ _ ?_)
  simp (disch := omega) only [SX0, SX1, SX2, SX3, SX4, SX5, SX6, SX7, SX8, SU0, SY0, SY1, Nat.reduceAdd, Nat.reduceMul, Nat.reduceSub, Nat.reduceLeDiff, Nat.reduceEqDiff, Nat.reduceLT, Nat.reduceBEq, ↓reduceIte, Int.reduceLE, Int.reduceLT, Int.reduceToNat, Int.reduceNeg, reduceCtorEq, Int.reduceEq, SF0, SF1, SF2, DPb0, DLa0, DCg0, DCe0, DCa0, DCa1, DDb0, DBc0, DBa0, DPa0, DHb0, DHb1, DHa0, DPt0, DPt1, DPs0, DPu0]
  refine acall_one (toPieceS_c q.St h0 hf) rfl rfl ?_
  simp (disch := omega) only [SX0, SX1, SX2, SX3, SX4, SX5, SX6, SX7, SX8, SU0, SY0, SY1, Nat.reduceAdd, Nat.reduceMul, Nat.reduceSub, Nat.reduceLeDiff, Nat.reduceEqDiff, Nat.reduceLT, Nat.reduceBEq, ↓reduceIte, Int.reduceLE, Int.reduceLT, Int.reduceToNat, Int.reduceNeg, reduceCtorEq, Int.reduceEq, SF0, SF1, SF2, DPb0, DLa0, DCg0, DCe0, DCa0, DCa1, DDb0, DBc0, DBa0, DPa0, DHb0, DHb1, DHa0, DPt0, DPt1, DPs0, DPu0]
  refine acall_one (toLineS_c q.Op h1) rfl rfl ?_
  simp (disch := omega) only [SX0, SX1, SX2, SX3, SX4, SX5, SX6, SX7, SX8, SU0, SY0, SY1, Nat.reduceAdd, Nat.reduceMul, Nat.reduceSub, Nat.reduceLeDiff, Nat.reduceEqDiff, Nat.reduceLT, Nat.reduceBEq, ↓reduceIte, Int.reduceLE, Int.reduceLT, Int.reduceToNat, Int.reduceNeg, reduceCtorEq, Int.reduceEq, SF0, SF1, SF2, DPb0, DLa0, DCg0, DCe0, DCa0, DCa1, DDb0, DBc0, DBa0, DPa0, DHb0, DHb1, DHa0, DPt0, DPt1, DPs0, DPu0]
  refine acall_one (toLineS_c q.Do h2) rfl rfl ?_
  simp (disch := omega) only [SX0, SX1, SX2, SX3, SX4, SX5, SX6, SX7, SX8, SU0, SY0, SY1, Nat.reduceAdd, Nat.reduceMul, Nat.reduceSub, Nat.reduceLeDiff, Nat.reduceEqDiff, Nat.reduceLT, Nat.reduceBEq, ↓reduceIte, Int.reduceLE, Int.reduceLT, Int.reduceToNat, Int.reduceNeg, reduceCtorEq, Int.reduceEq, SF0, SF1, SF2, DPb0, DLa0, DCg0, DCe0, DCa0, DCa1, DDb0, DBc0, DBa0, DPa0, DHb0, DHb1, DHa0, DPt0, DPt1, DPs0, DPu0]
  exact fin_free rfl ⟨rfl, rfl⟩

theorem e_eqLine : Enters Try.prog 144 := enters_of Try.func144 (by kernel_rfl) (by kernel_rfl)
theorem eqLine_c (q : Line) : ACalls Try.prog 144 [.agg q.cs, .agg q.cs] [] [] (fun r L => r = .val (.bool true) ∧ L = []) := by
  refine acalls_tm T_tt Try.func144 rfl e_eqLine 14 rfl (W8 _ _ .any .any .any .any .any .any (W8 .any .any .any .any .any .any .any .any [])) rfl (rv := [.tmp 4]) rfl (sx_sound (bl := []) T_tt _ _ _ ?_)
  simp (disch := omega) only [SX0, SX1, SX2, SX3, SX4, SX5, SX6, SX7, SX8, SU0, SY0, SY1, Nat.reduceAdd, Nat.reduceMul, Nat.reduceSub, Nat.reduceLeDiff, Nat.reduceEqDiff, Nat.reduceLT, Nat.reduceBEq, ↓reduceIte, Int.reduceLE, Int.reduceLT, Int.reduceToNat, Int.reduceNeg, reduceCtorEq, Int.reduceEq, SF0, SF1, SF2, DPb0, DLa0, DCg0, DCe0, DCa0, DCa1, DDb0, DBc0, DBa0, DPa0, DHb0, DHb1, DHa0, DPt0, DPt1, DPs0, DPu0]
  refine acall_one (eqPane_c q.P) rfl rfl ?_
  simp (disch := omega) only [SX0, SX1, SX2, SX3, SX4, SX5, SX6, SX7, SX8, SU0, SY0, SY1, Nat.reduceAdd, Nat.reduceMul, Nat.reduceSub, Nat.reduceLeDiff, Nat.reduceEqDiff, Nat.reduceLT, Nat.reduceBEq, ↓reduceIte, Int.reduceLE, Int.reduceLT, Int.reduceToNat, Int.reduceNeg, reduceCtorEq, Int.reduceEq, SF0, SF1, SF2, DPb0, DLa0, DCg0, DCe0, DCa0, DCa1, DDb0, DBc0, DBa0, DPa0, DHb0, DHb1, DHa0, DPt0, DPt1, DPs0, DPu0]
  exact fin_val ⟨rfl, rfl⟩

theorem e_eqLineS : Enters Try.prog 114 := enters_of Try.func114 (by kernel_rfl) (by kernel_rfl)
set_option maxHeartbeats 1000000 in
theorem eqLineS_c (l : List Line) (hl : l.length < 2 ^ 40) : ACalls Try.prog 114 [.sl (l.map Line.cs), .sl (l.map Line.cs)] [] [] (fun r L => r = .val (.bool true) ∧ L = []) := by
  refine acalls_tm T_tt Try.func114 rfl e_eqLineS 25 rfl (W8 _ _ .any .any .any .any .any .any (W8 .any .any .any .any .any .any .any .any (W8 .any .any .any .any .any .any .any .any [.any, .any, .any]))) rfl (rv := [.tmp 4]) rfl (sx_sound (bl := []) T_tt _ _ _ ?_)
  simp (disch := omega) only [SX0, SX1, SX2, SX3, SX4, SX5, SX6, SX7, SX8, SU0, SY0, SY1, Nat.reduceAdd, Nat.reduceMul, Nat.reduceSub, Nat.reduceLeDiff, Nat.reduceEqDiff, Nat.reduceLT, Nat.reduceBEq, ↓reduceIte, Int.reduceLE, Int.reduceLT, Int.reduceToNat, Int.reduceNeg, reduceCtorEq, Int.reduceEq, SF0, SF1, SF2, DPb0, DLa0, DCg0, DCe0, DCa0, DCa1, DDb0, DBc0, DBa0, DPa0, DHb0, DHb1, DHa0, DPt0, DPt1, DPs0, DPu0]
  with_reducible refine awp_loop_h 5 22 (fun (i : Nat) => [(5, .val (.int .i64 i))]) (fun i => []) (fun i => i ≤ l.length) (fun i => l.length - i) 0 (Nat.zero_le _) ?_ (fun i hi => sx_sound (bl := []) T_tt _ _ _ ?_)
  · simp (disch := omega) only [SX0, SX1, SX2, SX3, SX4, SX5, SX6, SX7, SX8, SU0, SY0, SY1, Nat.reduceAdd, Nat.reduceMul, Nat.reduceSub, Nat.reduceLeDiff, Nat.reduceEqDiff, Nat.reduceLT, Nat.reduceBEq, ↓reduceIte, Int.reduceLE, Int.reduceLT, Int.reduceToNat, Int.reduceNeg, reduceCtorEq, Int.reduceEq, SF0, SF1, SF2, DPb0, DLa0, DCg0, DCe0, DCa0, DCa1, DDb0, DBc0, DBa0, DPa0, DHb0, DHb1, DHa0, DPt0, DPt1, DPs0, DPu0]
    (refine wk_le ?_ ?_ ?_; (focus (simp [W8, leTm, leAV, AV.under, underL]; done)); (focus (simp [leL, OB.under, underL, AV.under]; done)); (focus (simp; done)))
  simp (disch := omega) only [SX0, SX1, SX2, SX3, SX4, SX5, SX6, SX7, SX8, SU0, SY0, SY1, Nat.reduceAdd, Nat.reduceMul, Nat.reduceSub, Nat.reduceLeDiff, Nat.reduceEqDiff, Nat.reduceLT, Nat.reduceBEq, ↓reduceIte, Int.reduceLE, Int.reduceLT, Int.reduceToNat, Int.reduceNeg, reduceCtorEq, Int.reduceEq, SF0, SF1, SF2, DPb0, DLa0, DCg0, DCe0, DCa0, DCa1, DDb0, DBc0, DBa0, DPa0, DHb0, DHb1, DHa0, DPt0, DPt1, DPs0, DPu0]
  refine br_dec (fun h1 => ?_) (fun h1 => ?_)
  · obtain ⟨q, hq⟩ := get_lt (l := l) (i := i) (by omega)
    simp (disch := omega) only [SX0, SX1, SX2, SX3, SX4, SX5, SX6, SX7, SX8, SU0, SY0, SY1, Nat.reduceAdd, Nat.reduceMul, Nat.reduceSub, Nat.reduceLeDiff, Nat.reduceEqDiff, Nat.reduceLT, Nat.reduceBEq, ↓reduceIte, Int.reduceLE, Int.reduceLT, Int.reduceToNat, Int.reduceNeg, reduceCtorEq, Int.reduceEq, SF0, SF1, SF2, DPb0, DLa0, DCg0, DCe0, DCa0, DCa1, DDb0, DBc0, DBa0, DPa0, DHb0, DHb1, DHa0, DPt0, DPt1, DPs0, DPu0]
    refine awp_drawA T_tt mixed (by decide +kernel) (by kernel_rfl) (by kernel_rfl) ?_
    simp (disch := omega) only [SX0, SX1, SX2, SX3, SX4, SX5, SX6, SX7, SX8, SU0, SY0, SY1, Nat.reduceAdd, Nat.reduceMul, Nat.reduceSub, Nat.reduceLeDiff, Nat.reduceEqDiff, Nat.reduceLT, Nat.reduceBEq, ↓reduceIte, Int.reduceLE, Int.reduceLT, Int.reduceToNat, Int.reduceNeg, reduceCtorEq, Int.reduceEq, SF0, SF1, SF2, DPb0, DLa0, DCg0, DCe0, DCa0, DCa1, DDb0, DBc0, DBa0, DPa0, DHb0, DHb1, DHa0, DPt0, DPt1, DPs0, DPu0, hq]
    refine qc_one (eqLine_c q) rfl ?_
    simp (disch := omega) only [SX0, SX1, SX2, SX3, SX4, SX5, SX6, SX7, SX8, SU0, SY0, SY1, Nat.reduceAdd, Nat.reduceMul, Nat.reduceSub, Nat.reduceLeDiff, Nat.reduceEqDiff, Nat.reduceLT, Nat.reduceBEq, ↓reduceIte, Int.reduceLE, Int.reduceLT, Int.reduceToNat, Int.reduceNeg, reduceCtorEq, Int.reduceEq, SF0, SF1, SF2, DPb0, DLa0, DCg0, DCe0, DCa0, DCa1, DDb0, DBc0, DBa0, DPa0, DHb0, DHb1, DHa0, DPt0, DPt1, DPs0, DPu0]
    refine ⟨i + 1, by omega, by omega, ?_⟩
    (refine wk_le ?_ ?_ ?_; (focus (simp [W8, leTm, leAV, AV.under, underL]; done)); (focus (simp [leL, OB.under, underL, AV.under]; done)); (focus (simp; done)))
  · simp (disch := omega) only [SX0, SX1, SX2, SX3, SX4, SX5, SX6, SX7, SX8, SU0, SY0, SY1, Nat.reduceAdd, Nat.reduceMul, Nat.reduceSub, Nat.reduceLeDiff, Nat.reduceEqDiff, Nat.reduceLT, Nat.reduceBEq, ↓reduceIte, Int.reduceLE, Int.reduceLT, Int.reduceToNat, Int.reduceNeg, reduceCtorEq, Int.reduceEq, SF0, SF1, SF2, DPb0, DLa0, DCg0, DCe0, DCa0, DCa1, DDb0, DBc0, DBa0, DPa0, DHb0, DHb1, DHa0, DPt0, DPt1, DPs0, DPu0]
    exact fin_val ⟨rfl, rfl⟩

theorem e_eqPieceS : Enters Try.prog 113 := enters_of Try.func113 (by kernel_rfl) (by kernel_rfl)
set_option maxHeartbeats 1000000 in
theorem eqPieceS_c (l : List Piece) (hl : l.length < 2 ^ 40) (hf : ∀ q ∈ l, q.Fl.length < 2 ^ 40) : ACalls Try.prog 113 [.sl (l.map Piece.cs), .sl (l.map Piece.cs)] [] [] (fun r L => r = .val (.bool true) ∧ L = []) := by
  refine acalls_tm T_tt Try.func113 rfl e_eqPieceS 25 rfl (W8 _ _ .any .any .any .any .any .any (W8 .any .any .any .any .any .any .any .any (W8 .any .any .any .any .any .any .any .any [.any, .any, .any]))) rfl (rv := [.tmp 4]) rfl (sx_sound (bl := []) T_tt _ _ _ ?_)
  simp (disch := omega) only [SX0, SX1, SX2, SX3, SX4, SX5, SX6, SX7, SX8, SU0, SY0, SY1, Nat.reduceAdd, Nat.reduceMul, Nat.reduceSub, Nat.reduceLeDiff, Nat.reduceEqDiff, Nat.reduceLT, Nat.reduceBEq, ↓reduceIte, Int.reduceLE, Int.reduceLT, Int.reduceToNat, Int.reduceNeg, reduceCtorEq, Int.reduceEq, SF0, SF1, SF2, DPb0, DLa0, DCg0, DCe0, DCa0, DCa1, DDb0, DBc0, DBa0, DPa0, DHb0, DHb1, DHa0, DPt0, DPt1, DPs0, DPu0]
  with_reducible refine awp_loop_h 5 22 (fun (i : Nat) => [(5, .val (.int .i64 i))]) (fun i => []) (fun i => i ≤ l.length) (fun i => l.length - i) 0 (Nat.zero_le _) ?_ (fun i hi => sx_sound (bl := []) T_tt _ _ _ ?_)
  · simp (disch := omega) only [SX0, SX1, SX2, SX3, SX4, SX5, SX6, SX7, SX8, SU0, SY0, SY1, Nat.reduceAdd, Nat.reduceMul, Nat.reduceSub, Nat.reduceLeDiff, Nat.reduceEqDiff, Nat.reduceLT, Nat.reduceBEq, ↓reduceIte, Int.reduceLE, Int.reduceLT, Int.reduceToNat, Int.reduceNeg, reduceCtorEq, Int.reduceEq, SF0, SF1, SF2, DPb0, DLa0, DCg0, DCe0, DCa0, DCa1, DDb0, DBc0, DBa0, DPa0, DHb0, DHb1, DHa0, DPt0, DPt1, DPs0, DPu0]
    (refine wk_le ?_ ?_ ?_; (focus (simp [W8, leTm, leAV, AV.under, underL]; done)); (focus (simp [leL, OB.under, underL, AV.under]; done)); (focus (simp; done)))
  simp (disch := omega) only [SX0, SX1, SX2, SX3, SX4, SX5, SX6, SX7, SX8, SU0, SY0, SY1, Nat.reduceAdd, Nat.reduceMul, Nat.reduceSub, Nat.reduceLeDiff, Nat.reduceEqDiff, Nat.reduceLT, Nat.reduceBEq, ↓reduceIte, Int.reduceLE, Int.reduceLT, Int.reduceToNat, Int.reduceNeg, reduceCtorEq, Int.reduceEq, SF0, SF1, SF2, DPb0, DLa0, DCg0, DCe0, DCa0, DCa1, DDb0, DBc0, DBa0, DPa0, DHb0, DHb1, DHa0, DPt0, DPt1, DPs0, DPu0]
  refine br_dec (fun h1 => ?_) (fun h1 => ?_)
  · obtain ⟨q, hq⟩ := get_lt (l := l) (i := i) (by omega)
    simp (disch := omega) only [SX0, SX1, SX2, SX3, SX4, SX5, SX6, SX7, SX8, SU0, SY0, SY1, Nat.reduceAdd, Nat.reduceMul, Nat.reduceSub, Nat.reduceLeDiff, Nat.reduceEqDiff, Nat.reduceLT, Nat.reduceBEq, ↓reduceIte, Int.reduceLE, Int.reduceLT, Int.reduceToNat, Int.reduceNeg, reduceCtorEq, Int.reduceEq, SF0, SF1, SF2, DPb0, DLa0, DCg0, DCe0, DCa0, DCa1, DDb0, DBc0, DBa0, DPa0, DHb0, DHb1, DHa0, DPt0, DPt1, DPs0, DPu0]
    refine awp_drawA T_tt mixed (by decide +kernel) (by kernel_rfl) (by kernel_rfl) ?_
    simp (disch := omega) only [SX0, SX1, SX2, SX3, SX4, SX5, SX6, SX7, SX8, SU0, SY0, SY1, Nat.reduceAdd, Nat.reduceMul, Nat.reduceSub, Nat.reduceLeDiff, Nat.reduceEqDiff, Nat.reduceLT, Nat.reduceBEq, ↓reduceIte, Int.reduceLE, Int.reduceLT, Int.reduceToNat, Int.reduceNeg, reduceCtorEq, Int.reduceEq, SF0, SF1, SF2, DPb0, DLa0, DCg0, DCe0, DCa0, DCa1, DDb0, DBc0, DBa0, DPa0, DHb0, DHb1, DHa0, DPt0, DPt1, DPs0, DPu0, hq]
    refine qc_one (eqPiece_c q (hf q (List.mem_of_getElem? hq))) rfl ?_
    simp (disch := omega) only [SX0, SX1, SX2, SX3, SX4, SX5, SX6, SX7, SX8, SU0, SY0, SY1, Nat.reduceAdd, Nat.reduceMul, Nat.reduceSub, Nat.reduceLeDiff, Nat.reduceEqDiff, Nat.reduceLT, Nat.reduceBEq, ↓reduceIte, Int.reduceLE, Int.reduceLT, Int.reduceToNat, Int.reduceNeg, reduceCtorEq, Int.reduceEq, SF0, SF1, SF2, DPb0, DLa0, DCg0, DCe0, DCa0, DCa1, DDb0, DBc0, DBa0, DPa0, DHb0, DHb1, DHa0, DPt0, DPt1, DPs0, DPu0]
    refine ⟨i + 1, by omega, by omega, ?_⟩
    (refine wk_le ?_ ?_ ?_; (focus (simp [W8, leTm, leAV, AV.under, underL]; done)); (focus (simp [leL, OB.under, underL, AV.under]; done)); (focus (simp; done)))
  · simp (disch := omega) only [SX0, SX1, SX2, SX3, SX4, SX5, SX6, SX7, SX8, SU0, SY0, SY1, Nat.reduceAdd, Nat.reduceMul, Nat.reduceSub, Nat.reduceLeDiff, Nat.reduceEqDiff, Nat.reduceLT, Nat.reduceBEq, ↓reduceIte, Int.reduceLE, Int.reduceLT, Int.reduceToNat, Int.reduceNeg, reduceCtorEq, Int.reduceEq, SF0, SF1, SF2, DPb0, DLa0, DCg0, DCe0, DCa0, DCa1, DDb0, DBc0, DBa0, DPa0, DHb0, DHb1, DHa0, DPt0, DPt1, DPs0, DPu0]
    exact fin_val ⟨rfl, rfl⟩

theorem e_eqShop : Enters Try.prog 55 := enters_of Try.func55 (by kernel_rfl) (by kernel_rfl)
theorem eqShop_c (q : Shop) (h0 : q.St.length < 2 ^ 40) (hf : ∀ p ∈ q.St, p.Fl.length < 2 ^ 40) (h1 : q.Op.length < 2 ^ 40) (h2 : q.Do.length < 2 ^ 40) : ACalls Try.prog 55 [.agg q.cs, .agg q.cs] [] [] (fun r L => r = .val (.bool true) ∧ L = []) := by
  refine acalls_tm T_tt Try.func55 rfl e_eqShop 31 rfl (W8 _ _ .any .any .any .any .any .any (W8 .any .any .any .any .any .any .any .any (W8 .any .any .any .any .any .any .any .any (W8 .any .any .any .any .any .any .any .any [.any])))) rfl (rv := [.tmp 4]) rfl (sx_sound (bl := []) T_tt _ _ _ ?_)
  simp (disch := omega) only [SX0, SX1, SX2, SX3, SX4, SX5, SX6, SX7, SX8, SU0, SY0, SY1, Nat.reduceAdd, Nat.reduceMul, Nat.reduceSub, Nat.reduceLeDiff, Nat.reduceEqDiff, Nat.reduceLT, Nat.reduceBEq, ↓reduceIte, Int.reduceLE, Int.reduceLT, Int.reduceToNat, Int.reduceNeg, reduceCtorEq, Int.reduceEq, SF0, SF1, SF2, DPb0, DLa0, DCg0, DCe0, DCa0, DCa1, DDb0, DBc0, DBa0, DPa0, DHb0, DHb1, DHa0, DPt0, DPt1, DPs0, DPu0]
  refine acall_one (eqPieceS_c q.St h0 hf) rfl rfl ?_
  simp (disch := omega) only [SX0, SX1, SX2, SX3, SX4, SX5, SX6, SX7, SX8, SU0, SY0, SY1, Nat.reduceAdd, Nat.reduceMul, Nat.reduceSub, Nat.reduceLeDiff, Nat.reduceEqDiff, Nat.reduceLT, Nat.reduceBEq, ↓reduceIte, Int.reduceLE, Int.reduceLT, Int.reduceToNat, Int.reduceNeg, reduceCtorEq, Int.reduceEq, SF0, SF1, SF2, DPb0, DLa0, DCg0, DCe0, DCa0, DCa1, DDb0, DBc0, DBa0, DPa0, DHb0, DHb1, DHa0, DPt0, DPt1, DPs0, DPu0]
  refine acall_one (eqLineS_c q.Op h1) rfl rfl ?_
  simp (disch := omega) only [SX0, SX1, SX2, SX3, SX4, SX5, SX6, SX7, SX8, SU0, SY0, SY1, Nat.reduceAdd, Nat.reduceMul, Nat.reduceSub, Nat.reduceLeDiff, Nat.reduceEqDiff, Nat.reduceLT, Nat.reduceBEq, ↓reduceIte, Int.reduceLE, Int.reduceLT, Int.reduceToNat, Int.reduceNeg, reduceCtorEq, Int.reduceEq, SF0, SF1, SF2, DPb0, DLa0, DCg0, DCe0, DCa0, DCa1, DDb0, DBc0, DBa0, DPa0, DHb0, DHb1, DHa0, DPt0, DPt1, DPs0, DPu0]
  refine acall_one (eqLineS_c q.Do h2) rfl rfl ?_
  simp (disch := omega) only [SX0, SX1, SX2, SX3, SX4, SX5, SX6, SX7, SX8, SU0, SY0, SY1, Nat.reduceAdd, Nat.reduceMul, Nat.reduceSub, Nat.reduceLeDiff, Nat.reduceEqDiff, Nat.reduceLT, Nat.reduceBEq, ↓reduceIte, Int.reduceLE, Int.reduceLT, Int.reduceToNat, Int.reduceNeg, reduceCtorEq, Int.reduceEq, SF0, SF1, SF2, DPb0, DLa0, DCg0, DCe0, DCa0, DCa1, DDb0, DBc0, DBa0, DPa0, DHb0, DHb1, DHa0, DPt0, DPt1, DPs0, DPu0]
  exact fin_val ⟨rfl, rfl⟩


set_option maxRecDepth 100000
theorem line_shp {n : Nat} {xs : List AV} (h : Shp Try.prog n 178 xs) : ∃ q : Line, xs = q.cs := by
  obtain ⟨m, rfl, hl, hf⟩ := struct_shp Try.underlying178 h
  have hc : Try.prog.cellsOf 178 = 5 := by kernel_rfl
  have c3 : Try.prog.cellsOf 3 = 1 := by kernel_rfl
  have cp : Try.prog.cellsOf 169 = 4 := by kernel_rfl
  rw [hc] at hl
  obtain ⟨a, b, c, d, e, rfl⟩ := len5 hl
  · skip
    simp only [List.forall_mem_cons, List.not_mem_nil, c3, cp, List.drop_succ_cons, List.drop_zero, List.take_succ_cons, List.take_zero] at hf
    obtain ⟨h1, h2, _⟩ := hf
    obtain ⟨p, h1⟩ := pane_shp h1
    obtain ⟨w, h2, _⟩ := int_shp Try.underlying3 h2
    cases h1; cases h2
    exact ⟨⟨p, w⟩, rfl⟩

theorem shop_shp {n : Nat} {xs : List AV} (h : Shp Try.prog n 90 xs) : ∃ k : Shop, xs = k.cs ∧ k.St.length ≤ 9223372036854775807 ∧ (∀ q ∈ k.St, q.Fl.length ≤ 9223372036854775807 ∧ q.rngd) ∧ k.Op.length ≤ 9223372036854775807 ∧ k.Do.length ≤ 9223372036854775807 := by
  obtain ⟨m, rfl, hl, hf⟩ := struct_shp Try.underlying90 h
  have hc : Try.prog.cellsOf 90 = 5 := by kernel_rfl
  have c3 : Try.prog.cellsOf 3 = 1 := by kernel_rfl
  have c81 : Try.prog.cellsOf 87 = 1 := by kernel_rfl
  have c82 : Try.prog.cellsOf 88 = 1 := by kernel_rfl
  rw [hc] at hl
  obtain ⟨a, b, c, d, e, rfl⟩ := len5 hl
  · skip
    simp only [List.forall_mem_cons, List.not_mem_nil, c3, c81, c82, List.drop_succ_cons, List.drop_zero, List.take_succ_cons, List.take_zero] at hf
    obtain ⟨h1, h2, h3, h4, h5, _⟩ := hf
    obtain ⟨m1, es1, _, h1, hle1, hes1⟩ := row_shp Try.underlying87 h1
    obtain ⟨m2, es2, _, h2, hle2, hes2⟩ := row_shp Try.underlying88 h2
    obtain ⟨m3, es3, _, h3, hle3, hes3⟩ := row_shp Try.underlying88 h3
    obtain ⟨lo, h4, _⟩ := int_shp Try.underlying3 h4
    obtain ⟨ca, h5, _⟩ := int_shp Try.underlying3 h5
    cases h1; cases h2; cases h3; cases h4; cases h5
    obtain ⟨l1, rfl, hl1⟩ := rows_ofP (cs := Piece.cs) (M := fun q => q.Fl.length ≤ 9223372036854775807 ∧ q.rngd) fun c hc => by obtain ⟨k, hk, h1, h2⟩ := piece_shp (hes1 c hc); exact ⟨k, hk, h1, h2⟩
    obtain ⟨l2, rfl⟩ := rows_of (cs := Line.cs) fun c hc => line_shp (hes2 c hc)
    obtain ⟨l3, rfl⟩ := rows_of (cs := Line.cs) fun c hc => line_shp (hes3 c hc)
    exact ⟨⟨l1, l2, l3, lo, ca⟩, rfl, by simpa using hle1, hl1, by simpa using hle2, by simpa using hle3⟩

section
open Go.ChangeShapes Go.WideShapes
variable {H : Type} {enc : TypeId × Value → H} {W : World} {r : Reach} {b0 : Nat} {v : Value} {d : DataW H} {p : List MemPlace}
theorem opened_shop (hw : Value.okWide Try.prog W r b0 90 v) (h : DataW.Trod enc Try.prog W 0 (fun _ => true) true 90 v d p) : ∃ k : Shop, VR W rho0 v (.agg k.cs) ∧ k.St.length ≤ 9223372036854775807 ∧ (∀ q ∈ k.St, q.Fl.length ≤ 9223372036854775807 ∧ q.rngd) ∧ k.Op.length ≤ 9223372036854775807 ∧ k.Do.length ≤ 9223372036854775807 := by
  obtain ⟨n, xs, h1, h2⟩ := struct_opened (S := [90, 87, 88, 3, 79, 178, 77, 169, 173, 4]) (plain_all (by kernel_rfl)) (by simp) Try.underlying90 hw h
  obtain ⟨k, rfl, hk⟩ := shop_shp h1
  exact ⟨k, h2, hk⟩
end

def FnExactValidShop_hyp : Prop := ∀ (x0 : Shop) (_ : x0.St.length ≤ 9223372036854775807 ∧ (∀ q ∈ x0.St, q.Fl.length ≤ 9223372036854775807 ∧ q.rngd) ∧ x0.Op.length ≤ 9223372036854775807 ∧ x0.Do.length ≤ 9223372036854775807), ACalls Try.prog 10 [.agg x0.cs] [] [] (fun r L => r = .val (.bool true) ∧ L = [])
theorem e_fnExactValidShop : Enters Try.prog 10 := enters_of Try.func10 (by kernel_rfl) (by kernel_rfl)
set_option maxHeartbeats 1000000 in
theorem fnExactValidShop_c : FnExactValidShop_hyp := by
  intro q ⟨hq0, hq1, hq2, hq3⟩
  refine acalls_tm T_tt Try.func10 rfl e_fnExactValidShop 26 rfl (W8 _ .any .any .any .any .any .any .any (W8 .any .any .any .any .any .any .any .any (W8 .any .any .any .any .any .any .any .any [.any, .any, .any]))) rfl (rv := [.tmp 2]) rfl (sx_sound (bl := []) T_tt _ _ _ ?_)
  simp (disch := omega) only [SX0, SX1, SX2, SX3, SX4, SX5, SX6, SX7, SX8, SU0, SY0, SY1, Nat.reduceAdd, Nat.reduceMul, Nat.reduceSub, Nat.reduceLeDiff, Nat.reduceEqDiff, Nat.reduceLT, Nat.reduceBEq, ↓reduceIte, Int.reduceLE, Int.reduceLT, Int.reduceToNat, Int.reduceNeg, reduceCtorEq, Int.reduceEq, SF0, SF1, SF2, DPb0, DLa0, DCg0, DCe0, DCa0, DCa1, DDb0, DBc0, DBa0, DPa0, DHb0, DHb1, DHa0, DPt0, DPt1, DPs0, DPu0]
  refine acall_one (szShop_c q 1048576 hq0 (fun p hp => (hq1 p hp).1) hq2 hq3 (by omega)) rfl rfl ?_
  simp (disch := omega) only [SX0, SX1, SX2, SX3, SX4, SX5, SX6, SX7, SX8, SU0, SY0, SY1, Nat.reduceAdd, Nat.reduceMul, Nat.reduceSub, Nat.reduceLeDiff, Nat.reduceEqDiff, Nat.reduceLT, Nat.reduceBEq, ↓reduceIte, Int.reduceLE, Int.reduceLT, Int.reduceToNat, Int.reduceNeg, reduceCtorEq, Int.reduceEq, SF0, SF1, SF2, DPb0, DLa0, DCg0, DCe0, DCa0, DCa1, DDb0, DBc0, DBa0, DPa0, DHb0, DHb1, DHa0, DPt0, DPt1, DPs0, DPu0]
  refine br_dec (fun h1 => ?_) (fun h1 => ?_)
  · simp (disch := omega) only [SX0, SX1, SX2, SX3, SX4, SX5, SX6, SX7, SX8, SU0, SY0, SY1, Nat.reduceAdd, Nat.reduceMul, Nat.reduceSub, Nat.reduceLeDiff, Nat.reduceEqDiff, Nat.reduceLT, Nat.reduceBEq, ↓reduceIte, Int.reduceLE, Int.reduceLT, Int.reduceToNat, Int.reduceNeg, reduceCtorEq, Int.reduceEq, SF0, SF1, SF2, DPb0, DLa0, DCg0, DCe0, DCa0, DCa1, DDb0, DBc0, DBa0, DPa0, DHb0, DHb1, DHa0, DPt0, DPt1, DPs0, DPu0]
    exact fin_val ⟨rfl, rfl⟩
  have h2 := (leftOf_pos h1).1
  have hf : ∀ p ∈ q.St, p.Fl.length ≤ 1048576 := fun p hp => by have := flawsL_mem hp; omega
  have TS := toShop_c q (by omega) hf (by omega) (by omega)
  have hsm : q.small := ⟨by omega, fun p hp => ⟨by have := hf p hp; omega, (hq1 p hp).2⟩, by omega, by omega⟩
  simp (disch := omega) only [SX0, SX1, SX2, SX3, SX4, SX5, SX6, SX7, SX8, SU0, SY0, SY1, Nat.reduceAdd, Nat.reduceMul, Nat.reduceSub, Nat.reduceLeDiff, Nat.reduceEqDiff, Nat.reduceLT, Nat.reduceBEq, ↓reduceIte, Int.reduceLE, Int.reduceLT, Int.reduceToNat, Int.reduceNeg, reduceCtorEq, Int.reduceEq, SF0, SF1, SF2, DPb0, DLa0, DCg0, DCe0, DCa0, DCa1, DDb0, DBc0, DBa0, DPa0, DHb0, DHb1, DHa0, DPt0, DPt1, DPs0, DPu0]
  refine acall_one TS rfl rfl ?_
  simp (disch := omega) only [SX0, SX1, SX2, SX3, SX4, SX5, SX6, SX7, SX8, SU0, SY0, SY1, Nat.reduceAdd, Nat.reduceMul, Nat.reduceSub, Nat.reduceLeDiff, Nat.reduceEqDiff, Nat.reduceLT, Nat.reduceBEq, ↓reduceIte, Int.reduceLE, Int.reduceLT, Int.reduceToNat, Int.reduceNeg, reduceCtorEq, Int.reduceEq, SF0, SF1, SF2, DPb0, DLa0, DCg0, DCe0, DCa0, DCa1, DDb0, DBc0, DBa0, DPa0, DHb0, DHb1, DHa0, DPt0, DPt1, DPs0, DPu0]
  refine acall_one (validShopSS_c q hsm) rfl rfl ?_
  simp (disch := omega) only [SX0, SX1, SX2, SX3, SX4, SX5, SX6, SX7, SX8, SU0, SY0, SY1, Nat.reduceAdd, Nat.reduceMul, Nat.reduceSub, Nat.reduceLeDiff, Nat.reduceEqDiff, Nat.reduceLT, Nat.reduceBEq, ↓reduceIte, Int.reduceLE, Int.reduceLT, Int.reduceToNat, Int.reduceNeg, reduceCtorEq, Int.reduceEq, SF0, SF1, SF2, DPb0, DLa0, DCg0, DCe0, DCa0, DCa1, DDb0, DBc0, DBa0, DPa0, DHb0, DHb1, DHa0, DPt0, DPt1, DPs0, DPu0]
  refine acall_one TS rfl rfl ?_
  simp (disch := omega) only [SX0, SX1, SX2, SX3, SX4, SX5, SX6, SX7, SX8, SU0, SY0, SY1, Nat.reduceAdd, Nat.reduceMul, Nat.reduceSub, Nat.reduceLeDiff, Nat.reduceEqDiff, Nat.reduceLT, Nat.reduceBEq, ↓reduceIte, Int.reduceLE, Int.reduceLT, Int.reduceToNat, Int.reduceNeg, reduceCtorEq, Int.reduceEq, SF0, SF1, SF2, DPb0, DLa0, DCg0, DCe0, DCa0, DCa1, DDb0, DBc0, DBa0, DPa0, DHb0, DHb1, DHa0, DPt0, DPt1, DPs0, DPu0]
  refine acall_one (validShopI_c q hsm) rfl rfl ?_
  simp (disch := omega) only [SX0, SX1, SX2, SX3, SX4, SX5, SX6, SX7, SX8, SU0, SY0, SY1, Nat.reduceAdd, Nat.reduceMul, Nat.reduceSub, Nat.reduceLeDiff, Nat.reduceEqDiff, Nat.reduceLT, Nat.reduceBEq, ↓reduceIte, Int.reduceLE, Int.reduceLT, Int.reduceToNat, Int.reduceNeg, reduceCtorEq, Int.reduceEq, SF0, SF1, SF2, DPb0, DLa0, DCg0, DCe0, DCa0, DCa1, DDb0, DBc0, DBa0, DPa0, DHb0, DHb1, DHa0, DPt0, DPt1, DPs0, DPu0]
  refine awp_drawA T_tt mixed (by decide +kernel) (by kernel_rfl) (by kernel_rfl) ?_
  simp (disch := omega) only [SX0, SX1, SX2, SX3, SX4, SX5, SX6, SX7, SX8, SU0, SY0, SY1, Nat.reduceAdd, Nat.reduceMul, Nat.reduceSub, Nat.reduceLeDiff, Nat.reduceEqDiff, Nat.reduceLT, Nat.reduceBEq, ↓reduceIte, Int.reduceLE, Int.reduceLT, Int.reduceToNat, Int.reduceNeg, reduceCtorEq, Int.reduceEq, SF0, SF1, SF2, DPb0, DLa0, DCg0, DCe0, DCa0, DCa1, DDb0, DBc0, DBa0, DPa0, DHb0, DHb1, DHa0, DPt0, DPt1, DPs0, DPu0]
  refine qc_one TS rfl ?_
  simp (disch := omega) only [SX0, SX1, SX2, SX3, SX4, SX5, SX6, SX7, SX8, SU0, SY0, SY1, Nat.reduceAdd, Nat.reduceMul, Nat.reduceSub, Nat.reduceLeDiff, Nat.reduceEqDiff, Nat.reduceLT, Nat.reduceBEq, ↓reduceIte, Int.reduceLE, Int.reduceLT, Int.reduceToNat, Int.reduceNeg, reduceCtorEq, Int.reduceEq, SF0, SF1, SF2, DPb0, DLa0, DCg0, DCe0, DCa0, DCa1, DDb0, DBc0, DBa0, DPa0, DHb0, DHb1, DHa0, DPt0, DPt1, DPs0, DPu0]
  refine qc_one (eqShop_c q (by omega) (fun p hp => by have := hf p hp; omega) (by omega) (by omega)) rfl ?_
  simp (disch := omega) only [SX0, SX1, SX2, SX3, SX4, SX5, SX6, SX7, SX8, SU0, SY0, SY1, Nat.reduceAdd, Nat.reduceMul, Nat.reduceSub, Nat.reduceLeDiff, Nat.reduceEqDiff, Nat.reduceLT, Nat.reduceBEq, ↓reduceIte, Int.reduceLE, Int.reduceLT, Int.reduceToNat, Int.reduceNeg, reduceCtorEq, Int.reduceEq, SF0, SF1, SF2, DPb0, DLa0, DCg0, DCe0, DCa0, DCa1, DDb0, DBc0, DBa0, DPa0, DHb0, DHb1, DHa0, DPt0, DPt1, DPs0, DPu0]
  exact fin_val ⟨rfl, rfl⟩

def FnExactShopArea_hyp : Prop := ∀ (x0 : Shop) (_ : x0.St.length ≤ 9223372036854775807 ∧ (∀ q ∈ x0.St, q.Fl.length ≤ 9223372036854775807 ∧ q.rngd) ∧ x0.Op.length ≤ 9223372036854775807 ∧ x0.Do.length ≤ 9223372036854775807), ACalls Try.prog 11 [.agg x0.cs] [] [] (fun r L => r = .val (.bool true) ∧ L = [])
theorem e_fnExactShopArea : Enters Try.prog 11 := enters_of Try.func11 (by kernel_rfl) (by kernel_rfl)
set_option maxHeartbeats 1000000 in
theorem fnExactShopArea_c : FnExactShopArea_hyp := by
  intro q ⟨hq0, hq1, hq2, hq3⟩
  refine acalls_tm T_tt Try.func11 rfl e_fnExactShopArea 26 rfl (W8 _ .any .any .any .any .any .any .any (W8 .any .any .any .any .any .any .any .any (W8 .any .any .any .any .any .any .any .any [.any, .any, .any]))) rfl (rv := [.tmp 2]) rfl (sx_sound (bl := []) T_tt _ _ _ ?_)
  simp (disch := omega) only [SX0, SX1, SX2, SX3, SX4, SX5, SX6, SX7, SX8, SU0, SY0, SY1, Nat.reduceAdd, Nat.reduceMul, Nat.reduceSub, Nat.reduceLeDiff, Nat.reduceEqDiff, Nat.reduceLT, Nat.reduceBEq, ↓reduceIte, Int.reduceLE, Int.reduceLT, Int.reduceToNat, Int.reduceNeg, reduceCtorEq, Int.reduceEq, SF0, SF1, SF2, DPb0, DLa0, DCg0, DCe0, DCa0, DCa1, DDb0, DBc0, DBa0, DPa0, DHb0, DHb1, DHa0, DPt0, DPt1, DPs0, DPu0]
  refine acall_one (szShop_c q 1048576 hq0 (fun p hp => (hq1 p hp).1) hq2 hq3 (by omega)) rfl rfl ?_
  simp (disch := omega) only [SX0, SX1, SX2, SX3, SX4, SX5, SX6, SX7, SX8, SU0, SY0, SY1, Nat.reduceAdd, Nat.reduceMul, Nat.reduceSub, Nat.reduceLeDiff, Nat.reduceEqDiff, Nat.reduceLT, Nat.reduceBEq, ↓reduceIte, Int.reduceLE, Int.reduceLT, Int.reduceToNat, Int.reduceNeg, reduceCtorEq, Int.reduceEq, SF0, SF1, SF2, DPb0, DLa0, DCg0, DCe0, DCa0, DCa1, DDb0, DBc0, DBa0, DPa0, DHb0, DHb1, DHa0, DPt0, DPt1, DPs0, DPu0]
  refine br_dec (fun h1 => ?_) (fun h1 => ?_)
  · simp (disch := omega) only [SX0, SX1, SX2, SX3, SX4, SX5, SX6, SX7, SX8, SU0, SY0, SY1, Nat.reduceAdd, Nat.reduceMul, Nat.reduceSub, Nat.reduceLeDiff, Nat.reduceEqDiff, Nat.reduceLT, Nat.reduceBEq, ↓reduceIte, Int.reduceLE, Int.reduceLT, Int.reduceToNat, Int.reduceNeg, reduceCtorEq, Int.reduceEq, SF0, SF1, SF2, DPb0, DLa0, DCg0, DCe0, DCa0, DCa1, DDb0, DBc0, DBa0, DPa0, DHb0, DHb1, DHa0, DPt0, DPt1, DPs0, DPu0]
    exact fin_val ⟨rfl, rfl⟩
  have h2 := (leftOf_pos h1).1
  have hf : ∀ p ∈ q.St, p.Fl.length ≤ 1048576 := fun p hp => by have := flawsL_mem hp; omega
  have TS := toShop_c q (by omega) hf (by omega) (by omega)
  have hsm : q.small := ⟨by omega, fun p hp => ⟨by have := hf p hp; omega, (hq1 p hp).2⟩, by omega, by omega⟩
  simp (disch := omega) only [SX0, SX1, SX2, SX3, SX4, SX5, SX6, SX7, SX8, SU0, SY0, SY1, Nat.reduceAdd, Nat.reduceMul, Nat.reduceSub, Nat.reduceLeDiff, Nat.reduceEqDiff, Nat.reduceLT, Nat.reduceBEq, ↓reduceIte, Int.reduceLE, Int.reduceLT, Int.reduceToNat, Int.reduceNeg, reduceCtorEq, Int.reduceEq, SF0, SF1, SF2, DPb0, DLa0, DCg0, DCe0, DCa0, DCa1, DDb0, DBc0, DBa0, DPa0, DHb0, DHb1, DHa0, DPt0, DPt1, DPs0, DPu0]
  refine acall_one TS rfl rfl ?_
  simp (disch := omega) only [SX0, SX1, SX2, SX3, SX4, SX5, SX6, SX7, SX8, SU0, SY0, SY1, Nat.reduceAdd, Nat.reduceMul, Nat.reduceSub, Nat.reduceLeDiff, Nat.reduceEqDiff, Nat.reduceLT, Nat.reduceBEq, ↓reduceIte, Int.reduceLE, Int.reduceLT, Int.reduceToNat, Int.reduceNeg, reduceCtorEq, Int.reduceEq, SF0, SF1, SF2, DPb0, DLa0, DCg0, DCe0, DCa0, DCa1, DDb0, DBc0, DBa0, DPa0, DHb0, DHb1, DHa0, DPt0, DPt1, DPs0, DPu0]
  refine acall_one (shopAreaSS_c q hsm) rfl rfl ?_
  simp (disch := omega) only [SX0, SX1, SX2, SX3, SX4, SX5, SX6, SX7, SX8, SU0, SY0, SY1, Nat.reduceAdd, Nat.reduceMul, Nat.reduceSub, Nat.reduceLeDiff, Nat.reduceEqDiff, Nat.reduceLT, Nat.reduceBEq, ↓reduceIte, Int.reduceLE, Int.reduceLT, Int.reduceToNat, Int.reduceNeg, reduceCtorEq, Int.reduceEq, SF0, SF1, SF2, DPb0, DLa0, DCg0, DCe0, DCa0, DCa1, DDb0, DBc0, DBa0, DPa0, DHb0, DHb1, DHa0, DPt0, DPt1, DPs0, DPu0]
  refine acall_one TS rfl rfl ?_
  simp (disch := omega) only [SX0, SX1, SX2, SX3, SX4, SX5, SX6, SX7, SX8, SU0, SY0, SY1, Nat.reduceAdd, Nat.reduceMul, Nat.reduceSub, Nat.reduceLeDiff, Nat.reduceEqDiff, Nat.reduceLT, Nat.reduceBEq, ↓reduceIte, Int.reduceLE, Int.reduceLT, Int.reduceToNat, Int.reduceNeg, reduceCtorEq, Int.reduceEq, SF0, SF1, SF2, DPb0, DLa0, DCg0, DCe0, DCa0, DCa1, DDb0, DBc0, DBa0, DPa0, DHb0, DHb1, DHa0, DPt0, DPt1, DPs0, DPu0]
  refine acall_one (shopAreaI_c q hsm) rfl rfl ?_
  simp (disch := omega) only [SX0, SX1, SX2, SX3, SX4, SX5, SX6, SX7, SX8, SU0, SY0, SY1, Nat.reduceAdd, Nat.reduceMul, Nat.reduceSub, Nat.reduceLeDiff, Nat.reduceEqDiff, Nat.reduceLT, Nat.reduceBEq, ↓reduceIte, Int.reduceLE, Int.reduceLT, Int.reduceToNat, Int.reduceNeg, reduceCtorEq, Int.reduceEq, SF0, SF1, SF2, DPb0, DLa0, DCg0, DCe0, DCa0, DCa1, DDb0, DBc0, DBa0, DPa0, DHb0, DHb1, DHa0, DPt0, DPt1, DPs0, DPu0]
  refine awp_drawA T_tt mixed (by decide +kernel) (by kernel_rfl) (by kernel_rfl) ?_
  simp (disch := omega) only [SX0, SX1, SX2, SX3, SX4, SX5, SX6, SX7, SX8, SU0, SY0, SY1, Nat.reduceAdd, Nat.reduceMul, Nat.reduceSub, Nat.reduceLeDiff, Nat.reduceEqDiff, Nat.reduceLT, Nat.reduceBEq, ↓reduceIte, Int.reduceLE, Int.reduceLT, Int.reduceToNat, Int.reduceNeg, reduceCtorEq, Int.reduceEq, SF0, SF1, SF2, DPb0, DLa0, DCg0, DCe0, DCa0, DCa1, DDb0, DBc0, DBa0, DPa0, DHb0, DHb1, DHa0, DPt0, DPt1, DPs0, DPu0]
  refine qc_one TS rfl ?_
  simp (disch := omega) only [SX0, SX1, SX2, SX3, SX4, SX5, SX6, SX7, SX8, SU0, SY0, SY1, Nat.reduceAdd, Nat.reduceMul, Nat.reduceSub, Nat.reduceLeDiff, Nat.reduceEqDiff, Nat.reduceLT, Nat.reduceBEq, ↓reduceIte, Int.reduceLE, Int.reduceLT, Int.reduceToNat, Int.reduceNeg, reduceCtorEq, Int.reduceEq, SF0, SF1, SF2, DPb0, DLa0, DCg0, DCe0, DCa0, DCa1, DDb0, DBc0, DBa0, DPa0, DHb0, DHb1, DHa0, DPt0, DPt1, DPs0, DPu0]
  refine qc_one (eqShop_c q (by omega) (fun p hp => by have := hf p hp; omega) (by omega) (by omega)) rfl ?_
  simp (disch := omega) only [SX0, SX1, SX2, SX3, SX4, SX5, SX6, SX7, SX8, SU0, SY0, SY1, Nat.reduceAdd, Nat.reduceMul, Nat.reduceSub, Nat.reduceLeDiff, Nat.reduceEqDiff, Nat.reduceLT, Nat.reduceBEq, ↓reduceIte, Int.reduceLE, Int.reduceLT, Int.reduceToNat, Int.reduceNeg, reduceCtorEq, Int.reduceEq, SF0, SF1, SF2, DPb0, DLa0, DCg0, DCe0, DCa0, DCa1, DDb0, DBc0, DBa0, DPa0, DHb0, DHb1, DHa0, DPt0, DPt1, DPs0, DPu0]
  exact fin_val ⟨rfl, rfl⟩

end Go.Pc
