/- The program's steps: beginnings of orders, valid steps, what waits. -/
import Derived.Test.YtkcpcmobmalijaaSa
import Derived.Test.YtkcpcmobmalijaaHb
set_option linter.unusedSimpArgs false
set_option linter.unusedVariables false
namespace Go.Pc
open Go Go.Proofs

/-- Which cuts were made. -/
def madeL (D : List Int) : List AV := (List.range 255).map fun (j : Nat) => .val (.bool (decide ((j : Int) ∈ D)))
theorem madeL_len (D : List Int) : (madeL D).length = 255 := by simp [madeL]
theorem madeL_nil : madeL [] = List.replicate 255 (.val (.bool false)) := by
  refine List.ext_getElem? fun i => ?_
  simp only [madeL, List.getElem?_map, List.getElem?_replicate]
  by_cases h : i < 255
  · rw [List.getElem?_range h, if_pos h]; rfl
  · rw [List.getElem?_eq_none (by simp; omega), if_neg h]; rfl
theorem madeL_get {D : List Int} {n : Int} (h : 0 ≤ n ∧ n < 255) : (madeL D)[n.toNat]? = some (.val (.bool (decide (n ∈ D)))) := by
  simp only [madeL, List.getElem?_map, List.getElem?_range (show n.toNat < 255 by omega), Option.map_some]
  rw [show ((n.toNat : Nat) : Int) = n by omega]
theorem madeL_set {D : List Int} {n : Int} (h : 0 ≤ n ∧ n < 255) : (madeL D).set n.toNat (.val (.bool true)) = madeL (D ++ [n]) := by
  refine List.ext_getElem? fun i => ?_
  by_cases hi : i < 255
  · rw [List.getElem?_set, madeL_len]
    simp only [madeL, List.getElem?_map, List.getElem?_range hi, Option.map_some]
    by_cases e : n.toNat = i
    · rw [if_pos e, if_pos (by omega)]
      have : ((i : Nat) : Int) = n := by omega
      simp [this]
    · rw [if_neg e]
      have : ¬ ((i : Nat) : Int) = n := by omega
      simp [this]
  · rw [List.getElem?_eq_none (by rw [List.length_set, madeL_len]; omega), List.getElem?_eq_none (by rw [madeL_len]; omega)]

theorem madeL_put {D : List Int} {n : Int} (h : 0 ≤ n ∧ n < 255) : (madeL D).take n.toNat ++ .val (.bool true) :: (madeL D).drop (n.toNat + 1) = madeL (D ++ [n]) := by
  rw [← madeL_set h, List.set_eq_take_append_cons_drop, if_pos (by rw [madeL_len]; omega)]
theorem madeL_under (D : List Int) (m : Nat) : underL m (madeL D) = true := by
  unfold madeL
  generalize List.range 255 = l
  induction l with
  | nil => rfl
  | cons x l ih => simp only [List.map_cons, underL, ih, AV.under]; rfl

theorem e_beginsOrder : Enters Try.prog 109 := enters_of Try.func109 (by kernel_rfl) (by kernel_rfl)
set_option maxRecDepth 8000 in
set_option maxHeartbeats 4000000 in
theorem beginsOrder_c (ks : List (Int × Int)) (f1 : (ks.map Prod.fst).Nodup) (f2 : ∀ q ∈ ks, q.2 < q.1 ∧ 0 ≤ q.1 ∧ q.1 < 255 ∧ -1 ≤ q.2) (hkl : ks.length < 2 ^ 40) (S : List Int) (hS : S.length < 2 ^ 40) : ACalls Try.prog 109 [.sl (ks.map knotRow), .sl (ints S)] [] [] (fun r L => r = .val (.bool (decide (begins ks S))) ∧ L = []) := by
  refine acalls_tm T_tt Try.func109 rfl e_beginsOrder 40 rfl (W8 _ _ .any .any .any .any .any .any (W8 .any .any .any .any .any .any .any .any (W8 .any .any .any .any .any .any .any .any (W8 .any .any .any .any .any .any .any .any (W8 .any .any .any .any .any .any .any .any [.any, .any]))))) rfl (rv := [.tmp 4]) rfl (sx_sound (bl := []) T_tt _ _ _ ?_)
  simp (disch := omega) only [SX0, SX1, SX2, SX3, SX4, SX5, SX6, SX7, SX8, SU0, SY0, SY1, Nat.reduceAdd, Nat.reduceMul, Nat.reduceSub, Nat.reduceLeDiff, Nat.reduceEqDiff, Nat.reduceLT, Nat.reduceBEq, ↓reduceIte, Int.reduceLE, Int.reduceLT, Int.reduceToNat, Int.reduceNeg, reduceCtorEq, Int.reduceEq, SF0, SF1, SF2, DCg0, DCe0, DCe1, DCe2, DDb0, DBc0, DBc1, DHb0, DHb1, DHa0]
  with_reducible refine awp_loop_h 6 36 (fun (i : Nat) => [(10, .sl (ints S)), (11, .val (.int .i64 S.length)), (12, .val (.int .i64 i))]) (fun i => [.cells (madeL (S.take i))]) (fun i => i ≤ S.length ∧ ∀ (j : Nat) n, j < i → S[j]? = some n → canCut ks (S.take j) n) (fun i => S.length - i) 0 ⟨Nat.zero_le _, fun j n hj => by omega⟩ ?_ (fun i hi => sx_sound (bl := []) T_tt _ _ _ ?_)
  · simp (disch := omega) only [SX0, SX1, SX2, SX3, SX4, SX5, SX6, SX7, SX8, SU0, SY0, SY1, Nat.reduceAdd, Nat.reduceMul, Nat.reduceSub, Nat.reduceLeDiff, Nat.reduceEqDiff, Nat.reduceLT, Nat.reduceBEq, ↓reduceIte, Int.reduceLE, Int.reduceLT, Int.reduceToNat, Int.reduceNeg, reduceCtorEq, Int.reduceEq, SF0, SF1, SF2, DCg0, DCe0, DCe1, DCe2, DDb0, DBc0, DBc1, DHb0, DHb1, DHa0]
    (refine wk_le ?_ ?_ ?_; (focus (simp [W8, leTm, leAV, AV.under, underL, madeL_nil]; done)); (focus (simp [leL, OB.under, underL, AV.under, madeL_nil]; done)); (focus (simp; done)))
  simp (disch := omega) only [SX0, SX1, SX2, SX3, SX4, SX5, SX6, SX7, SX8, SU0, SY0, SY1, Nat.reduceAdd, Nat.reduceMul, Nat.reduceSub, Nat.reduceLeDiff, Nat.reduceEqDiff, Nat.reduceLT, Nat.reduceBEq, ↓reduceIte, Int.reduceLE, Int.reduceLT, Int.reduceToNat, Int.reduceNeg, reduceCtorEq, Int.reduceEq, SF0, SF1, SF2, DCg0, DCe0, DCe1, DCe2, DDb0, DBc0, DBc1, DHb0, DHb1, DHa0]
  refine br_dec (fun h2 => ?_) (fun h2 => ?_)
  · obtain ⟨n, hn⟩ := get_lt (l := S) (i := i) (by omega)
    simp (disch := omega) only [SX0, SX1, SX2, SX3, SX4, SX5, SX6, SX7, SX8, SU0, SY0, SY1, Nat.reduceAdd, Nat.reduceMul, Nat.reduceSub, Nat.reduceLeDiff, Nat.reduceEqDiff, Nat.reduceLT, Nat.reduceBEq, ↓reduceIte, Int.reduceLE, Int.reduceLT, Int.reduceToNat, Int.reduceNeg, reduceCtorEq, Int.reduceEq, SF0, SF1, SF2, DCg0, DCe0, DCe1, DCe2, DDb0, DBc0, DBc1, DHb0, DHb1, DHa0, hn]
    refine acall_one (findKnot_c ks n hkl) rfl rfl ?_
    simp (disch := omega) only [SX0, SX1, SX2, SX3, SX4, SX5, SX6, SX7, SX8, SU0, SY0, SY1, Nat.reduceAdd, Nat.reduceMul, Nat.reduceSub, Nat.reduceLeDiff, Nat.reduceEqDiff, Nat.reduceLT, Nat.reduceBEq, ↓reduceIte, Int.reduceLE, Int.reduceLT, Int.reduceToNat, Int.reduceNeg, reduceCtorEq, Int.reduceEq, SF0, SF1, SF2, DCg0, DCe0, DCe1, DCe2, DDb0, DBc0, DBc1, DHb0, DHb1, DHa0]
    rcases ixOf_find (g := fun q : Int × Int => decide (q.1 = n)) (l := ks) with ⟨h3, h4⟩ | ⟨m, q, h3, h4, h5⟩
    · refine br_dec (fun h5 => ?_) (fun h5 => ?_)
      · simp (disch := omega) only [SX0, SX1, SX2, SX3, SX4, SX5, SX6, SX7, SX8, SU0, SY0, SY1, Nat.reduceAdd, Nat.reduceMul, Nat.reduceSub, Nat.reduceLeDiff, Nat.reduceEqDiff, Nat.reduceLT, Nat.reduceBEq, ↓reduceIte, Int.reduceLE, Int.reduceLT, Int.reduceToNat, Int.reduceNeg, reduceCtorEq, Int.reduceEq, SF0, SF1, SF2, DCg0, DCe0, DCe1, DCe2, DDb0, DBc0, DBc1, DHb0, DHb1, DHa0]
        refine fin_val ⟨vF fun hh => ?_, rfl⟩
        obtain ⟨q, hq, e, _⟩ := begins_iff.1 hh i n hn
        rw [List.find?_eq_none] at h4
        exact h4 q hq (by simpa using e)
      · exfalso; omega
    · refine br_dec (fun h6 => ?_) (fun h6 => ?_)
      · exfalso; omega
      have hqn : q.1 = n := by simpa using List.find?_some h5
      have hqm := List.mem_of_getElem? h4
      have hq := f2 q hqm
      have hg := madeL_get (D := S.take i) (n := n) (by omega)
      have hs := madeL_put (D := S.take i) (n := n) (by omega)
      have h0 : (0 ≤ n) = True := eq_true (by omega)
      have h255 : (n < 255) = True := eq_true (by omega)
      simp (disch := omega) only [SX0, SX1, SX2, SX3, SX4, SX5, SX6, SX7, SX8, SU0, SY0, SY1, Nat.reduceAdd, Nat.reduceMul, Nat.reduceSub, Nat.reduceLeDiff, Nat.reduceEqDiff, Nat.reduceLT, Nat.reduceBEq, ↓reduceIte, Int.reduceLE, Int.reduceLT, Int.reduceToNat, Int.reduceNeg, reduceCtorEq, Int.reduceEq, SF0, SF1, SF2, DCg0, DCe0, DCe1, DCe2, DDb0, DBc0, DBc1, DHb0, DHb1, DHa0, h0]
      refine req (by omega) ?_
      simp (disch := omega) only [SX0, SX1, SX2, SX3, SX4, SX5, SX6, SX7, SX8, SU0, SY0, SY1, Nat.reduceAdd, Nat.reduceMul, Nat.reduceSub, Nat.reduceLeDiff, Nat.reduceEqDiff, Nat.reduceLT, Nat.reduceBEq, ↓reduceIte, Int.reduceLE, Int.reduceLT, Int.reduceToNat, Int.reduceNeg, reduceCtorEq, Int.reduceEq, SF0, SF1, SF2, DCg0, DCe0, DCe1, DCe2, DDb0, DBc0, DBc1, DHb0, DHb1, DHa0, hg]
      refine br_dec (fun h7 => ?_) (fun h7 => ?_)
      · simp (disch := omega) only [SX0, SX1, SX2, SX3, SX4, SX5, SX6, SX7, SX8, SU0, SY0, SY1, Nat.reduceAdd, Nat.reduceMul, Nat.reduceSub, Nat.reduceLeDiff, Nat.reduceEqDiff, Nat.reduceLT, Nat.reduceBEq, ↓reduceIte, Int.reduceLE, Int.reduceLT, Int.reduceToNat, Int.reduceNeg, reduceCtorEq, Int.reduceEq, SF0, SF1, SF2, DCg0, DCe0, DCe1, DCe2, DDb0, DBc0, DBc1, DHb0, DHb1, DHa0]
        refine fin_val ⟨vF fun hh => ?_, rfl⟩
        obtain ⟨_, _, _, hno, _⟩ := begins_iff.1 hh i n hn
        exact hno h7
      have hm0 : (0 ≤ ixOf (fun q : Int × Int => decide (q.1 = n)) ks) = True := eq_true (by omega)
      have hmg : ks[(ixOf (fun q : Int × Int => decide (q.1 = n)) ks).toNat]? = some q := by rw [h3]; simpa using h4
      have h8 : n ∉ S.take i := h7
      have et : S.take (i + 1) = S.take i ++ [n] := by rw [List.take_add_one, hn]; rfl
      simp (disch := omega) only [SX0, SX1, SX2, SX3, SX4, SX5, SX6, SX7, SX8, SU0, SY0, SY1, Nat.reduceAdd, Nat.reduceMul, Nat.reduceSub, Nat.reduceLeDiff, Nat.reduceEqDiff, Nat.reduceLT, Nat.reduceBEq, ↓reduceIte, Int.reduceLE, Int.reduceLT, Int.reduceToNat, Int.reduceNeg, reduceCtorEq, Int.reduceEq, SF0, SF1, SF2, DCg0, DCe0, DCe1, DCe2, DDb0, DBc0, DBc1, DHb0, DHb1, DHa0, hmg, hm0, knotRow]
      refine br_dec (fun h9 => ?_) (fun h9 => ?_)
      · have hg2 := madeL_get (D := S.take i) (n := q.2) (by omega)
        have h20 : (0 ≤ q.2) = True := eq_true (by omega)
        simp (disch := omega) only [SX0, SX1, SX2, SX3, SX4, SX5, SX6, SX7, SX8, SU0, SY0, SY1, Nat.reduceAdd, Nat.reduceMul, Nat.reduceSub, Nat.reduceLeDiff, Nat.reduceEqDiff, Nat.reduceLT, Nat.reduceBEq, ↓reduceIte, Int.reduceLE, Int.reduceLT, Int.reduceToNat, Int.reduceNeg, reduceCtorEq, Int.reduceEq, SF0, SF1, SF2, DCg0, DCe0, DCe1, DCe2, DDb0, DBc0, DBc1, DHb0, DHb1, DHa0, h20]
        refine req (by omega) ?_
        simp (disch := omega) only [SX0, SX1, SX2, SX3, SX4, SX5, SX6, SX7, SX8, SU0, SY0, SY1, Nat.reduceAdd, Nat.reduceMul, Nat.reduceSub, Nat.reduceLeDiff, Nat.reduceEqDiff, Nat.reduceLT, Nat.reduceBEq, ↓reduceIte, Int.reduceLE, Int.reduceLT, Int.reduceToNat, Int.reduceNeg, reduceCtorEq, Int.reduceEq, SF0, SF1, SF2, DCg0, DCe0, DCe1, DCe2, DDb0, DBc0, DBc1, DHb0, DHb1, DHa0, hg2]
        refine br_ndec (fun h10 => ?_) (fun h10 => ?_)
        · simp (disch := omega) only [SX0, SX1, SX2, SX3, SX4, SX5, SX6, SX7, SX8, SU0, SY0, SY1, Nat.reduceAdd, Nat.reduceMul, Nat.reduceSub, Nat.reduceLeDiff, Nat.reduceEqDiff, Nat.reduceLT, Nat.reduceBEq, ↓reduceIte, Int.reduceLE, Int.reduceLT, Int.reduceToNat, Int.reduceNeg, reduceCtorEq, Int.reduceEq, SF0, SF1, SF2, DCg0, DCe0, DCe1, DCe2, DDb0, DBc0, DBc1, DHb0, DHb1, DHa0]
          refine fin_val ⟨vF fun hh => ?_, rfl⟩
          obtain ⟨r, hr, e, _, hab⟩ := begins_iff.1 hh i n hn
          have := fst_inj f1 hr hqm (e.trans hqn.symm)
          subst this
          exact h10 (hab h9)
        · simp (disch := omega) only [SX0, SX1, SX2, SX3, SX4, SX5, SX6, SX7, SX8, SU0, SY0, SY1, Nat.reduceAdd, Nat.reduceMul, Nat.reduceSub, Nat.reduceLeDiff, Nat.reduceEqDiff, Nat.reduceLT, Nat.reduceBEq, ↓reduceIte, Int.reduceLE, Int.reduceLT, Int.reduceToNat, Int.reduceNeg, reduceCtorEq, Int.reduceEq, SF0, SF1, SF2, DCg0, DCe0, DCe1, DCe2, DDb0, DBc0, DBc1, DHb0, DHb1, DHa0, h0]
          refine req (by omega) ?_
          simp (disch := omega) only [SX0, SX1, SX2, SX3, SX4, SX5, SX6, SX7, SX8, SU0, SY0, SY1, Nat.reduceAdd, Nat.reduceMul, Nat.reduceSub, Nat.reduceLeDiff, Nat.reduceEqDiff, Nat.reduceLT, Nat.reduceBEq, ↓reduceIte, Int.reduceLE, Int.reduceLT, Int.reduceToNat, Int.reduceNeg, reduceCtorEq, Int.reduceEq, SF0, SF1, SF2, DCg0, DCe0, DCe1, DCe2, DDb0, DBc0, DBc1, DHb0, DHb1, DHa0, hg]
          refine req (by rw [madeL_len]; omega) ?_
          simp (disch := omega) only [SX0, SX1, SX2, SX3, SX4, SX5, SX6, SX7, SX8, SU0, SY0, SY1, Nat.reduceAdd, Nat.reduceMul, Nat.reduceSub, Nat.reduceLeDiff, Nat.reduceEqDiff, Nat.reduceLT, Nat.reduceBEq, ↓reduceIte, Int.reduceLE, Int.reduceLT, Int.reduceToNat, Int.reduceNeg, reduceCtorEq, Int.reduceEq, SF0, SF1, SF2, DCg0, DCe0, DCe1, DCe2, DDb0, DBc0, DBc1, DHb0, DHb1, DHa0]
          refine ⟨i + 1, ⟨by omega, step_in hi.2 hn ⟨q, hqm, hqn, h8, fun _ => h10⟩⟩, by omega, ?_⟩
          (refine wk_le ?_ ?_ ?_; (focus (simp [W8, leTm, leAV, AV.under, underL, et, hs, madeL_under]; done)); (focus (simp [leL, OB.under, underL, AV.under, et, hs, madeL_under]; done)); (focus (simp; done)))
      · simp (disch := omega) only [SX0, SX1, SX2, SX3, SX4, SX5, SX6, SX7, SX8, SU0, SY0, SY1, Nat.reduceAdd, Nat.reduceMul, Nat.reduceSub, Nat.reduceLeDiff, Nat.reduceEqDiff, Nat.reduceLT, Nat.reduceBEq, ↓reduceIte, Int.reduceLE, Int.reduceLT, Int.reduceToNat, Int.reduceNeg, reduceCtorEq, Int.reduceEq, SF0, SF1, SF2, DCg0, DCe0, DCe1, DCe2, DDb0, DBc0, DBc1, DHb0, DHb1, DHa0, h0]
        refine req (by omega) ?_
        simp (disch := omega) only [SX0, SX1, SX2, SX3, SX4, SX5, SX6, SX7, SX8, SU0, SY0, SY1, Nat.reduceAdd, Nat.reduceMul, Nat.reduceSub, Nat.reduceLeDiff, Nat.reduceEqDiff, Nat.reduceLT, Nat.reduceBEq, ↓reduceIte, Int.reduceLE, Int.reduceLT, Int.reduceToNat, Int.reduceNeg, reduceCtorEq, Int.reduceEq, SF0, SF1, SF2, DCg0, DCe0, DCe1, DCe2, DDb0, DBc0, DBc1, DHb0, DHb1, DHa0, hg]
        refine req (by rw [madeL_len]; omega) ?_
        simp (disch := omega) only [SX0, SX1, SX2, SX3, SX4, SX5, SX6, SX7, SX8, SU0, SY0, SY1, Nat.reduceAdd, Nat.reduceMul, Nat.reduceSub, Nat.reduceLeDiff, Nat.reduceEqDiff, Nat.reduceLT, Nat.reduceBEq, ↓reduceIte, Int.reduceLE, Int.reduceLT, Int.reduceToNat, Int.reduceNeg, reduceCtorEq, Int.reduceEq, SF0, SF1, SF2, DCg0, DCe0, DCe1, DCe2, DDb0, DBc0, DBc1, DHb0, DHb1, DHa0]
        refine ⟨i + 1, ⟨by omega, step_in hi.2 hn ⟨q, hqm, hqn, h8, fun h => absurd h h9⟩⟩, by omega, ?_⟩
        (refine wk_le ?_ ?_ ?_; (focus (simp [W8, leTm, leAV, AV.under, underL, et, hs, madeL_under]; done)); (focus (simp [leL, OB.under, underL, AV.under, et, hs, madeL_under]; done)); (focus (simp; done)))
  · simp (disch := omega) only [SX0, SX1, SX2, SX3, SX4, SX5, SX6, SX7, SX8, SU0, SY0, SY1, Nat.reduceAdd, Nat.reduceMul, Nat.reduceSub, Nat.reduceLeDiff, Nat.reduceEqDiff, Nat.reduceLT, Nat.reduceBEq, ↓reduceIte, Int.reduceLE, Int.reduceLT, Int.reduceToNat, Int.reduceNeg, reduceCtorEq, Int.reduceEq, SF0, SF1, SF2, DCg0, DCe0, DCe1, DCe2, DDb0, DBc0, DBc1, DHb0, DHb1, DHa0]
    refine fin_val ⟨vT (begins_iff.2 fun j n hj => hi.2 j n ?_ hj), rfl⟩
    have := (List.getElem?_eq_some_iff.1 hj).1
    omega

end Go.Pc
