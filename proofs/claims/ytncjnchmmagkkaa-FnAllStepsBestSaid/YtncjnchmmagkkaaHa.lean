/- Numbers in a row: equal ones, sums; sums of areas. -/
import Derived.Test.YtncjnchmmagkkaaCg
set_option linter.unusedSimpArgs false
set_option linter.unusedVariables false
namespace Go.Pc
open Go Go.Proofs

def ints (l : List Int) : List (List AV) := l.map fun x => [.val (.int .i64 x)]
theorem ints_x (l : List Int) : ints l = l.map fun x => [.val (.int .i64 x)] := rfl
theorem DHa0 : type_of% @ints_x := @ints_x

theorem take_next_eq {α : Type} {a b : List α} {i : Nat} {x : α} (h : a.take i = b.take i) (ha : a[i]? = some x) (hb : b[i]? = some x) : a.take (i + 1) = b.take (i + 1) := by
  rw [List.take_add_one, List.take_add_one, h, ha, hb]

theorem e_equalInts : Enters Try.prog 22 := enters_of Try.func22 (by kernel_rfl) (by kernel_rfl)
theorem equalInts_c (a b : List Int) (ha : a.length < 2 ^ 40) (hb' : b.length < 2 ^ 40) : ACalls Try.prog 22 [.sl (ints a), .sl (ints b)] [] [] (fun r L => r = .val (.bool (decide (a = b))) ∧ L = []) := by
  refine acalls_tm T_tt Try.func22 rfl e_equalInts 24 rfl (W8 _ _ .any .any .any .any .any .any (W8 .any .any .any .any .any .any .any .any (W8 .any .any .any .any .any .any .any .any [.any, .any]))) rfl (rv := [.tmp 4]) rfl (sx_sound (bl := []) T_tt _ _ _ ?_)
  simp (disch := omega) only [SX0, SX1, SX2, SX3, SX4, SX5, SX6, SX7, SX8, SU0, SY0, SY1, Nat.reduceAdd, Nat.reduceMul, Nat.reduceSub, Nat.reduceLeDiff, Nat.reduceEqDiff, Nat.reduceLT, Nat.reduceBEq, ↓reduceIte, Int.reduceLE, Int.reduceLT, Int.reduceToNat, Int.reduceNeg, reduceCtorEq, Int.reduceEq, SF0, SF1, SF2, DCg0, DCe0, DCe1, DCe2, DDb0, DBc0, DBc1, DHa0]
  refine br_ndec (fun h => ?_) (fun h => ?_)
  · simp (disch := omega) only [SX0, SX1, SX2, SX3, SX4, SX5, SX6, SX7, SX8, SU0, SY0, SY1, Nat.reduceAdd, Nat.reduceMul, Nat.reduceSub, Nat.reduceLeDiff, Nat.reduceEqDiff, Nat.reduceLT, Nat.reduceBEq, ↓reduceIte, Int.reduceLE, Int.reduceLT, Int.reduceToNat, Int.reduceNeg, reduceCtorEq, Int.reduceEq, SF0, SF1, SF2, DCg0, DCe0, DCe1, DCe2, DDb0, DBc0, DBc1, DHa0]
    exact fin_val ⟨vF fun e => h (by rw [e]), rfl⟩
  have hl : a.length = b.length := by omega
  simp (disch := omega) only [SX0, SX1, SX2, SX3, SX4, SX5, SX6, SX7, SX8, SU0, SY0, SY1, Nat.reduceAdd, Nat.reduceMul, Nat.reduceSub, Nat.reduceLeDiff, Nat.reduceEqDiff, Nat.reduceLT, Nat.reduceBEq, ↓reduceIte, Int.reduceLE, Int.reduceLT, Int.reduceToNat, Int.reduceNeg, reduceCtorEq, Int.reduceEq, SF0, SF1, SF2, DCg0, DCe0, DCe1, DCe2, DDb0, DBc0, DBc1, DHa0]
  with_reducible refine awp_loop_h 6 20 (fun (i : Nat) => [(5, .val (.int .i64 i))]) (fun _ => []) (fun i => i ≤ a.length ∧ a.take i = b.take i) (fun i => a.length - i) 0 ⟨Nat.zero_le _, by simp⟩ ?_ (fun i hi => sx_sound (bl := []) T_tt _ _ _ ?_)
  · simp (disch := omega) only [SX0, SX1, SX2, SX3, SX4, SX5, SX6, SX7, SX8, SU0, SY0, SY1, Nat.reduceAdd, Nat.reduceMul, Nat.reduceSub, Nat.reduceLeDiff, Nat.reduceEqDiff, Nat.reduceLT, Nat.reduceBEq, ↓reduceIte, Int.reduceLE, Int.reduceLT, Int.reduceToNat, Int.reduceNeg, reduceCtorEq, Int.reduceEq, SF0, SF1, SF2, DCg0, DCe0, DCe1, DCe2, DDb0, DBc0, DBc1, DHa0]
    (refine wk_le ?_ ?_ ?_; (focus (simp [W8, leTm, leAV, AV.under, underL]; done)); (focus (simp [leL, OB.under, underL, AV.under]; done)); (focus (simp; done)))
  simp (disch := omega) only [SX0, SX1, SX2, SX3, SX4, SX5, SX6, SX7, SX8, SU0, SY0, SY1, Nat.reduceAdd, Nat.reduceMul, Nat.reduceSub, Nat.reduceLeDiff, Nat.reduceEqDiff, Nat.reduceLT, Nat.reduceBEq, ↓reduceIte, Int.reduceLE, Int.reduceLT, Int.reduceToNat, Int.reduceNeg, reduceCtorEq, Int.reduceEq, SF0, SF1, SF2, DCg0, DCe0, DCe1, DCe2, DDb0, DBc0, DBc1, DHa0]
  refine br_dec (fun h1 => ?_) (fun h1 => ?_)
  · obtain ⟨x, hx⟩ := get_lt (l := a) (i := i) (by omega)
    obtain ⟨y, hy⟩ := get_lt (l := b) (i := i) (by omega)
    simp (disch := omega) only [SX0, SX1, SX2, SX3, SX4, SX5, SX6, SX7, SX8, SU0, SY0, SY1, Nat.reduceAdd, Nat.reduceMul, Nat.reduceSub, Nat.reduceLeDiff, Nat.reduceEqDiff, Nat.reduceLT, Nat.reduceBEq, ↓reduceIte, Int.reduceLE, Int.reduceLT, Int.reduceToNat, Int.reduceNeg, reduceCtorEq, Int.reduceEq, SF0, SF1, SF2, DCg0, DCe0, DCe1, DCe2, DDb0, DBc0, DBc1, DHa0]
    refine awp_drawA T_tt mixed (by decide +kernel) (by kernel_rfl) (by kernel_rfl) ?_
    simp (disch := omega) only [SX0, SX1, SX2, SX3, SX4, SX5, SX6, SX7, SX8, SU0, SY0, SY1, Nat.reduceAdd, Nat.reduceMul, Nat.reduceSub, Nat.reduceLeDiff, Nat.reduceEqDiff, Nat.reduceLT, Nat.reduceBEq, ↓reduceIte, Int.reduceLE, Int.reduceLT, Int.reduceToNat, Int.reduceNeg, reduceCtorEq, Int.reduceEq, SF0, SF1, SF2, DCg0, DCe0, DCe1, DCe2, DDb0, DBc0, DBc1, DHa0, hx, hy]
    refine br_ndec (fun h2 => ?_) (fun h2 => ?_)
    · simp (disch := omega) only [SX0, SX1, SX2, SX3, SX4, SX5, SX6, SX7, SX8, SU0, SY0, SY1, Nat.reduceAdd, Nat.reduceMul, Nat.reduceSub, Nat.reduceLeDiff, Nat.reduceEqDiff, Nat.reduceLT, Nat.reduceBEq, ↓reduceIte, Int.reduceLE, Int.reduceLT, Int.reduceToNat, Int.reduceNeg, reduceCtorEq, Int.reduceEq, SF0, SF1, SF2, DCg0, DCe0, DCe1, DCe2, DDb0, DBc0, DBc1, DHa0]
      refine fin_val ⟨vF fun e => h2 ?_, rfl⟩
      subst e
      rw [hx] at hy
      exact Option.some.inj hy
    · subst h2
      simp (disch := omega) only [SX0, SX1, SX2, SX3, SX4, SX5, SX6, SX7, SX8, SU0, SY0, SY1, Nat.reduceAdd, Nat.reduceMul, Nat.reduceSub, Nat.reduceLeDiff, Nat.reduceEqDiff, Nat.reduceLT, Nat.reduceBEq, ↓reduceIte, Int.reduceLE, Int.reduceLT, Int.reduceToNat, Int.reduceNeg, reduceCtorEq, Int.reduceEq, SF0, SF1, SF2, DCg0, DCe0, DCe1, DCe2, DDb0, DBc0, DBc1, DHa0]
      refine ⟨i + 1, ⟨by omega, take_next_eq hi.2 hx hy⟩, by omega, ?_⟩
      (refine wk_le ?_ ?_ ?_; (focus (simp [W8, leTm, leAV, AV.under, underL]; done)); (focus (simp [leL, OB.under, underL, AV.under]; done)); (focus (simp; done)))
  · simp (disch := omega) only [SX0, SX1, SX2, SX3, SX4, SX5, SX6, SX7, SX8, SU0, SY0, SY1, Nat.reduceAdd, Nat.reduceMul, Nat.reduceSub, Nat.reduceLeDiff, Nat.reduceEqDiff, Nat.reduceLT, Nat.reduceBEq, ↓reduceIte, Int.reduceLE, Int.reduceLT, Int.reduceToNat, Int.reduceNeg, reduceCtorEq, Int.reduceEq, SF0, SF1, SF2, DCg0, DCe0, DCe1, DCe2, DDb0, DBc0, DBc1, DHa0]
    refine fin_val ⟨vT ?_, rfl⟩
    have := hi.2
    rwa [List.take_of_length_le (by omega), List.take_of_length_le (by omega)] at this

theorem sum_bound {l : List Int} (h : ∀ x ∈ l, 0 ≤ x ∧ x ≤ 1000000) : 0 ≤ l.sum ∧ l.sum ≤ 1000000 * l.length := by
  induction l with
  | nil => simp
  | cons x l ih =>
    have h1 := h x (by simp)
    have h2 := ih fun y hy => h y (by simp [hy])
    simp only [List.sum_cons, List.length_cons]
    omega
theorem sum_take {l : List Int} {i : Nat} {x : Int} (h : l[i]? = some x) : (l.take (i + 1)).sum = (l.take i).sum + x := by
  rw [List.take_add_one, h]; simp

/-- The area of a box. -/
def Box.area (b : Box) : Int := b.W * b.H

end Go.Pc
