/- The law of plans with exchanged sides: it holds of all bytes. -/
import Derived.Test.YtliephdcfkiapaaJb
import Derived.Test.YtliephdcfkiapaaIc
set_option linter.unusedSimpArgs false
set_option linter.unusedVariables false
namespace Go.Pc
open Go Go.Proofs

theorem Pane.eq_self (q : Pane) : eqA [.int, .int, .bool, .int] q.cs q.cs = some true := by simp [Pane.cs, eqA]
theorem Place.drop2 (q : Place) : q.cs.drop 2 = q.box.cs := rfl
theorem DJc0 : type_of% @Pane.eq_self ∧ type_of% @Place.drop2 := ⟨@Pane.eq_self, @Place.drop2⟩

theorem e_boxesOf : Enters Try.prog 21 := enters_of Try.func21 (by kernel_rfl) (by kernel_rfl)
set_option maxHeartbeats 1000000 in
theorem boxesOf_c (l : List Place) (hl : l.length < 2 ^ 30) : ACalls Try.prog 21 [.sl (l.map Place.cs)] [] [] (fun r L => r = .os 0 4 0 l.length ∧ L = [.vec 4 ((l.map Place.box).map Box.cs)]) := by
  refine acalls_tm T_tt Try.func21 rfl e_boxesOf 20 rfl (W8 _ .any .any .any .any .any .any .any (W8 .any .any .any .any .any .any .any .any [.any, .any, .any, .any, .any])) rfl (rv := [.tmp 2]) rfl (sx_sound (bl := []) T_tt _ _ _ ?_)
  simp (disch := omega) only [SX0, SX1, SX2, SX3, SX4, SX5, SX6, SX7, SX8, SU0, SY0, SY1, Nat.reduceAdd, Nat.reduceMul, Nat.reduceSub, Nat.reduceLeDiff, Nat.reduceEqDiff, Nat.reduceLT, Nat.reduceBEq, ↓reduceIte, Int.reduceLE, Int.reduceLT, Int.reduceToNat, Int.reduceNeg, reduceCtorEq, Int.reduceEq, SF0, SF1, SF2, DHb0, DHb1, DHa0, DCg0, DCe0, DCa0, DCa1, DDb0, DBc0, DBa0, DDc0, DJc0]
  with_reducible refine awp_loop_h 3 18 (fun (i : Nat) => [(3, .os 0 4 0 i), (4, .val (.int .i64 i))]) (fun i => [.vec 4 (((l.take i).map Place.box).map Box.cs)]) (fun i => i ≤ l.length) (fun i => l.length - i) 0 (Nat.zero_le _) ?_ (fun i hi => sx_sound (bl := []) T_tt _ _ _ ?_)
  · simp (disch := omega) only [SX0, SX1, SX2, SX3, SX4, SX5, SX6, SX7, SX8, SU0, SY0, SY1, Nat.reduceAdd, Nat.reduceMul, Nat.reduceSub, Nat.reduceLeDiff, Nat.reduceEqDiff, Nat.reduceLT, Nat.reduceBEq, ↓reduceIte, Int.reduceLE, Int.reduceLT, Int.reduceToNat, Int.reduceNeg, reduceCtorEq, Int.reduceEq, SF0, SF1, SF2, DHb0, DHb1, DHa0, DCg0, DCe0, DCa0, DCa1, DDb0, DBc0, DBa0, DDc0, DJc0]
    (refine wk_le ?_ ?_ ?_; (focus (simp [W8, leTm, leAV, AV.under, underL]; done)); (focus (simp [leL, OB.under, underL, AV.under]; done)); (focus (simp; done)))
  simp (disch := omega) only [SX0, SX1, SX2, SX3, SX4, SX5, SX6, SX7, SX8, SU0, SY0, SY1, Nat.reduceAdd, Nat.reduceMul, Nat.reduceSub, Nat.reduceLeDiff, Nat.reduceEqDiff, Nat.reduceLT, Nat.reduceBEq, ↓reduceIte, Int.reduceLE, Int.reduceLT, Int.reduceToNat, Int.reduceNeg, reduceCtorEq, Int.reduceEq, SF0, SF1, SF2, DHb0, DHb1, DHa0, DCg0, DCe0, DCa0, DCa1, DDb0, DBc0, DBa0, DDc0, DJc0]
  refine br_dec (fun h1 => ?_) (fun h1 => ?_)
  · obtain ⟨q, hq⟩ := get_lt (l := l) (i := i) (by omega)
    have e : (l.take (i + 1)).map Place.box = (l.take i).map Place.box ++ [q.box] := by rw [List.take_add_one, hq]; simp
    have hl : (l.take i).length = i := by simp; omega
    simp (disch := omega) only [SX0, SX1, SX2, SX3, SX4, SX5, SX6, SX7, SX8, SU0, SY0, SY1, Nat.reduceAdd, Nat.reduceMul, Nat.reduceSub, Nat.reduceLeDiff, Nat.reduceEqDiff, Nat.reduceLT, Nat.reduceBEq, ↓reduceIte, Int.reduceLE, Int.reduceLT, Int.reduceToNat, Int.reduceNeg, reduceCtorEq, Int.reduceEq, SF0, SF1, SF2, DHb0, DHb1, DHa0, DCg0, DCe0, DCa0, DCa1, DDb0, DBc0, DBa0, DDc0, DJc0, hq]
    refine req (by omega) ?_
    simp (disch := omega) only [SX0, SX1, SX2, SX3, SX4, SX5, SX6, SX7, SX8, SU0, SY0, SY1, Nat.reduceAdd, Nat.reduceMul, Nat.reduceSub, Nat.reduceLeDiff, Nat.reduceEqDiff, Nat.reduceLT, Nat.reduceBEq, ↓reduceIte, Int.reduceLE, Int.reduceLT, Int.reduceToNat, Int.reduceNeg, reduceCtorEq, Int.reduceEq, SF0, SF1, SF2, DHb0, DHb1, DHa0, DCg0, DCe0, DCa0, DCa1, DDb0, DBc0, DBa0, DDc0, DJc0]
    refine ⟨i + 1, by omega, by omega, ?_⟩
    (refine wk_le ?_ ?_ ?_; (focus (simp [W8, leTm, leAV, AV.under, underL, e]; done)); (focus (simp [leL, OB.under, underL, AV.under, e]; done)); (focus (simp; done)))
  · simp (disch := omega) only [SX0, SX1, SX2, SX3, SX4, SX5, SX6, SX7, SX8, SU0, SY0, SY1, Nat.reduceAdd, Nat.reduceMul, Nat.reduceSub, Nat.reduceLeDiff, Nat.reduceEqDiff, Nat.reduceLT, Nat.reduceBEq, ↓reduceIte, Int.reduceLE, Int.reduceLT, Int.reduceToNat, Int.reduceNeg, reduceCtorEq, Int.reduceEq, SF0, SF1, SF2, DHb0, DHb1, DHa0, DCg0, DCe0, DCa0, DCa1, DDb0, DBc0, DBa0, DDc0, DJc0]
    have ei : i = l.length := by omega
    subst ei
    rw [List.take_length]
    exact fin_ks [0] (.os 0 4 0 l.length) [.vec 4 ((l.map Place.box).map Box.cs)] ⟨rfl, rfl⟩ rfl ⟨rfl, trivial⟩ (by simp) (by simp) (by simp)

/-- The first boxes exchanged. -/
def mixB (l : List Box) (i : Nat) : List Box := (l.take i).map Box.swap ++ l.drop i
theorem mixB_len (l : List Box) (i : Nat) : (mixB l i).length = l.length := by simp [mixB]; omega
theorem mixB_get {l : List Box} {i : Nat} {b : Box} (h : l[i]? = some b) : (mixB l i)[i]? = some b := by
  have hl := (List.getElem?_eq_some_iff.1 h).1
  unfold mixB
  rw [List.getElem?_append_right (by simp; omega)]
  simp [h]
  rw [Nat.min_eq_left (by omega)]; simpa using h
theorem mixB_set {l : List Box} {i : Nat} {b : Box} (h : l[i]? = some b) : (mixB l i).set i b.swap = mixB l (i + 1) := by
  have hl := (List.getElem?_eq_some_iff.1 h).1
  have hd : l.drop i = b :: l.drop (i + 1) := by rw [List.drop_eq_getElem_cons hl]; congr 1; exact (List.getElem?_eq_some_iff.1 h).2
  unfold mixB
  rw [hd, List.set_append_right _ _ (by simp; omega), List.take_add_one, h]
  simp
  rw [Nat.min_eq_left (by omega)]; simp
