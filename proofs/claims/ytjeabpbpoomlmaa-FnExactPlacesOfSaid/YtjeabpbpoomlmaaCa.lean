/- Boxes: valid ones, what two have in common, inside; the program's panes and works. -/
import Derived.Test.YtjeabpbpoomlmaaDb
set_option linter.unusedSimpArgs false
set_option linter.unusedVariables false
namespace Go.Pc
open Go Go.Proofs

/-- A box. -/
structure Box where
  X : Int
  Y : Int
  W : Int
  H : Int
  deriving DecidableEq
theorem Box.ext_iff {a b : Box} : a = b ↔ a.X = b.X ∧ a.Y = b.Y ∧ a.W = b.W ∧ a.H = b.H := by cases a; cases b; simp

def Box.cs (b : Box) : List AV := [.val (.int .i64 b.X), .val (.int .i64 b.Y), .val (.int .i64 b.W), .val (.int .i64 b.H)]
theorem Box.len (b : Box) : b.cs.length = 4 := rfl
theorem Box.take (b : Box) : b.cs.take 4 = b.cs := rfl
theorem Box.g0 (b : Box) : b.cs[0]? = some (.val (.int .i64 b.X)) := rfl
theorem Box.g1 (b : Box) : b.cs[1]? = some (.val (.int .i64 b.Y)) := rfl
theorem Box.g2 (b : Box) : b.cs[2]? = some (.val (.int .i64 b.W)) := rfl
theorem Box.g3 (b : Box) : b.cs[3]? = some (.val (.int .i64 b.H)) := rfl
theorem Box.one (b : Box) : b.cs.all AV.one = true := rfl
theorem Box.pure (b : Box) : b.cs.all AV.pure = true := rfl
theorem Box.free (b : Box) : freeL b.cs = true := rfl

theorem Box.filtd (f : Nat → Bool) (p : Box) : filtL f p.cs = p.cs := (free_filt_aux f).2 _ p.free
theorem Box.rend (f : Nat → Nat) (p : Box) : renL f p.cs = p.cs := freeL_rend f p.free
theorem DCa0 : type_of% @Box.rend ∧ type_of% @Box.filtd ∧ type_of% @Box.len ∧ type_of% @Box.take ∧ type_of% @Box.g0 ∧ type_of% @Box.g1 ∧ type_of% @Box.g2 ∧ type_of% @Box.g3 ∧ type_of% @Box.one ∧ type_of% @Box.pure := ⟨@Box.rend, @Box.filtd, @Box.len, @Box.take, @Box.g0, @Box.g1, @Box.g2, @Box.g3, @Box.one, @Box.pure⟩
theorem Box.eq (a b : Box) : eqA [SK.int, SK.int, SK.int, SK.int] a.cs b.cs = some (decide (a = b)) := by
  obtain ⟨x, y, w, h⟩ := a
  obtain ⟨x', y', w', h'⟩ := b
  simp [Box.cs, eqA, Box.mk.injEq, Bool.decide_and]
theorem DCa1 : type_of% @Box.eq := @Box.eq
def Box.ok (b : Box) : Prop := (1 ≤ b.W ∧ b.W ≤ 200) ∧ (1 ≤ b.H ∧ b.H ≤ 200) ∧ (0 ≤ b.X ∧ b.X + b.W ≤ 200) ∧ (0 ≤ b.Y ∧ b.Y + b.H ≤ 200)
instance (b : Box) : Decidable b.ok := inferInstanceAs (Decidable (_ ∧ _))

theorem e_validBoxI : Enters Try.prog 105 := enters_of Try.func105 (by kernel_rfl) (by kernel_rfl)
theorem validBoxI_c (b : Box) : ACalls Try.prog 105 [.agg b.cs] [] [] (fun r L => r = .val (.bool (decide b.ok)) ∧ L = []) := by
  refine acalls_tm T_tt Try.func105 rfl e_validBoxI 44 rfl (W8 _ .any .any .any .any .any .any .any (W8 .any .any .any .any .any .any .any .any (W8 .any .any .any .any .any .any .any .any (W8 .any .any .any .any .any .any .any .any (W8 .any .any .any .any .any .any .any .any [.any, .any, .any, .any, .any]))))) rfl (rv := [.tmp 2]) rfl (sx_sound (bl := []) T_tt _ _ _ ?_)
  repeat' first | with_reducible refine fin_val ⟨?_, rfl⟩ | with_reducible refine br_dec (fun hb => ?_) (fun hb => ?_) | with_reducible refine br_ndec (fun hb => ?_) (fun hb => ?_) | with_reducible refine br_bool (fun hb => ?_) (fun hb => ?_) | with_reducible refine pk_dec (fun hb => ?_) (fun hb => ?_) | with_reducible refine pk_ndec (fun hb => ?_) (fun hb => ?_) | with_reducible refine awp_drawA T_tt mixed (by decide +kernel) (by kernel_rfl) (by kernel_rfl) ?_ | simp (disch := omega) only [SX0, SX1, SX2, SX3, SX4, SX5, SX6, SX7, SX8, SU0, SY0, SY1, Nat.reduceAdd, Nat.reduceMul, Nat.reduceSub, Nat.reduceLeDiff, Nat.reduceEqDiff, Nat.reduceLT, Nat.reduceBEq, ↓reduceIte, Int.reduceLE, Int.reduceLT, Int.reduceToNat, Int.reduceNeg, reduceCtorEq, Int.reduceEq, SF0, SF1, SF2, DDb0, DBc0, DBa0, DCa0, DCa1]
  all_goals first | exact vF (by simp only [Box.ok] at *; omega) | exact vT (by simp only [Box.ok] at *; omega) | exact vb (by simp only [Box.ok] at *; omega)

/-- What two boxes have in common. -/
def Box.meet (a b : Box) : Box := ⟨max a.X b.X, max a.Y b.Y, min (a.X + a.W) (b.X + b.W) - max a.X b.X, min (a.Y + a.H) (b.Y + b.H) - max a.Y b.Y⟩
def Box.zero : Box := ⟨0, 0, 0, 0⟩
def Box.meets (a b : Box) : Prop := a.ok ∧ b.ok ∧ 0 < (a.meet b).W ∧ 0 < (a.meet b).H
instance (a b : Box) : Decidable (a.meets b) := inferInstanceAs (Decidable (_ ∧ _))
/-- Inside. -/
def Box.inside (a b : Box) : Prop := a.ok ∧ b.ok ∧ b.X ≤ a.X ∧ b.Y ≤ a.Y ∧ a.X + a.W ≤ b.X + b.W ∧ a.Y + a.H ≤ b.Y + b.H
instance (a b : Box) : Decidable (a.inside b) := inferInstanceAs (Decidable (_ ∧ _))

theorem e_meetOfI : Enters Try.prog 126 := enters_of Try.func126 (by kernel_rfl) (by kernel_rfl)
theorem meetOfI_c (a b : Box) : ACalls Try.prog 126 [.agg a.cs, .agg b.cs] [] [] (fun r L => r = .tup [.agg (if a.meets b then a.meet b else Box.zero).cs, .val (.bool (decide (a.meets b)))] ∧ L = []) := by
  refine acalls_tm T_tt Try.func126 rfl e_meetOfI 67 rfl (W8 _ _ .any .any .any .any .any .any (W8 .any .any .any .any .any .any .any .any (W8 .any .any .any .any .any .any .any .any (W8 .any .any .any .any .any .any .any .any (W8 .any .any .any .any .any .any .any .any (W8 .any .any .any .any .any .any .any .any (W8 .any .any .any .any .any .any .any .any (W8 .any .any .any .any .any .any .any .any [.any, .any, .any, .any, .any])))))))) rfl (rv := [.cell 4 84, .tmp 5]) rfl (sx_sound (bl := []) T_tt _ _ _ ?_)
  simp (disch := omega) only [SX0, SX1, SX2, SX3, SX4, SX5, SX6, SX7, SX8, SU0, SY0, SY1, Nat.reduceAdd, Nat.reduceMul, Nat.reduceSub, Nat.reduceLeDiff, Nat.reduceEqDiff, Nat.reduceLT, Nat.reduceBEq, ↓reduceIte, Int.reduceLE, Int.reduceLT, Int.reduceToNat, Int.reduceNeg, reduceCtorEq, Int.reduceEq, SF0, SF1, SF2, DDb0, DBc0, DBa0, DCa0, DCa1]
  refine acall_one (validBoxI_c a) rfl rfl ?_
  simp (disch := omega) only [SX0, SX1, SX2, SX3, SX4, SX5, SX6, SX7, SX8, SU0, SY0, SY1, Nat.reduceAdd, Nat.reduceMul, Nat.reduceSub, Nat.reduceLeDiff, Nat.reduceEqDiff, Nat.reduceLT, Nat.reduceBEq, ↓reduceIte, Int.reduceLE, Int.reduceLT, Int.reduceToNat, Int.reduceNeg, reduceCtorEq, Int.reduceEq, SF0, SF1, SF2, DDb0, DBc0, DBa0, DCa0, DCa1]
  refine br_ndec (fun ha => ?_) (fun ha => ?_)
  · simp (disch := omega) only [SX0, SX1, SX2, SX3, SX4, SX5, SX6, SX7, SX8, SU0, SY0, SY1, Nat.reduceAdd, Nat.reduceMul, Nat.reduceSub, Nat.reduceLeDiff, Nat.reduceEqDiff, Nat.reduceLT, Nat.reduceBEq, ↓reduceIte, Int.reduceLE, Int.reduceLT, Int.reduceToNat, Int.reduceNeg, reduceCtorEq, Int.reduceEq, SF0, SF1, SF2, DDb0, DBc0, DBa0, DCa0, DCa1]
    exact fin_free rfl ⟨by simp only [Box.meets, ha, false_and, decide_false, if_false]; rfl, rfl⟩
  · simp (disch := omega) only [SX0, SX1, SX2, SX3, SX4, SX5, SX6, SX7, SX8, SU0, SY0, SY1, Nat.reduceAdd, Nat.reduceMul, Nat.reduceSub, Nat.reduceLeDiff, Nat.reduceEqDiff, Nat.reduceLT, Nat.reduceBEq, ↓reduceIte, Int.reduceLE, Int.reduceLT, Int.reduceToNat, Int.reduceNeg, reduceCtorEq, Int.reduceEq, SF0, SF1, SF2, DDb0, DBc0, DBa0, DCa0, DCa1]
    refine acall_one (validBoxI_c b) rfl rfl ?_
    simp (disch := omega) only [SX0, SX1, SX2, SX3, SX4, SX5, SX6, SX7, SX8, SU0, SY0, SY1, Nat.reduceAdd, Nat.reduceMul, Nat.reduceSub, Nat.reduceLeDiff, Nat.reduceEqDiff, Nat.reduceLT, Nat.reduceBEq, ↓reduceIte, Int.reduceLE, Int.reduceLT, Int.reduceToNat, Int.reduceNeg, reduceCtorEq, Int.reduceEq, SF0, SF1, SF2, DDb0, DBc0, DBa0, DCa0, DCa1]
    refine br_ndec (fun hb => ?_) (fun hb => ?_)
    · simp (disch := omega) only [SX0, SX1, SX2, SX3, SX4, SX5, SX6, SX7, SX8, SU0, SY0, SY1, Nat.reduceAdd, Nat.reduceMul, Nat.reduceSub, Nat.reduceLeDiff, Nat.reduceEqDiff, Nat.reduceLT, Nat.reduceBEq, ↓reduceIte, Int.reduceLE, Int.reduceLT, Int.reduceToNat, Int.reduceNeg, reduceCtorEq, Int.reduceEq, SF0, SF1, SF2, DDb0, DBc0, DBa0, DCa0, DCa1]
      exact fin_free rfl ⟨by simp only [Box.meets, hb, false_and, and_false, decide_false, if_false]; rfl, rfl⟩
    · have ha' := ha
      have hb' := hb
      unfold Box.ok at ha hb
      simp (disch := omega) only [SX0, SX1, SX2, SX3, SX4, SX5, SX6, SX7, SX8, SU0, SY0, SY1, Nat.reduceAdd, Nat.reduceMul, Nat.reduceSub, Nat.reduceLeDiff, Nat.reduceEqDiff, Nat.reduceLT, Nat.reduceBEq, ↓reduceIte, Int.reduceLE, Int.reduceLT, Int.reduceToNat, Int.reduceNeg, reduceCtorEq, Int.reduceEq, SF0, SF1, SF2, DDb0, DBc0, DBa0, DCa0, DCa1]
      repeat' first | with_reducible refine fin_val ⟨?_, rfl⟩ | with_reducible refine br_dec (fun hb => ?_) (fun hb => ?_) | with_reducible refine br_ndec (fun hb => ?_) (fun hb => ?_) | with_reducible refine br_bool (fun hb => ?_) (fun hb => ?_) | with_reducible refine pk_dec (fun hb => ?_) (fun hb => ?_) | with_reducible refine pk_ndec (fun hb => ?_) (fun hb => ?_) | with_reducible refine awp_drawA T_tt mixed (by decide +kernel) (by kernel_rfl) (by kernel_rfl) ?_ | simp (disch := omega) only [SX0, SX1, SX2, SX3, SX4, SX5, SX6, SX7, SX8, SU0, SY0, SY1, Nat.reduceAdd, Nat.reduceMul, Nat.reduceSub, Nat.reduceLeDiff, Nat.reduceEqDiff, Nat.reduceLT, Nat.reduceBEq, ↓reduceIte, Int.reduceLE, Int.reduceLT, Int.reduceToNat, Int.reduceNeg, reduceCtorEq, Int.reduceEq, SF0, SF1, SF2, DDb0, DBc0, DBa0, DCa0, DCa1]
      · have hm : ¬ a.meets b := by simp only [Box.meets, Box.meet, ha', hb', true_and]; omega
        exact fin_free rfl ⟨by rw [if_neg hm, decide_eq_false hm]; rfl, rfl⟩
      · have hm : ¬ a.meets b := by simp only [Box.meets, Box.meet, ha', hb', true_and]; omega
        exact fin_free rfl ⟨by rw [if_neg hm, decide_eq_false hm]; rfl, rfl⟩
      · have hm : a.meets b := by simp only [Box.meets, Box.meet, ha', hb', true_and]; omega
        exact fin_free rfl ⟨by rw [if_pos hm, decide_eq_true hm]; rfl, rfl⟩

theorem e_insideOfI : Enters Try.prog 68 := enters_of Try.func68 (by kernel_rfl) (by kernel_rfl)
theorem insideOfI_c (a b : Box) : ACalls Try.prog 68 [.agg a.cs, .agg b.cs] [] [] (fun r L => r = .val (.bool (decide (a.inside b))) ∧ L = []) := by
  refine acalls_tm T_tt Try.func68 rfl e_insideOfI 17 rfl (W8 _ _ .any .any .any .any .any .any (W8 .any .any .any .any .any .any .any .any [.any, .any, .any])) rfl (rv := [.tmp 4]) rfl (sx_sound (bl := []) T_tt _ _ _ ?_)
  simp (disch := omega) only [SX0, SX1, SX2, SX3, SX4, SX5, SX6, SX7, SX8, SU0, SY0, SY1, Nat.reduceAdd, Nat.reduceMul, Nat.reduceSub, Nat.reduceLeDiff, Nat.reduceEqDiff, Nat.reduceLT, Nat.reduceBEq, ↓reduceIte, Int.reduceLE, Int.reduceLT, Int.reduceToNat, Int.reduceNeg, reduceCtorEq, Int.reduceEq, SF0, SF1, SF2, DDb0, DBc0, DBa0, DCa0, DCa1]
  refine acall_one (meetOfI_c a b) rfl rfl ?_
  simp (disch := omega) only [SX0, SX1, SX2, SX3, SX4, SX5, SX6, SX7, SX8, SU0, SY0, SY1, Nat.reduceAdd, Nat.reduceMul, Nat.reduceSub, Nat.reduceLeDiff, Nat.reduceEqDiff, Nat.reduceLT, Nat.reduceBEq, ↓reduceIte, Int.reduceLE, Int.reduceLT, Int.reduceToNat, Int.reduceNeg, reduceCtorEq, Int.reduceEq, SF0, SF1, SF2, DDb0, DBc0, DBa0, DCa0, DCa1]
  refine br_dec (fun h => ?_) (fun h => ?_)
  · simp (disch := omega) only [SX0, SX1, SX2, SX3, SX4, SX5, SX6, SX7, SX8, SU0, SY0, SY1, Nat.reduceAdd, Nat.reduceMul, Nat.reduceSub, Nat.reduceLeDiff, Nat.reduceEqDiff, Nat.reduceLT, Nat.reduceBEq, ↓reduceIte, Int.reduceLE, Int.reduceLT, Int.reduceToNat, Int.reduceNeg, reduceCtorEq, Int.reduceEq, SF0, SF1, SF2, DDb0, DBc0, DBa0, DCa0, DCa1, if_pos h]
    refine fin_free rfl ⟨vb ⟨fun h2 => ?_, fun h2 => ?_⟩, rfl⟩
    · refine ⟨h.1, h.2.1, ?_⟩
      simp only [Box.meet, Box.ext_iff] at h2
      omega
    · simp only [Box.inside] at h2
      simp only [Box.meet, Box.ext_iff]; omega
  · simp (disch := omega) only [SX0, SX1, SX2, SX3, SX4, SX5, SX6, SX7, SX8, SU0, SY0, SY1, Nat.reduceAdd, Nat.reduceMul, Nat.reduceSub, Nat.reduceLeDiff, Nat.reduceEqDiff, Nat.reduceLT, Nat.reduceBEq, ↓reduceIte, Int.reduceLE, Int.reduceLT, Int.reduceToNat, Int.reduceNeg, reduceCtorEq, Int.reduceEq, SF0, SF1, SF2, DDb0, DBc0, DBa0, DCa0, DCa1]
    refine fin_free rfl ⟨vF (fun hi => h ?_), rfl⟩
    simp only [Box.inside, Box.ok] at hi
    refine ⟨hi.1, hi.2.1, ?_⟩
    simp only [Box.meet]; omega

end Go.Pc
