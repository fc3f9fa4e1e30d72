/- Pieces of glass. -/
import Derived.Test.YtokghjmmdnhbeaaMa
import Derived.Test.YtokghjmmdnhbeaaMp
import Derived.Test.YtokghjmmdnhbeaaMl
import Derived.Test.YtokghjmmdnhbeaaHc
set_option linter.unusedSimpArgs false
set_option linter.unusedVariables false
namespace Go.Pc
open Go Go.Proofs

/-- A piece of glass. -/
structure Piece where
  La : Int
  W : Int
  H : Int
  Fl : List Box
def Piece.cs (q : Piece) : List AV := [.val (.int .i64 q.La), .val (.int .i64 q.W), .val (.int .i64 q.H), .sl (q.Fl.map Box.cs)]
theorem Piece.len (q : Piece) : q.cs.length = 4 := rfl
theorem Piece.take (q : Piece) : q.cs.take 4 = q.cs := rfl
theorem Piece.g0 (q : Piece) : q.cs[0]? = some (.val (.int .i64 q.La)) := rfl
theorem Piece.g1 (q : Piece) : q.cs[1]? = some (.val (.int .i64 q.W)) := rfl
theorem Piece.g2 (q : Piece) : q.cs[2]? = some (.val (.int .i64 q.H)) := rfl
theorem Piece.g3 (q : Piece) : q.cs[3]? = some (.sl (q.Fl.map Box.cs)) := rfl
theorem Piece.one (q : Piece) : q.cs.all AV.one = true := rfl
theorem Piece.pure (q : Piece) : q.cs.all AV.pure = true := rfl
theorem Piece.free (q : Piece) : freeL q.cs = true := rfl
theorem Piece.under (q : Piece) (m : Nat) : underL m q.cs = true := rfl
theorem Piece.filtd (f : Nat → Bool) (p : Piece) : filtL f p.cs = p.cs := (free_filt_aux f).2 _ p.free
theorem Piece.rend (f : Nat → Nat) (p : Piece) : renL f p.cs = p.cs := freeL_rend f p.free
theorem DPa0 : type_of% @Piece.len ∧ type_of% @Piece.take ∧ type_of% @Piece.g0 ∧ type_of% @Piece.g1 ∧ type_of% @Piece.g2 ∧ type_of% @Piece.g3 ∧ type_of% @Piece.one ∧ type_of% @Piece.pure ∧ type_of% @Piece.filtd ∧ type_of% @Piece.rend := ⟨@Piece.len, @Piece.take, @Piece.g0, @Piece.g1, @Piece.g2, @Piece.g3, @Piece.one, @Piece.pure, @Piece.filtd, @Piece.rend⟩
def Piece.box (q : Piece) : Box := ⟨0, 0, q.W, q.H⟩
def Piece.ok (q : Piece) : Prop := (1 ≤ q.La ∧ q.La ≤ 9999) ∧ (1 ≤ q.W ∧ q.W ≤ 200) ∧ (1 ≤ q.H ∧ q.H ≤ 200) ∧ q.Fl.length ≤ 6 ∧ ∀ b ∈ q.Fl, b.inside q.box
instance (q : Piece) : Decidable q.ok := inferInstanceAs (Decidable (_ ∧ _))

def Piece.rngd (q : Piece) : Prop := (-9223372036854775808 ≤ q.W ∧ q.W ≤ 9223372036854775807) ∧ (-9223372036854775808 ≤ q.H ∧ q.H ≤ 9223372036854775807)
/-- Inside, by coordinates. -/
def Box.geo (a b : Box) : Prop := b.X ≤ a.X ∧ b.Y ≤ a.Y ∧ a.X + a.W ≤ b.X + b.W ∧ a.Y + a.H ≤ b.Y + b.H
instance (a b : Box) : Decidable (a.geo b) := inferInstanceAs (Decidable (_ ∧ _))

theorem e_validBoxS : Enters Try.prog 48 := enters_of Try.func48 (by kernel_rfl) (by kernel_rfl)
theorem validBoxS_c (b : Box) : ACalls Try.prog 48 [.agg b.cs] [] [] (fun r L => r = .val (.bool (decide b.ok)) ∧ L = []) := by
  refine acalls_tm T_tt Try.func48 rfl e_validBoxS 26 rfl (W8 _ .any .any .any .any .any .any .any (W8 .any .any .any .any .any .any .any .any (W8 .any .any .any .any .any .any .any .any [.any, .any, .any]))) rfl (rv := [.tmp 2]) rfl (sx_sound (bl := []) T_tt _ _ _ ?_)
  simp (disch := omega) only [SX0, SX1, SX2, SX3, SX4, SX5, SX6, SX7, SX8, SU0, SY0, Nat.reduceAdd, Nat.reduceMul, Nat.reduceSub, Nat.reduceLeDiff, Nat.reduceEqDiff, Nat.reduceLT, Nat.reduceBEq, ↓reduceIte, Int.reduceLE, Int.reduceLT, Int.reduceToNat, Int.reduceNeg, reduceCtorEq, Int.reduceEq, SF0, SF1, SF2, DHb0, DHb1, DHa0, DCg0, DCe0, DCe1, DCe2, DDb0, DBc0, DBc1, DPa0]
  refine acall_one (inRange_c _ _ _) rfl rfl ?_
  simp (disch := omega) only [SX0, SX1, SX2, SX3, SX4, SX5, SX6, SX7, SX8, SU0, SY0, Nat.reduceAdd, Nat.reduceMul, Nat.reduceSub, Nat.reduceLeDiff, Nat.reduceEqDiff, Nat.reduceLT, Nat.reduceBEq, ↓reduceIte, Int.reduceLE, Int.reduceLT, Int.reduceToNat, Int.reduceNeg, reduceCtorEq, Int.reduceEq, SF0, SF1, SF2, DHb0, DHb1, DHa0, DCg0, DCe0, DCe1, DCe2, DDb0, DBc0, DBc1, DPa0]
  refine br_dec (fun h1 => ?_) (fun h1 => ?_)
  · simp (disch := omega) only [SX0, SX1, SX2, SX3, SX4, SX5, SX6, SX7, SX8, SU0, SY0, Nat.reduceAdd, Nat.reduceMul, Nat.reduceSub, Nat.reduceLeDiff, Nat.reduceEqDiff, Nat.reduceLT, Nat.reduceBEq, ↓reduceIte, Int.reduceLE, Int.reduceLT, Int.reduceToNat, Int.reduceNeg, reduceCtorEq, Int.reduceEq, SF0, SF1, SF2, DHb0, DHb1, DHa0, DCg0, DCe0, DCe1, DCe2, DDb0, DBc0, DBc1, DPa0]
    refine acall_one (inRange_c _ _ _) rfl rfl ?_
    simp (disch := omega) only [SX0, SX1, SX2, SX3, SX4, SX5, SX6, SX7, SX8, SU0, SY0, Nat.reduceAdd, Nat.reduceMul, Nat.reduceSub, Nat.reduceLeDiff, Nat.reduceEqDiff, Nat.reduceLT, Nat.reduceBEq, ↓reduceIte, Int.reduceLE, Int.reduceLT, Int.reduceToNat, Int.reduceNeg, reduceCtorEq, Int.reduceEq, SF0, SF1, SF2, DHb0, DHb1, DHa0, DCg0, DCe0, DCe1, DCe2, DDb0, DBc0, DBc1, DPa0]
    refine br_dec (fun h2 => ?_) (fun h2 => ?_)
    · simp (disch := omega) only [SX0, SX1, SX2, SX3, SX4, SX5, SX6, SX7, SX8, SU0, SY0, Nat.reduceAdd, Nat.reduceMul, Nat.reduceSub, Nat.reduceLeDiff, Nat.reduceEqDiff, Nat.reduceLT, Nat.reduceBEq, ↓reduceIte, Int.reduceLE, Int.reduceLT, Int.reduceToNat, Int.reduceNeg, reduceCtorEq, Int.reduceEq, SF0, SF1, SF2, DHb0, DHb1, DHa0, DCg0, DCe0, DCe1, DCe2, DDb0, DBc0, DBc1, DPa0]
      refine acall_one (inRange_c _ _ _) rfl rfl ?_
      simp (disch := omega) only [SX0, SX1, SX2, SX3, SX4, SX5, SX6, SX7, SX8, SU0, SY0, Nat.reduceAdd, Nat.reduceMul, Nat.reduceSub, Nat.reduceLeDiff, Nat.reduceEqDiff, Nat.reduceLT, Nat.reduceBEq, ↓reduceIte, Int.reduceLE, Int.reduceLT, Int.reduceToNat, Int.reduceNeg, reduceCtorEq, Int.reduceEq, SF0, SF1, SF2, DHb0, DHb1, DHa0, DCg0, DCe0, DCe1, DCe2, DDb0, DBc0, DBc1, DPa0]
      refine br_dec (fun h3 => ?_) (fun h3 => ?_)
      · simp (disch := omega) only [SX0, SX1, SX2, SX3, SX4, SX5, SX6, SX7, SX8, SU0, SY0, Nat.reduceAdd, Nat.reduceMul, Nat.reduceSub, Nat.reduceLeDiff, Nat.reduceEqDiff, Nat.reduceLT, Nat.reduceBEq, ↓reduceIte, Int.reduceLE, Int.reduceLT, Int.reduceToNat, Int.reduceNeg, reduceCtorEq, Int.reduceEq, SF0, SF1, SF2, DHb0, DHb1, DHa0, DCg0, DCe0, DCe1, DCe2, DDb0, DBc0, DBc1, DPa0]
        refine acall_one (inRange_c _ _ _) rfl rfl ?_
        simp (disch := omega) only [SX0, SX1, SX2, SX3, SX4, SX5, SX6, SX7, SX8, SU0, SY0, Nat.reduceAdd, Nat.reduceMul, Nat.reduceSub, Nat.reduceLeDiff, Nat.reduceEqDiff, Nat.reduceLT, Nat.reduceBEq, ↓reduceIte, Int.reduceLE, Int.reduceLT, Int.reduceToNat, Int.reduceNeg, reduceCtorEq, Int.reduceEq, SF0, SF1, SF2, DHb0, DHb1, DHa0, DCg0, DCe0, DCe1, DCe2, DDb0, DBc0, DBc1, DPa0]
        refine fin_val ⟨vb ?_, rfl⟩
        unfold Box.ok
        omega
      · simp (disch := omega) only [SX0, SX1, SX2, SX3, SX4, SX5, SX6, SX7, SX8, SU0, SY0, Nat.reduceAdd, Nat.reduceMul, Nat.reduceSub, Nat.reduceLeDiff, Nat.reduceEqDiff, Nat.reduceLT, Nat.reduceBEq, ↓reduceIte, Int.reduceLE, Int.reduceLT, Int.reduceToNat, Int.reduceNeg, reduceCtorEq, Int.reduceEq, SF0, SF1, SF2, DHb0, DHb1, DHa0, DCg0, DCe0, DCe1, DCe2, DDb0, DBc0, DBc1, DPa0]
        exact fin_val ⟨vF fun h => h3 (by unfold Box.ok at h; omega), rfl⟩
    · simp (disch := omega) only [SX0, SX1, SX2, SX3, SX4, SX5, SX6, SX7, SX8, SU0, SY0, Nat.reduceAdd, Nat.reduceMul, Nat.reduceSub, Nat.reduceLeDiff, Nat.reduceEqDiff, Nat.reduceLT, Nat.reduceBEq, ↓reduceIte, Int.reduceLE, Int.reduceLT, Int.reduceToNat, Int.reduceNeg, reduceCtorEq, Int.reduceEq, SF0, SF1, SF2, DHb0, DHb1, DHa0, DCg0, DCe0, DCe1, DCe2, DDb0, DBc0, DBc1, DPa0]
      exact fin_val ⟨vF fun h => h2 h.2.1, rfl⟩
  · simp (disch := omega) only [SX0, SX1, SX2, SX3, SX4, SX5, SX6, SX7, SX8, SU0, SY0, Nat.reduceAdd, Nat.reduceMul, Nat.reduceSub, Nat.reduceLeDiff, Nat.reduceEqDiff, Nat.reduceLT, Nat.reduceBEq, ↓reduceIte, Int.reduceLE, Int.reduceLT, Int.reduceToNat, Int.reduceNeg, reduceCtorEq, Int.reduceEq, SF0, SF1, SF2, DHb0, DHb1, DHa0, DCg0, DCe0, DCe1, DCe2, DDb0, DBc0, DBc1, DPa0]
    exact fin_val ⟨vF fun h => h1 h.1, rfl⟩

theorem e_insideOfS : Enters Try.prog 49 := enters_of Try.func49 (by kernel_rfl) (by kernel_rfl)
theorem insideOfS_c (a b : Box) (ha : a.ok) (hb : b.X = 0 ∧ b.Y = 0) (hr : (-9223372036854775808 ≤ b.W ∧ b.W ≤ 9223372036854775807) ∧ (-9223372036854775808 ≤ b.H ∧ b.H ≤ 9223372036854775807)) : ACalls Try.prog 49 [.agg a.cs, .agg b.cs] [] [] (fun r L => r = .val (.bool (decide (a.geo b))) ∧ L = []) := by
  unfold Box.ok at ha
  refine acalls_tm T_tt Try.func49 rfl e_insideOfS 41 rfl (W8 _ _ .any .any .any .any .any .any (W8 .any .any .any .any .any .any .any .any (W8 .any .any .any .any .any .any .any .any (W8 .any .any .any .any .any .any .any .any (W8 .any .any .any .any .any .any .any .any [.any, .any, .any]))))) rfl (rv := [.tmp 4]) rfl (sx_sound (bl := []) T_tt _ _ _ ?_)
  repeat' first | with_reducible refine fin_val ⟨?_, rfl⟩ | with_reducible refine br_dec (fun hb => ?_) (fun hb => ?_) | with_reducible refine br_ndec (fun hb => ?_) (fun hb => ?_) | with_reducible refine br_bool (fun hb => ?_) (fun hb => ?_) | with_reducible refine pk_dec (fun hb => ?_) (fun hb => ?_) | with_reducible refine pk_ndec (fun hb => ?_) (fun hb => ?_) | with_reducible refine awp_drawA T_tt mixed (by decide +kernel) (by kernel_rfl) (by kernel_rfl) ?_ | simp (disch := omega) only [SX0, SX1, SX2, SX3, SX4, SX5, SX6, SX7, SX8, SU0, SY0, Nat.reduceAdd, Nat.reduceMul, Nat.reduceSub, Nat.reduceLeDiff, Nat.reduceEqDiff, Nat.reduceLT, Nat.reduceBEq, ↓reduceIte, Int.reduceLE, Int.reduceLT, Int.reduceToNat, Int.reduceNeg, reduceCtorEq, Int.reduceEq, SF0, SF1, SF2, DHb0, DHb1, DHa0, DCg0, DCe0, DCe1, DCe2, DDb0, DBc0, DBc1, DPa0]
  all_goals first | exact vF (by simp only [Box.geo] at *; omega) | exact vT (by simp only [Box.geo] at *; omega) | exact vb (by simp only [Box.geo] at *; omega)

theorem Piece.box_ok {q : Piece} : q.box.ok ↔ (1 ≤ q.W ∧ q.W ≤ 200) ∧ (1 ≤ q.H ∧ q.H ≤ 200) := by
  unfold Piece.box Box.ok; simp only; omega
theorem Box.inside_geo {a b : Box} (ha : a.ok) (hb : b.ok) : a.inside b ↔ a.geo b := ⟨fun h => h.2.2, fun h => ⟨ha, hb, h⟩⟩

/-- No flaw has a point of the box. -/
def clear (fl : List Box) (b : Box) : Prop := ∀ f ∈ fl, ¬ f.meets b
instance (fl : List Box) (b : Box) : Decidable (clear fl b) := inferInstanceAs (Decidable (∀ f ∈ fl, _))

theorem e_meetOfS : Enters Try.prog 62 := enters_of Try.func62 (by kernel_rfl) (by kernel_rfl)
set_option maxRecDepth 8000 in
set_option maxHeartbeats 1000000 in
theorem meetOfS_c (a b : Box) (ha : a.ok) (hb : b.ok) : ACalls Try.prog 62 [.agg a.cs, .agg b.cs] [] [] (fun r L => r = .tup [.agg (if a.meets b then a.meet b else Box.zero).cs, .val (.bool (decide (a.meets b)))] ∧ L = []) := by
  have ha' := ha
  have hb' := hb
  unfold Box.ok at ha hb
  refine acalls_tm T_tt Try.func62 rfl e_meetOfS 56 rfl (W8 _ _ .any .any .any .any .any .any (W8 .any .any .any .any .any .any .any .any (W8 .any .any .any .any .any .any .any .any (W8 .any .any .any .any .any .any .any .any (W8 .any .any .any .any .any .any .any .any (W8 .any .any .any .any .any .any .any .any (W8 .any .any .any .any .any .any .any .any [.any, .any]))))))) rfl (rv := [.cell 4 44, .tmp 5]) rfl (sx_sound (bl := []) T_tt _ _ _ ?_)
  repeat' first | with_reducible refine fin_val ⟨?_, rfl⟩ | with_reducible refine br_dec (fun hb => ?_) (fun hb => ?_) | with_reducible refine br_ndec (fun hb => ?_) (fun hb => ?_) | with_reducible refine br_bool (fun hb => ?_) (fun hb => ?_) | with_reducible refine pk_dec (fun hb => ?_) (fun hb => ?_) | with_reducible refine pk_ndec (fun hb => ?_) (fun hb => ?_) | with_reducible refine awp_drawA T_tt mixed (by decide +kernel) (by kernel_rfl) (by kernel_rfl) ?_ | simp (disch := omega) only [SX0, SX1, SX2, SX3, SX4, SX5, SX6, SX7, SX8, SU0, SY0, Nat.reduceAdd, Nat.reduceMul, Nat.reduceSub, Nat.reduceLeDiff, Nat.reduceEqDiff, Nat.reduceLT, Nat.reduceBEq, ↓reduceIte, Int.reduceLE, Int.reduceLT, Int.reduceToNat, Int.reduceNeg, reduceCtorEq, Int.reduceEq, SF0, SF1, SF2, DHb0, DHb1, DHa0, DCg0, DCe0, DCe1, DCe2, DDb0, DBc0, DBc1, DPa0]
  · have hm : ¬ a.meets b := by simp only [Box.meets, Box.meet, ha', hb', true_and]; omega
    exact fin_free rfl ⟨by rw [if_neg hm, decide_eq_false hm]; rfl, rfl⟩
  · have hm : ¬ a.meets b := by simp only [Box.meets, Box.meet, ha', hb', true_and]; omega
    exact fin_free rfl ⟨by rw [if_neg hm, decide_eq_false hm]; rfl, rfl⟩
  · have hm : a.meets b := by simp only [Box.meets, Box.meet, ha', hb', true_and]; omega
    exact fin_free rfl ⟨by rw [if_pos hm, decide_eq_true hm]; rfl, rfl⟩

/-- A plan that can be cut from a piece. -/
def Plan.clean (p : Plan) (q : Piece) (k : Work) : Prop := q.ok ∧ p.valid k ∧ k.W = q.W ∧ k.H = q.H ∧ ∀ c ∈ p.places k.sheet, clear q.Fl c.box
instance (p : Plan) (q : Piece) (k : Work) : Decidable (p.clean q k) := inferInstanceAs (Decidable (_ ∧ _))

end Go.Pc
