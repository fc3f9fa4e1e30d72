/- Boxes: valid ones, what two have in common, inside; the program's panes and works. -/
import Derived.Test.YtkcpcmobmalijaaDb
set_option linter.unusedSimpArgs false
set_option linter.unusedVariables false
namespace Go.Pc
open Go Go.Proofs

/-- A box. -/
structure Box where
  X : Int
  Y : Int
  W : Int
  H : Int
  deriving DecidableEq
def Box.cs (b : Box) : List AV := [.val (.int .i64 b.X), .val (.int .i64 b.Y), .val (.int .i64 b.W), .val (.int .i64 b.H)]
theorem Box.len (b : Box) : b.cs.length = 4 := rfl
theorem Box.take (b : Box) : b.cs.take 4 = b.cs := rfl
theorem Box.g0 (b : Box) : b.cs[0]? = some (.val (.int .i64 b.X)) := rfl
theorem Box.g1 (b : Box) : b.cs[1]? = some (.val (.int .i64 b.Y)) := rfl
theorem Box.g2 (b : Box) : b.cs[2]? = some (.val (.int .i64 b.W)) := rfl
theorem Box.g3 (b : Box) : b.cs[3]? = some (.val (.int .i64 b.H)) := rfl
theorem Box.one (b : Box) : b.cs.all AV.one = true := rfl
theorem Box.pure (b : Box) : b.cs.all AV.pure = true := rfl
theorem Box.free (b : Box) : freeL b.cs = true := rfl

theorem Box.filtd (f : Nat → Bool) (p : Box) : filtL f p.cs = p.cs := (free_filt_aux f).2 _ p.free
theorem Box.rend (f : Nat → Nat) (p : Box) : renL f p.cs = p.cs := freeL_rend f p.free
theorem DCe0 : type_of% @Box.rend ∧ type_of% @Box.filtd ∧ type_of% @Box.len ∧ type_of% @Box.take ∧ type_of% @Box.g0 ∧ type_of% @Box.g1 ∧ type_of% @Box.g2 ∧ type_of% @Box.g3 ∧ type_of% @Box.one ∧ type_of% @Box.pure := ⟨@Box.rend, @Box.filtd, @Box.len, @Box.take, @Box.g0, @Box.g1, @Box.g2, @Box.g3, @Box.one, @Box.pure⟩
theorem Box.eq (a b : Box) : eqA [SK.int, SK.int, SK.int, SK.int] a.cs b.cs = some (decide (a = b)) := by
  obtain ⟨x, y, w, h⟩ := a
  obtain ⟨x', y', w', h'⟩ := b
  simp [Box.cs, eqA, Box.mk.injEq, Bool.decide_and]
theorem DCe1 : type_of% @Box.eq := @Box.eq
def Box.ok (b : Box) : Prop := (1 ≤ b.W ∧ b.W ≤ 200) ∧ (1 ≤ b.H ∧ b.H ≤ 200) ∧ (0 ≤ b.X ∧ b.X + b.W ≤ 200) ∧ (0 ≤ b.Y ∧ b.Y + b.H ≤ 200)
instance (b : Box) : Decidable b.ok := inferInstanceAs (Decidable (_ ∧ _))

def Box.zero : Box := ⟨0, 0, 0, 0⟩
end Go.Pc

/- Plans cut glass: the parts of a plan with their boxes, its cuts. -/
namespace Go.Pc
open Go Go.Proofs

/-- The boxes of both kids. -/
def Plan.split (p : Plan) (b : Box) : Box × Box :=
  if p.op = 2 then (⟨b.X, b.Y, p.at_, b.H⟩, ⟨b.X + p.at_, b.Y, b.W - p.at_, b.H⟩) else (⟨b.X, b.Y, b.W, p.at_⟩, ⟨b.X, b.Y + p.at_, b.W, b.H - p.at_⟩)

/-- All parts with their boxes, each before its kids. -/
def Plan.parts : Plan → Box → List (Plan × Box)
  | .mk op at_ pa tu ks, b =>
    (.mk op at_ pa tu ks, b) :: if op = 2 ∨ op = 3 then
      match ks with
      | [x, y] => x.parts ((Plan.mk op at_ pa tu ks).split b).1 ++ y.parts ((Plan.mk op at_ pa tu ks).split b).2
      | _ => []
    else []

theorem Plan.parts_cut {p x y : Plan} (hc : p.cut) (hk : p.ks = [x, y]) (b : Box) : p.parts b = (p, b) :: (x.parts (p.split b).1 ++ y.parts (p.split b).2) := by
  cases p; simp only [Plan.ks] at hk; subst hk
  rw [Plan.parts.eq_def]
  simp only [Plan.cut, Plan.op] at hc
  simp only [if_pos hc]
theorem Plan.parts_leaf {p : Plan} (hc : ¬ p.cut) (b : Box) : p.parts b = [(p, b)] := by
  cases p
  rw [Plan.parts.eq_def]
  simp only [Plan.cut, Plan.op] at hc
  simp only [if_neg hc]

theorem Plan.nodes_two {p x y : Plan} (hk : p.ks = [x, y]) : p.nodes = 1 + x.nodes + y.nodes := by
  rw [Plan.nodes_eq, hk]; simp [Plan.nodesL]; omega
/-- The cuts by number, each with the number of the cut above it. -/
def Plan.knots : Plan → Int → Int → List (Int × Int)
  | .mk op _ _ _ ks, n, above =>
    if op = 2 ∨ op = 3 then
      match ks with
      | [x, y] => (n, above) :: (x.knots (n + 1) n ++ y.knots (n + 1 + x.nodes) n)
      | _ => []
    else []

end Go.Pc

/- Works and plans of the program, and of the reference: valid ones. -/
namespace Go.Pc
open Go Go.Proofs

def Work.ok (k : Work) : Prop := (1 ≤ k.W ∧ k.W ≤ 200) ∧ (1 ≤ k.H ∧ k.H ≤ 200) ∧ (∀ p ∈ k.Ps, p.ok) ∧ k.Ps.length ≤ 24
theorem Work.under (k : Work) (m : Nat) : underL m k.cs = true := rfl
instance (k : Work) : Decidable k.ok := inferInstanceAs (Decidable (_ ∧ _))

theorem e_validWorkS : Enters Try.prog 82 := enters_of Try.func82 (by kernel_rfl) (by kernel_rfl)
theorem validWorkS_c (k : Work) (hk : k.Ps.length < 2 ^ 40) : ACalls Try.prog 82 [.agg k.cs] [] [] (fun r L => r = .val (.bool (decide k.ok)) ∧ L = []) := by
  refine acalls_tm T_tt Try.func82 rfl e_validWorkS 15 rfl (W8 _ .any .any .any .any .any .any .any (W8 .any .any .any .any .any .any .any .any [])) rfl (rv := [.tmp 2]) rfl (sx_sound (bl := []) T_tt _ _ _ ?_)
  simp (disch := omega) only [SX0, SX1, SX2, SX3, SX4, SX5, SX6, SX7, SX8, SU0, SY0, SY1, Nat.reduceAdd, Nat.reduceMul, Nat.reduceSub, Nat.reduceLeDiff, Nat.reduceEqDiff, Nat.reduceLT, Nat.reduceBEq, ↓reduceIte, Int.reduceLE, Int.reduceLT, Int.reduceToNat, Int.reduceNeg, reduceCtorEq, Int.reduceEq, SF0, SF1, SF2, DDb0, DBc0, DBc1, DCe0, DCe1]
  refine acall_one (inRange_c _ _ _) rfl rfl ?_
  simp (disch := omega) only [SX0, SX1, SX2, SX3, SX4, SX5, SX6, SX7, SX8, SU0, SY0, SY1, Nat.reduceAdd, Nat.reduceMul, Nat.reduceSub, Nat.reduceLeDiff, Nat.reduceEqDiff, Nat.reduceLT, Nat.reduceBEq, ↓reduceIte, Int.reduceLE, Int.reduceLT, Int.reduceToNat, Int.reduceNeg, reduceCtorEq, Int.reduceEq, SF0, SF1, SF2, DDb0, DBc0, DBc1, DCe0, DCe1]
  refine br_dec (fun h => ?_) (fun h => ?_)
  · simp (disch := omega) only [SX0, SX1, SX2, SX3, SX4, SX5, SX6, SX7, SX8, SU0, SY0, SY1, Nat.reduceAdd, Nat.reduceMul, Nat.reduceSub, Nat.reduceLeDiff, Nat.reduceEqDiff, Nat.reduceLT, Nat.reduceBEq, ↓reduceIte, Int.reduceLE, Int.reduceLT, Int.reduceToNat, Int.reduceNeg, reduceCtorEq, Int.reduceEq, SF0, SF1, SF2, DDb0, DBc0, DBc1, DCe0, DCe1]
    refine acall_one (inRange_c _ _ _) rfl rfl ?_
    simp (disch := omega) only [SX0, SX1, SX2, SX3, SX4, SX5, SX6, SX7, SX8, SU0, SY0, SY1, Nat.reduceAdd, Nat.reduceMul, Nat.reduceSub, Nat.reduceLeDiff, Nat.reduceEqDiff, Nat.reduceLT, Nat.reduceBEq, ↓reduceIte, Int.reduceLE, Int.reduceLT, Int.reduceToNat, Int.reduceNeg, reduceCtorEq, Int.reduceEq, SF0, SF1, SF2, DDb0, DBc0, DBc1, DCe0, DCe1]
    refine br_dec (fun h2 => ?_) (fun h2 => ?_)
    · simp (disch := omega) only [SX0, SX1, SX2, SX3, SX4, SX5, SX6, SX7, SX8, SU0, SY0, SY1, Nat.reduceAdd, Nat.reduceMul, Nat.reduceSub, Nat.reduceLeDiff, Nat.reduceEqDiff, Nat.reduceLT, Nat.reduceBEq, ↓reduceIte, Int.reduceLE, Int.reduceLT, Int.reduceToNat, Int.reduceNeg, reduceCtorEq, Int.reduceEq, SF0, SF1, SF2, DDb0, DBc0, DBc1, DCe0, DCe1]
      refine acall_one (validPanes_c k.Ps hk) rfl rfl ?_
      simp (disch := omega) only [SX0, SX1, SX2, SX3, SX4, SX5, SX6, SX7, SX8, SU0, SY0, SY1, Nat.reduceAdd, Nat.reduceMul, Nat.reduceSub, Nat.reduceLeDiff, Nat.reduceEqDiff, Nat.reduceLT, Nat.reduceBEq, ↓reduceIte, Int.reduceLE, Int.reduceLT, Int.reduceToNat, Int.reduceNeg, reduceCtorEq, Int.reduceEq, SF0, SF1, SF2, DDb0, DBc0, DBc1, DCe0, DCe1]
      refine fin_val ⟨vb ?_, rfl⟩
      simp only [Work.ok, h, h2, true_and]
    · simp (disch := omega) only [SX0, SX1, SX2, SX3, SX4, SX5, SX6, SX7, SX8, SU0, SY0, SY1, Nat.reduceAdd, Nat.reduceMul, Nat.reduceSub, Nat.reduceLeDiff, Nat.reduceEqDiff, Nat.reduceLT, Nat.reduceBEq, ↓reduceIte, Int.reduceLE, Int.reduceLT, Int.reduceToNat, Int.reduceNeg, reduceCtorEq, Int.reduceEq, SF0, SF1, SF2, DDb0, DBc0, DBc1, DCe0, DCe1]
      exact fin_val ⟨vF fun hh => h2 hh.2.1, rfl⟩
  · simp (disch := omega) only [SX0, SX1, SX2, SX3, SX4, SX5, SX6, SX7, SX8, SU0, SY0, SY1, Nat.reduceAdd, Nat.reduceMul, Nat.reduceSub, Nat.reduceLeDiff, Nat.reduceEqDiff, Nat.reduceLT, Nat.reduceBEq, ↓reduceIte, Int.reduceLE, Int.reduceLT, Int.reduceToNat, Int.reduceNeg, reduceCtorEq, Int.reduceEq, SF0, SF1, SF2, DDb0, DBc0, DBc1, DCe0, DCe1]
    exact fin_val ⟨vF fun hh => h hh.1, rfl⟩

theorem e_validPaneI : Enters Try.prog 125 := enters_of Try.func125 (by kernel_rfl) (by kernel_rfl)
theorem validPaneI_c (p : Pane) : ACalls Try.prog 125 [.agg p.cs] [] [] (fun r L => r = .val (.bool (decide p.ok)) ∧ L = []) := by
  refine acalls_tm T_tt Try.func125 rfl e_validPaneI 30 rfl (W8 _ .any .any .any .any .any .any .any (W8 .any .any .any .any .any .any .any .any (W8 .any .any .any .any .any .any .any .any [.any, .any, .any, .any, .any, .any, .any]))) rfl (rv := [.tmp 2]) rfl (sx_sound (bl := []) T_tt _ _ _ ?_)
  repeat' first | with_reducible refine fin_val ⟨?_, rfl⟩ | with_reducible refine br_dec (fun hb => ?_) (fun hb => ?_) | with_reducible refine br_ndec (fun hb => ?_) (fun hb => ?_) | with_reducible refine br_bool (fun hb => ?_) (fun hb => ?_) | with_reducible refine pk_dec (fun hb => ?_) (fun hb => ?_) | with_reducible refine pk_ndec (fun hb => ?_) (fun hb => ?_) | with_reducible refine awp_drawA T_tt mixed (by decide +kernel) (by kernel_rfl) (by kernel_rfl) ?_ | simp (disch := omega) only [SX0, SX1, SX2, SX3, SX4, SX5, SX6, SX7, SX8, SU0, SY0, SY1, Nat.reduceAdd, Nat.reduceMul, Nat.reduceSub, Nat.reduceLeDiff, Nat.reduceEqDiff, Nat.reduceLT, Nat.reduceBEq, ↓reduceIte, Int.reduceLE, Int.reduceLT, Int.reduceToNat, Int.reduceNeg, reduceCtorEq, Int.reduceEq, SF0, SF1, SF2, DDb0, DBc0, DBc1, DCe0, DCe1]
  all_goals first | exact vF (by simp only [Pane.ok] at *; omega) | exact vT (by simp only [Pane.ok] at *; omega) | exact vb (by simp only [Pane.ok] at *; omega)

theorem e_validWorkI : Enters Try.prog 68 := enters_of Try.func68 (by kernel_rfl) (by kernel_rfl)
theorem validWorkI_c (k : Work) (hk : k.Ps.length < 2 ^ 40) : ACalls Try.prog 68 [.agg k.cs] [] [] (fun r L => r = .val (.bool (decide k.ok)) ∧ L = []) := by
  refine acalls_tm T_tt Try.func68 rfl e_validWorkI 39 rfl (W8 _ .any .any .any .any .any .any .any (W8 .any .any .any .any .any .any .any .any (W8 .any .any .any .any .any .any .any .any (W8 .any .any .any .any .any .any .any .any (W8 .any .any .any .any .any .any .any .any []))))) rfl (rv := [.tmp 2]) rfl (sx_sound (bl := []) T_tt _ _ _ ?_)
  repeat' first | with_reducible refine fin_val ⟨?_, rfl⟩ | with_reducible refine br_dec (fun hb => ?_) (fun hb => ?_) | with_reducible refine br_ndec (fun hb => ?_) (fun hb => ?_) | with_reducible refine br_bool (fun hb => ?_) (fun hb => ?_) | with_reducible refine pk_dec (fun hb => ?_) (fun hb => ?_) | with_reducible refine pk_ndec (fun hb => ?_) (fun hb => ?_) | with_reducible refine awp_drawA T_tt mixed (by decide +kernel) (by kernel_rfl) (by kernel_rfl) ?_ | simp (disch := omega) only [SX0, SX1, SX2, SX3, SX4, SX5, SX6, SX7, SX8, SU0, SY0, SY1, Nat.reduceAdd, Nat.reduceMul, Nat.reduceSub, Nat.reduceLeDiff, Nat.reduceEqDiff, Nat.reduceLT, Nat.reduceBEq, ↓reduceIte, Int.reduceLE, Int.reduceLT, Int.reduceToNat, Int.reduceNeg, reduceCtorEq, Int.reduceEq, SF0, SF1, SF2, DDb0, DBc0, DBc1, DCe0, DCe1]
  all_goals first | exact vF (fun hh => by unfold Work.ok at hh; omega) | skip
  rename_i h1 h2 h3 h4
  with_reducible refine awp_loop_h 4 36 (fun (i : Nat) => [(30, .sl (k.Ps.map Pane.cs)), (31, .val (.int .i64 k.Ps.length)), (32, .val (.int .i64 i))]) (fun _ => [.cells k.cs]) (fun i => i ≤ k.Ps.length ∧ ∀ p ∈ k.Ps.take i, p.ok) (fun i => k.Ps.length - i) 0 ⟨Nat.zero_le _, by simp⟩ ?_ (fun i hi => sx_sound (bl := []) T_tt _ _ _ ?_)
  · simp (disch := omega) only [SX0, SX1, SX2, SX3, SX4, SX5, SX6, SX7, SX8, SU0, SY0, SY1, Nat.reduceAdd, Nat.reduceMul, Nat.reduceSub, Nat.reduceLeDiff, Nat.reduceEqDiff, Nat.reduceLT, Nat.reduceBEq, ↓reduceIte, Int.reduceLE, Int.reduceLT, Int.reduceToNat, Int.reduceNeg, reduceCtorEq, Int.reduceEq, SF0, SF1, SF2, DDb0, DBc0, DBc1, DCe0, DCe1]
    (refine wk_le ?_ ?_ ?_; (focus (simp [W8, leTm, leAV, AV.under, underL, Work.under]; done)); (focus (simp [leL, OB.under, underL, AV.under, Work.under]; done)); (focus (simp; done)))
  · simp (disch := omega) only [SX0, SX1, SX2, SX3, SX4, SX5, SX6, SX7, SX8, SU0, SY0, SY1, Nat.reduceAdd, Nat.reduceMul, Nat.reduceSub, Nat.reduceLeDiff, Nat.reduceEqDiff, Nat.reduceLT, Nat.reduceBEq, ↓reduceIte, Int.reduceLE, Int.reduceLT, Int.reduceToNat, Int.reduceNeg, reduceCtorEq, Int.reduceEq, SF0, SF1, SF2, DDb0, DBc0, DBc1, DCe0, DCe1]
    refine br_dec (fun h => ?_) (fun h => ?_)
    · obtain ⟨p, hp⟩ := get_lt (l := k.Ps) (i := i) (by omega)
      simp (disch := omega) only [SX0, SX1, SX2, SX3, SX4, SX5, SX6, SX7, SX8, SU0, SY0, SY1, Nat.reduceAdd, Nat.reduceMul, Nat.reduceSub, Nat.reduceLeDiff, Nat.reduceEqDiff, Nat.reduceLT, Nat.reduceBEq, ↓reduceIte, Int.reduceLE, Int.reduceLT, Int.reduceToNat, Int.reduceNeg, reduceCtorEq, Int.reduceEq, SF0, SF1, SF2, DDb0, DBc0, DBc1, DCe0, DCe1, hp]
      refine acall_one (validPaneI_c p) rfl rfl ?_
      simp (disch := omega) only [SX0, SX1, SX2, SX3, SX4, SX5, SX6, SX7, SX8, SU0, SY0, SY1, Nat.reduceAdd, Nat.reduceMul, Nat.reduceSub, Nat.reduceLeDiff, Nat.reduceEqDiff, Nat.reduceLT, Nat.reduceBEq, ↓reduceIte, Int.reduceLE, Int.reduceLT, Int.reduceToNat, Int.reduceNeg, reduceCtorEq, Int.reduceEq, SF0, SF1, SF2, DDb0, DBc0, DBc1, DCe0, DCe1]
      refine br_ndec (fun hk => ?_) (fun hk => ?_)
      · simp (disch := omega) only [SX0, SX1, SX2, SX3, SX4, SX5, SX6, SX7, SX8, SU0, SY0, SY1, Nat.reduceAdd, Nat.reduceMul, Nat.reduceSub, Nat.reduceLeDiff, Nat.reduceEqDiff, Nat.reduceLT, Nat.reduceBEq, ↓reduceIte, Int.reduceLE, Int.reduceLT, Int.reduceToNat, Int.reduceNeg, reduceCtorEq, Int.reduceEq, SF0, SF1, SF2, DDb0, DBc0, DBc1, DCe0, DCe1]
        exact fin_val ⟨vF fun hh => take_not hp hk hh.2.2.1, rfl⟩
      · simp (disch := omega) only [SX0, SX1, SX2, SX3, SX4, SX5, SX6, SX7, SX8, SU0, SY0, SY1, Nat.reduceAdd, Nat.reduceMul, Nat.reduceSub, Nat.reduceLeDiff, Nat.reduceEqDiff, Nat.reduceLT, Nat.reduceBEq, ↓reduceIte, Int.reduceLE, Int.reduceLT, Int.reduceToNat, Int.reduceNeg, reduceCtorEq, Int.reduceEq, SF0, SF1, SF2, DDb0, DBc0, DBc1, DCe0, DCe1]
        refine ⟨i + 1, ⟨by omega, take_next hp hi.2 hk⟩, by omega, ?_⟩
        (refine wk_le ?_ ?_ ?_; (focus (simp [W8, leTm, leAV, AV.under, underL, Work.under]; done)); (focus (simp [leL, OB.under, underL, AV.under, Work.under]; done)); (focus (simp; done)))
    · simp (disch := omega) only [SX0, SX1, SX2, SX3, SX4, SX5, SX6, SX7, SX8, SU0, SY0, SY1, Nat.reduceAdd, Nat.reduceMul, Nat.reduceSub, Nat.reduceLeDiff, Nat.reduceEqDiff, Nat.reduceLT, Nat.reduceBEq, ↓reduceIte, Int.reduceLE, Int.reduceLT, Int.reduceToNat, Int.reduceNeg, reduceCtorEq, Int.reduceEq, SF0, SF1, SF2, DDb0, DBc0, DBc1, DCe0, DCe1]
      refine fin_val ⟨vT ⟨by omega, by omega, take_all (by omega) hi.2, by omega⟩, rfl⟩

end Go.Pc

/- Plans of the program: their size, how they fit, their parts. -/
namespace Go.Pc
open Go Go.Proofs

end Go.Pc

/- Valid plans; the parts of a plan. -/
namespace Go.Pc
open Go Go.Proofs

/-- A part and its box, as a row of cells. -/
def partRow (q : Plan × Box) : List AV := q.1.cs ++ q.2.cs
theorem partRow_len (q : Plan × Box) : (partRow q).length = 9 := by simp [partRow, Plan.len, Box.len]

theorem part_len (p : Plan) (a b c d : AV) : (p.cs ++ [a, b, c, d]).length = 9 := by simp [Plan.len]
theorem part_take (p : Plan) (a b c d : AV) : (p.cs ++ [a, b, c, d]).take 5 = p.cs := by rw [List.take_append_of_le_length (by simp [Plan.len]), Plan.take]
theorem part_drop (p : Plan) (a b c d : AV) : (p.cs ++ [a, b, c, d]).drop 9 = [] := by apply List.drop_eq_nil_of_le; simp [Plan.len]
theorem part_row (p : Plan) (b : Box) : p.cs ++ b.cs = partRow (p, b) := rfl
theorem partRow_one (q : Plan × Box) : (partRow q).all AV.one = true := by simp [partRow, Plan.one, Box.one, -List.all_eq_true]
theorem partRow_pure (q : Plan × Box) : (partRow q).all AV.pure = true := by simp [partRow, Plan.pure, Box.pure, -List.all_eq_true]
theorem partRow_drop (q : Plan × Box) : (partRow q).drop 5 = q.2.cs := by rw [partRow, List.drop_append_of_le_length (by simp [Plan.len]), List.drop_of_length_le (by simp [Plan.len])]; rfl
theorem partRow_take (q : Plan × Box) : (partRow q).take 9 = partRow q := List.take_of_length_le (by rw [partRow_len]; omega)
theorem DCe2 : type_of% @part_len ∧ type_of% @part_take ∧ type_of% @part_drop ∧ type_of% @part_row ∧ type_of% @partRow_len ∧ type_of% @partRow_one ∧ type_of% @partRow_pure ∧ type_of% @partRow_take := ⟨@part_len, @part_take, @part_drop, @part_row, @partRow_len, @partRow_one, @partRow_pure, @partRow_take⟩

end Go.Pc
