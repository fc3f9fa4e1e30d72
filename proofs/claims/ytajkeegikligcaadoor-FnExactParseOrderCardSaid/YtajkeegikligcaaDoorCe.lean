/- Boxes: valid ones, what two have in common, inside; the program's panes and works. -/
import Derived.Test.YtajkeegikligcaaDoorDb
set_option linter.unusedSimpArgs false
set_option linter.unusedVariables false
namespace Go.Pc
open Go Go.Proofs

/-- A box. -/
structure Box where
  X : Int
  Y : Int
  W : Int
  H : Int
  deriving DecidableEq
def Box.cs (b : Box) : List AV := [.val (.int .i64 b.X), .val (.int .i64 b.Y), .val (.int .i64 b.W), .val (.int .i64 b.H)]
theorem Box.len (b : Box) : b.cs.length = 4 := rfl
theorem Box.take (b : Box) : b.cs.take 4 = b.cs := rfl
theorem Box.g0 (b : Box) : b.cs[0]? = some (.val (.int .i64 b.X)) := rfl
theorem Box.g1 (b : Box) : b.cs[1]? = some (.val (.int .i64 b.Y)) := rfl
theorem Box.g2 (b : Box) : b.cs[2]? = some (.val (.int .i64 b.W)) := rfl
theorem Box.g3 (b : Box) : b.cs[3]? = some (.val (.int .i64 b.H)) := rfl
theorem Box.one (b : Box) : b.cs.all AV.one = true := rfl
theorem Box.pure (b : Box) : b.cs.all AV.pure = true := rfl
theorem Box.free (b : Box) : freeL b.cs = true := rfl

theorem Box.filtd (f : Nat → Bool) (p : Box) : filtL f p.cs = p.cs := (free_filt_aux f).2 _ p.free
theorem Box.rend (f : Nat → Nat) (p : Box) : renL f p.cs = p.cs := freeL_rend f p.free
theorem DCe0 : type_of% @Box.rend ∧ type_of% @Box.filtd ∧ type_of% @Box.len ∧ type_of% @Box.take ∧ type_of% @Box.g0 ∧ type_of% @Box.g1 ∧ type_of% @Box.g2 ∧ type_of% @Box.g3 ∧ type_of% @Box.one ∧ type_of% @Box.pure := ⟨@Box.rend, @Box.filtd, @Box.len, @Box.take, @Box.g0, @Box.g1, @Box.g2, @Box.g3, @Box.one, @Box.pure⟩
theorem Box.eq (a b : Box) : eqA [SK.int, SK.int, SK.int, SK.int] a.cs b.cs = some (decide (a = b)) := by
  obtain ⟨x, y, w, h⟩ := a
  obtain ⟨x', y', w', h'⟩ := b
  simp [Box.cs, eqA, Box.mk.injEq, Bool.decide_and]
theorem DCe1 : type_of% @Box.eq := @Box.eq
def Box.ok (b : Box) : Prop := (1 ≤ b.W ∧ b.W ≤ 200) ∧ (1 ≤ b.H ∧ b.H ≤ 200) ∧ (0 ≤ b.X ∧ b.X + b.W ≤ 200) ∧ (0 ≤ b.Y ∧ b.Y + b.H ≤ 200)
instance (b : Box) : Decidable b.ok := inferInstanceAs (Decidable (_ ∧ _))

def Box.zero : Box := ⟨0, 0, 0, 0⟩
end Go.Pc

/- Plans cut glass: the parts of a plan with their boxes, its cuts. -/
namespace Go.Pc
open Go Go.Proofs

/-- The boxes of both kids. -/
def Plan.split (p : Plan) (b : Box) : Box × Box :=
  if p.op = 2 then (⟨b.X, b.Y, p.at_, b.H⟩, ⟨b.X + p.at_, b.Y, b.W - p.at_, b.H⟩) else (⟨b.X, b.Y, b.W, p.at_⟩, ⟨b.X, b.Y + p.at_, b.W, b.H - p.at_⟩)

end Go.Pc

/- Works and plans of the program, and of the reference: valid ones. -/
namespace Go.Pc
open Go Go.Proofs

def Work.ok (k : Work) : Prop := (1 ≤ k.W ∧ k.W ≤ 200) ∧ (1 ≤ k.H ∧ k.H ≤ 200) ∧ (∀ p ∈ k.Ps, p.ok) ∧ k.Ps.length ≤ 24
theorem Work.under (k : Work) (m : Nat) : underL m k.cs = true := rfl
instance (k : Work) : Decidable k.ok := inferInstanceAs (Decidable (_ ∧ _))

theorem e_validPaneI : Enters Tryd.prog 50 := enters_of Tryd.func50 (by kernel_rfl) (by kernel_rfl)
theorem validPaneI_c (p : Pane) : ACalls Tryd.prog 50 [.agg p.cs] [] [] (fun r L => r = .val (.bool (decide p.ok)) ∧ L = []) := by
  refine acalls_tm T_tt Tryd.func50 rfl e_validPaneI 30 rfl (W8 _ .any .any .any .any .any .any .any (W8 .any .any .any .any .any .any .any .any (W8 .any .any .any .any .any .any .any .any [.any, .any, .any, .any, .any, .any, .any]))) rfl (rv := [.tmp 2]) rfl (sx_sound (bl := []) T_tt _ _ _ ?_)
  repeat' first | with_reducible refine fin_val ⟨?_, rfl⟩ | with_reducible refine br_dec (fun hb => ?_) (fun hb => ?_) | with_reducible refine br_ndec (fun hb => ?_) (fun hb => ?_) | with_reducible refine br_bool (fun hb => ?_) (fun hb => ?_) | with_reducible refine pk_dec (fun hb => ?_) (fun hb => ?_) | with_reducible refine pk_ndec (fun hb => ?_) (fun hb => ?_) | with_reducible refine awp_drawA T_tt mixed (by decide +kernel) (by kernel_rfl) (by kernel_rfl) ?_ | simp (disch := omega) only [SX0, SX1, SX2, SX3, SX4, SX5, SX6, SX7, SX8, SU0, SY0, SY1, Nat.reduceAdd, Nat.reduceMul, Nat.reduceSub, Nat.reduceLeDiff, Nat.reduceEqDiff, Nat.reduceLT, Nat.reduceBEq, ↓reduceIte, Int.reduceLE, Int.reduceLT, Int.reduceToNat, Int.reduceNeg, reduceCtorEq, Int.reduceEq, SF0, SF1, SF2, DDb0, DBc0, DBc1, DCe0, DCe1]
  all_goals first | exact vF (by simp only [Pane.ok] at *; omega) | exact vT (by simp only [Pane.ok] at *; omega) | exact vb (by simp only [Pane.ok] at *; omega)

end Go.Pc

/- Plans of the program: their size, how they fit, their parts. -/
namespace Go.Pc
open Go Go.Proofs

end Go.Pc

/- Valid plans; the parts of a plan. -/
namespace Go.Pc
open Go Go.Proofs

/-- A part and its box, as a row of cells. -/
def partRow (q : Plan × Box) : List AV := q.1.cs ++ q.2.cs
theorem partRow_len (q : Plan × Box) : (partRow q).length = 9 := by simp [partRow, Plan.len, Box.len]

theorem part_len (p : Plan) (a b c d : AV) : (p.cs ++ [a, b, c, d]).length = 9 := by simp [Plan.len]
theorem part_take (p : Plan) (a b c d : AV) : (p.cs ++ [a, b, c, d]).take 5 = p.cs := by rw [List.take_append_of_le_length (by simp [Plan.len]), Plan.take]
theorem part_drop (p : Plan) (a b c d : AV) : (p.cs ++ [a, b, c, d]).drop 9 = [] := by apply List.drop_eq_nil_of_le; simp [Plan.len]
theorem part_row (p : Plan) (b : Box) : p.cs ++ b.cs = partRow (p, b) := rfl
theorem partRow_one (q : Plan × Box) : (partRow q).all AV.one = true := by simp [partRow, Plan.one, Box.one, -List.all_eq_true]
theorem partRow_pure (q : Plan × Box) : (partRow q).all AV.pure = true := by simp [partRow, Plan.pure, Box.pure, -List.all_eq_true]
theorem partRow_take (q : Plan × Box) : (partRow q).take 9 = partRow q := List.take_of_length_le (by rw [partRow_len]; omega)
theorem DCe2 : type_of% @part_len ∧ type_of% @part_take ∧ type_of% @part_drop ∧ type_of% @part_row ∧ type_of% @partRow_len ∧ type_of% @partRow_one ∧ type_of% @partRow_pure ∧ type_of% @partRow_take := ⟨@part_len, @part_take, @part_drop, @part_row, @partRow_len, @partRow_one, @partRow_pure, @partRow_take⟩

end Go.Pc
