/- Boxes: valid ones, what two have in common, inside; the program's panes and works. -/
import Derived.Test.YtajkeegikligcaaDoorDb
set_option linter.unusedSimpArgs false
set_option linter.unusedVariables false
namespace Go.Pc
open Go Go.Proofs

/-- A box. -/
structure Box where
  X : Int
  Y : Int
  W : Int
  H : Int
  deriving DecidableEq
def Box.cs (b : Box) : List AV := [.val (.int .i64 b.X), .val (.int .i64 b.Y), .val (.int .i64 b.W), .val (.int .i64 b.H)]
theorem Box.len (b : Box) : b.cs.length = 4 := rfl
theorem Box.take (b : Box) : b.cs.take 4 = b.cs := rfl
theorem Box.g0 (b : Box) : b.cs[0]? = some (.val (.int .i64 b.X)) := rfl
theorem Box.g1 (b : Box) : b.cs[1]? = some (.val (.int .i64 b.Y)) := rfl
theorem Box.g2 (b : Box) : b.cs[2]? = some (.val (.int .i64 b.W)) := rfl
theorem Box.g3 (b : Box) : b.cs[3]? = some (.val (.int .i64 b.H)) := rfl
theorem Box.one (b : Box) : b.cs.all AV.one = true := rfl
theorem Box.pure (b : Box) : b.cs.all AV.pure = true := rfl
theorem Box.free (b : Box) : freeL b.cs = true := rfl

theorem Box.filtd (f : Nat → Bool) (p : Box) : filtL f p.cs = p.cs := (free_filt_aux f).2 _ p.free
theorem Box.rend (f : Nat → Nat) (p : Box) : renL f p.cs = p.cs := freeL_rend f p.free
theorem DCe0 : type_of% @Box.rend ∧ type_of% @Box.filtd ∧ type_of% @Box.len ∧ type_of% @Box.take ∧ type_of% @Box.g0 ∧ type_of% @Box.g1 ∧ type_of% @Box.g2 ∧ type_of% @Box.g3 ∧ type_of% @Box.one ∧ type_of% @Box.pure := ⟨@Box.rend, @Box.filtd, @Box.len, @Box.take, @Box.g0, @Box.g1, @Box.g2, @Box.g3, @Box.one, @Box.pure⟩
theorem Box.eq (a b : Box) : eqA [SK.int, SK.int, SK.int, SK.int] a.cs b.cs = some (decide (a = b)) := by
  obtain ⟨x, y, w, h⟩ := a
  obtain ⟨x', y', w', h'⟩ := b
  simp [Box.cs, eqA, Box.mk.injEq, Bool.decide_and]
theorem DCe1 : type_of% @Box.eq := @Box.eq
def Box.ok (b : Box) : Prop := (1 ≤ b.W ∧ b.W ≤ 200) ∧ (1 ≤ b.H ∧ b.H ≤ 200) ∧ (0 ≤ b.X ∧ b.X + b.W ≤ 200) ∧ (0 ≤ b.Y ∧ b.Y + b.H ≤ 200)
instance (b : Box) : Decidable b.ok := inferInstanceAs (Decidable (_ ∧ _))

def Box.zero : Box := ⟨0, 0, 0, 0⟩
end Go.Pc

/- Plans cut glass: the parts of a plan with their boxes, its cuts. -/
namespace Go.Pc
open Go Go.Proofs

/-- The boxes of both kids. -/
def Plan.split (p : Plan) (b : Box) : Box × Box :=
  if p.op = 2 then (⟨b.X, b.Y, p.at_, b.H⟩, ⟨b.X + p.at_, b.Y, b.W - p.at_, b.H⟩) else (⟨b.X, b.Y, b.W, p.at_⟩, ⟨b.X, b.Y + p.at_, b.W, b.H - p.at_⟩)

theorem Plan.nodes_two {p x y : Plan} (hk : p.ks = [x, y]) : p.nodes = 1 + x.nodes + y.nodes := by
  rw [Plan.nodes_eq, hk]; simp [Plan.nodesL]; omega
theorem Plan.nodes_leaf {p : Plan} (hw : p.wf = true) (hc : ¬ p.cut) : p.nodes = 1 := by
  have h := ((Plan.wf_iff p).1 hw).1
  unfold Plan.good at h
  rw [if_neg hc] at h
  rw [Plan.nodes_eq, List.length_eq_zero_iff.1 h.1]; rfl

end Go.Pc

/- Works and plans of the program, and of the reference: valid ones. -/
namespace Go.Pc
open Go Go.Proofs

def Work.ok (k : Work) : Prop := (1 ≤ k.W ∧ k.W ≤ 200) ∧ (1 ≤ k.H ∧ k.H ≤ 200) ∧ (∀ p ∈ k.Ps, p.ok) ∧ k.Ps.length ≤ 24
theorem Work.under (k : Work) (m : Nat) : underL m k.cs = true := rfl
instance (k : Work) : Decidable k.ok := inferInstanceAs (Decidable (_ ∧ _))

end Go.Pc

/- Plans of the program: their size, how they fit, their parts. -/
namespace Go.Pc
open Go Go.Proofs

/-- The number of parts, if there is room for it. -/
def Plan.cnt (p : Plan) (room : Int) : Int := if p.wf = true ∧ (p.nodes : Int) ≤ room then p.nodes else -1
theorem Plan.cnt_bad {p : Plan} {room : Int} (h : ¬ p.good) : p.cnt room = -1 := by
  unfold Plan.cnt
  rw [if_neg]
  exact fun hh => h ((Plan.wf_iff p).1 hh.1).1
theorem Plan.cnt_small {p : Plan} {room : Int} (h : room < 1) : p.cnt room = -1 := by
  unfold Plan.cnt
  have := p.nodes_pos
  rw [if_neg (by omega)]
theorem Plan.cnt_leaf {p : Plan} {room : Int} (h : p.good) (hc : ¬ p.cut) (hr : 1 ≤ room) : p.cnt room = 1 := by
  have hk : p.ks = [] := by
    unfold Plan.good at h
    rw [if_neg hc] at h
    exact List.length_eq_zero_iff.1 h.1
  have hw : p.wf = true := (Plan.wf_iff p).2 ⟨h, by rw [hk]; simp⟩
  unfold Plan.cnt
  rw [Plan.nodes_leaf hw hc, if_pos ⟨hw, by omega⟩]; rfl
theorem Plan.cnt_le (p : Plan) (room : Int) : -1 ≤ p.cnt room ∧ (p.cnt room ≤ room ∨ p.cnt room = -1) := by
  unfold Plan.cnt; split <;> omega
theorem Plan.cnt_first {p a b : Plan} {room : Int} (hk : p.ks = [a, b]) (h : a.cnt (room - 1) < 0) : p.cnt room = -1 := by
  unfold Plan.cnt at *
  rw [if_neg]
  intro hh
  have := Plan.nodes_two hk
  have h2 : a.wf = true := ((Plan.wf_iff p).1 hh.1).2 a (by simp [hk])
  rw [if_pos ⟨h2, by omega⟩] at h
  omega
theorem Plan.cnt_second {p a b : Plan} {room : Int} (hk : p.ks = [a, b]) (h1 : ¬ a.cnt (room - 1) < 0) (h : b.cnt (room - 1 - a.cnt (room - 1)) < 0) : p.cnt room = -1 := by
  have ha : a.cnt (room - 1) = a.nodes := by
    unfold Plan.cnt at *
    split at h1
    · rename_i hh; rw [if_pos hh]
    · omega
  rw [ha] at h
  unfold Plan.cnt at h ⊢
  rw [if_neg]
  intro hh
  have := Plan.nodes_two hk
  have h2 : b.wf = true := ((Plan.wf_iff p).1 hh.1).2 b (by simp [hk])
  rw [if_pos ⟨h2, by omega⟩] at h
  omega
theorem Plan.cnt_both {p a b : Plan} {room : Int} (hg : p.good) (hk : p.ks = [a, b]) (h1 : ¬ a.cnt (room - 1) < 0) (h : ¬ b.cnt (room - 1 - a.cnt (room - 1)) < 0) : p.cnt room = 1 + a.cnt (room - 1) + b.cnt (room - 1 - a.cnt (room - 1)) := by
  unfold Plan.cnt at *
  by_cases ha : a.wf = true ∧ (a.nodes : Int) ≤ room - 1
  · rw [if_pos ha] at *
    by_cases hb : b.wf = true ∧ (b.nodes : Int) ≤ room - 1 - a.nodes
    · rw [if_pos hb] at *
      have := Plan.nodes_two hk
      rw [if_pos ⟨(Plan.wf_iff p).2 ⟨hg, by rw [hk]; simp [ha.1, hb.1]⟩, by omega⟩]
      omega
    · rw [if_neg hb] at h; omega
  · rw [if_neg ha] at h1; omega

theorem e_countParts : Enters Tryd.prog 45 := enters_of Tryd.func45 (by kernel_rfl) (by kernel_rfl)
set_option maxHeartbeats 4000000 in
theorem countParts_n : ∀ (n : Nat) (p : Plan) (room : Int), p.nodes ≤ n → (-1000 ≤ room ∧ room ≤ 1000) →
    ACalls Tryd.prog 45 [.agg p.cs, .val (.int .i64 room)] [] [] (fun r L => r = .val (.int .i64 (p.cnt room)) ∧ L = []) := by
  intro n
  induction n with
  | zero => intro p room h; have := p.nodes_pos; omega
  | succ n ih =>
  intro p room hn hr
  refine acalls_tm T_tt Tryd.func45 rfl e_countParts 80 rfl (W8 _ _ .any .any .any .any .any .any (W8 .any .any .any .any .any .any .any .any (W8 .any .any .any .any .any .any .any .any (W8 .any .any .any .any .any .any .any .any (W8 .any .any .any .any .any .any .any .any (W8 .any .any .any .any .any .any .any .any (W8 .any .any .any .any .any .any .any .any (W8 .any .any .any .any .any .any .any .any (W8 .any .any .any .any .any .any .any .any (W8 .any .any .any .any .any .any .any .any [.any, .any])))))))))) rfl (rv := [.tmp 4]) rfl (sx_sound (bl := []) T_tt _ _ _ ?_)
  simp (disch := omega) only [SX0, SX1, SX2, SX3, SX4, SX5, SX6, SX7, SX8, SU0, SY0, SY1, Nat.reduceAdd, Nat.reduceMul, Nat.reduceSub, Nat.reduceLeDiff, Nat.reduceEqDiff, Nat.reduceLT, Nat.reduceBEq, ↓reduceIte, Int.reduceLE, Int.reduceLT, Int.reduceToNat, Int.reduceNeg, reduceCtorEq, Int.reduceEq, SF0, SF1, SF2, DDb0, DBc0, DBc1, DCe0, DCe1]
  refine br_dec (fun h => ?_) (fun h => ?_)
  · simp (disch := omega) only [SX0, SX1, SX2, SX3, SX4, SX5, SX6, SX7, SX8, SU0, SY0, SY1, Nat.reduceAdd, Nat.reduceMul, Nat.reduceSub, Nat.reduceLeDiff, Nat.reduceEqDiff, Nat.reduceLT, Nat.reduceBEq, ↓reduceIte, Int.reduceLE, Int.reduceLT, Int.reduceToNat, Int.reduceNeg, reduceCtorEq, Int.reduceEq, SF0, SF1, SF2, DDb0, DBc0, DBc1, DCe0, DCe1]
    exact fin_val ⟨by rw [Plan.cnt_small h], rfl⟩
  · repeat' first | with_reducible refine fin_val ⟨?_, rfl⟩ | with_reducible refine br_dec (fun hb => ?_) (fun hb => ?_) | with_reducible refine br_ndec (fun hb => ?_) (fun hb => ?_) | with_reducible refine br_bool (fun hb => ?_) (fun hb => ?_) | with_reducible refine pk_dec (fun hb => ?_) (fun hb => ?_) | with_reducible refine pk_ndec (fun hb => ?_) (fun hb => ?_) | with_reducible refine awp_drawA T_tt mixed (by decide +kernel) (by kernel_rfl) (by kernel_rfl) ?_ | simp (disch := omega) only [SX0, SX1, SX2, SX3, SX4, SX5, SX6, SX7, SX8, SU0, SY0, SY1, Nat.reduceAdd, Nat.reduceMul, Nat.reduceSub, Nat.reduceLeDiff, Nat.reduceEqDiff, Nat.reduceLT, Nat.reduceBEq, ↓reduceIte, Int.reduceLE, Int.reduceLT, Int.reduceToNat, Int.reduceNeg, reduceCtorEq, Int.reduceEq, SF0, SF1, SF2, DDb0, DBc0, DBc1, DCe0, DCe1]
    all_goals first
      | (rw [Plan.cnt_leaf (room := room)] <;> first | omega | (simp_all [Plan.good, Plan.cut]; done))
      | (rw [Plan.cnt_bad]; first | (simp_all [Plan.good, Plan.cut]; done) | (simp_all [Plan.good, Plan.cut]; omega))
      | (have hg : p.good := by simp_all [Plan.good, Plan.cut]; omega
         have hc : p.cut := by simp_all [Plan.cut]
         obtain ⟨a, b, hk⟩ : ∃ a b, p.ks = [a, b] := by
           have : p.ks.length = 2 := by omega
           match hk : p.ks, this with
           | [a, b], _ => exact ⟨a, b, rfl⟩
         have hna : a.nodes < p.nodes := Plan.nodes_kid (by simp [hk])
         have hnb : b.nodes < p.nodes := Plan.nodes_kid (by simp [hk])
         have ha := a.cnt_le (room - 1)
         simp (disch := omega) only [SX0, SX1, SX2, SX3, SX4, SX5, SX6, SX7, SX8, SU0, SY0, SY1, Nat.reduceAdd, Nat.reduceMul, Nat.reduceSub, Nat.reduceLeDiff, Nat.reduceEqDiff, Nat.reduceLT, Nat.reduceBEq, ↓reduceIte, Int.reduceLE, Int.reduceLT, Int.reduceToNat, Int.reduceNeg, reduceCtorEq, Int.reduceEq, SF0, SF1, SF2, DDb0, DBc0, DBc1, DCe0, DCe1, hk]
         refine acall_one (ih a (room - 1) (by omega) (by omega)) (by simp [freeL, AV.free, Plan.free]) rfl ?_
         simp (disch := omega) only [SX0, SX1, SX2, SX3, SX4, SX5, SX6, SX7, SX8, SU0, SY0, SY1, Nat.reduceAdd, Nat.reduceMul, Nat.reduceSub, Nat.reduceLeDiff, Nat.reduceEqDiff, Nat.reduceLT, Nat.reduceBEq, ↓reduceIte, Int.reduceLE, Int.reduceLT, Int.reduceToNat, Int.reduceNeg, reduceCtorEq, Int.reduceEq, SF0, SF1, SF2, DDb0, DBc0, DBc1, DCe0, DCe1]
         refine br_dec (fun h1 => ?_) (fun h1 => ?_)
         · simp (disch := omega) only [SX0, SX1, SX2, SX3, SX4, SX5, SX6, SX7, SX8, SU0, SY0, SY1, Nat.reduceAdd, Nat.reduceMul, Nat.reduceSub, Nat.reduceLeDiff, Nat.reduceEqDiff, Nat.reduceLT, Nat.reduceBEq, ↓reduceIte, Int.reduceLE, Int.reduceLT, Int.reduceToNat, Int.reduceNeg, reduceCtorEq, Int.reduceEq, SF0, SF1, SF2, DDb0, DBc0, DBc1, DCe0, DCe1]
           exact fin_val ⟨by rw [Plan.cnt_first hk h1], rfl⟩
         · simp (disch := omega) only [SX0, SX1, SX2, SX3, SX4, SX5, SX6, SX7, SX8, SU0, SY0, SY1, Nat.reduceAdd, Nat.reduceMul, Nat.reduceSub, Nat.reduceLeDiff, Nat.reduceEqDiff, Nat.reduceLT, Nat.reduceBEq, ↓reduceIte, Int.reduceLE, Int.reduceLT, Int.reduceToNat, Int.reduceNeg, reduceCtorEq, Int.reduceEq, SF0, SF1, SF2, DDb0, DBc0, DBc1, DCe0, DCe1, hk]
           have hb := b.cnt_le (room - 1 - a.cnt (room - 1))
           refine acall_one (ih b (room - 1 - a.cnt (room - 1)) (by omega) (by omega)) (by simp [freeL, AV.free, Plan.free]) rfl ?_
           simp (disch := omega) only [SX0, SX1, SX2, SX3, SX4, SX5, SX6, SX7, SX8, SU0, SY0, SY1, Nat.reduceAdd, Nat.reduceMul, Nat.reduceSub, Nat.reduceLeDiff, Nat.reduceEqDiff, Nat.reduceLT, Nat.reduceBEq, ↓reduceIte, Int.reduceLE, Int.reduceLT, Int.reduceToNat, Int.reduceNeg, reduceCtorEq, Int.reduceEq, SF0, SF1, SF2, DDb0, DBc0, DBc1, DCe0, DCe1]
           refine br_dec (fun h2 => ?_) (fun h2 => ?_)
           · simp (disch := omega) only [SX0, SX1, SX2, SX3, SX4, SX5, SX6, SX7, SX8, SU0, SY0, SY1, Nat.reduceAdd, Nat.reduceMul, Nat.reduceSub, Nat.reduceLeDiff, Nat.reduceEqDiff, Nat.reduceLT, Nat.reduceBEq, ↓reduceIte, Int.reduceLE, Int.reduceLT, Int.reduceToNat, Int.reduceNeg, reduceCtorEq, Int.reduceEq, SF0, SF1, SF2, DDb0, DBc0, DBc1, DCe0, DCe1]
             exact fin_val ⟨by rw [Plan.cnt_second hk h1 h2], rfl⟩
           · simp (disch := omega) only [SX0, SX1, SX2, SX3, SX4, SX5, SX6, SX7, SX8, SU0, SY0, SY1, Nat.reduceAdd, Nat.reduceMul, Nat.reduceSub, Nat.reduceLeDiff, Nat.reduceEqDiff, Nat.reduceLT, Nat.reduceBEq, ↓reduceIte, Int.reduceLE, Int.reduceLT, Int.reduceToNat, Int.reduceNeg, reduceCtorEq, Int.reduceEq, SF0, SF1, SF2, DDb0, DBc0, DBc1, DCe0, DCe1]
             exact fin_val ⟨by rw [Plan.cnt_both hg hk h1 h2], rfl⟩)

theorem Plan.cnt_size (p : Plan) : p.cnt 255 = p.size := by
  unfold Plan.cnt Plan.size
  by_cases h : p.wf = true ∧ p.nodes ≤ 255
  · rw [if_pos h, if_pos ⟨h.1, by omega⟩]
  · rw [if_neg h, if_neg (fun hh => h ⟨hh.1, by omega⟩)]

theorem e_planSizeI : Enters Tryd.prog 25 := enters_of Tryd.func25 (by kernel_rfl) (by kernel_rfl)
theorem planSizeI_c (p : Plan) : ACalls Tryd.prog 25 [.agg p.cs] [] [] (fun r L => r = .val (.int .i64 p.size) ∧ L = []) := by
  refine acalls_tm T_tt Tryd.func25 rfl e_planSizeI 4 rfl [_, .any, .any, .any, .any] rfl (rv := [.tmp 2]) rfl (sx_sound (bl := []) T_tt _ _ _ ?_)
  simp (disch := omega) only [SX0, SX1, SX2, SX3, SX4, SX5, SX6, SX7, SX8, SU0, SY0, SY1, Nat.reduceAdd, Nat.reduceMul, Nat.reduceSub, Nat.reduceLeDiff, Nat.reduceEqDiff, Nat.reduceLT, Nat.reduceBEq, ↓reduceIte, Int.reduceLE, Int.reduceLT, Int.reduceToNat, Int.reduceNeg, reduceCtorEq, Int.reduceEq, SF0, SF1, SF2, DDb0, DBc0, DBc1, DCe0, DCe1]
  refine acall_one (countParts_n _ p 255 (Nat.le_refl _) (by omega)) (by simp [freeL, AV.free, Plan.free]) rfl ?_
  simp (disch := omega) only [SX0, SX1, SX2, SX3, SX4, SX5, SX6, SX7, SX8, SU0, SY0, SY1, Nat.reduceAdd, Nat.reduceMul, Nat.reduceSub, Nat.reduceLeDiff, Nat.reduceEqDiff, Nat.reduceLT, Nat.reduceBEq, ↓reduceIte, Int.reduceLE, Int.reduceLT, Int.reduceToNat, Int.reduceNeg, reduceCtorEq, Int.reduceEq, SF0, SF1, SF2, DDb0, DBc0, DBc1, DCe0, DCe1]
  exact fin_val ⟨by rw [Plan.cnt_size], rfl⟩

end Go.Pc

/- Valid plans; the parts of a plan. -/
namespace Go.Pc
open Go Go.Proofs

/-- A part and its box, as a row of cells. -/
def partRow (q : Plan × Box) : List AV := q.1.cs ++ q.2.cs
theorem partRow_len (q : Plan × Box) : (partRow q).length = 9 := by simp [partRow, Plan.len, Box.len]

theorem part_len (p : Plan) (a b c d : AV) : (p.cs ++ [a, b, c, d]).length = 9 := by simp [Plan.len]
theorem part_take (p : Plan) (a b c d : AV) : (p.cs ++ [a, b, c, d]).take 5 = p.cs := by rw [List.take_append_of_le_length (by simp [Plan.len]), Plan.take]
theorem part_drop (p : Plan) (a b c d : AV) : (p.cs ++ [a, b, c, d]).drop 9 = [] := by apply List.drop_eq_nil_of_le; simp [Plan.len]
theorem part_row (p : Plan) (b : Box) : p.cs ++ b.cs = partRow (p, b) := rfl
theorem partRow_one (q : Plan × Box) : (partRow q).all AV.one = true := by simp [partRow, Plan.one, Box.one, -List.all_eq_true]
theorem partRow_pure (q : Plan × Box) : (partRow q).all AV.pure = true := by simp [partRow, Plan.pure, Box.pure, -List.all_eq_true]
theorem partRow_take (q : Plan × Box) : (partRow q).take 9 = partRow q := List.take_of_length_le (by rw [partRow_len]; omega)
theorem DCe2 : type_of% @part_len ∧ type_of% @part_take ∧ type_of% @part_drop ∧ type_of% @part_row ∧ type_of% @partRow_len ∧ type_of% @partRow_one ∧ type_of% @partRow_pure ∧ type_of% @partRow_take := ⟨@part_len, @part_take, @part_drop, @part_row, @partRow_len, @partRow_one, @partRow_pure, @partRow_take⟩

end Go.Pc
