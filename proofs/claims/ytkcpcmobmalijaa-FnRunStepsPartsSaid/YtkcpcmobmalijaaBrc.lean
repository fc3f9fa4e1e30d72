/- Steps made by the program: the boxes on the table. -/
import Derived.Test.YtkcpcmobmalijaaBra
import Derived.Test.YtkcpcmobmalijaaBrb
import Derived.Test.YtkcpcmobmalijaaSc
set_option linter.unusedSimpArgs false
set_option linter.unusedVariables false
namespace Go.Pc
open Go Go.Proofs

theorem rbUnder (b : Box) (m : Nat) : underL m b.cs = true := rfl
theorem partRow_plan (q : Plan × Box) : (partRow q).take 5 = q.1.cs := by rw [partRow, List.take_append_of_le_length (by simp [Plan.len]), Plan.take]
/-- Where a box lies in a row. -/
def boxI (l : List Box) (b : Box) : Int := ixOf (fun c : Box => decide (c = b)) l

theorem e_indexB : Enters Try.prog 110 := enters_of Try.func110 (by kernel_rfl) (by kernel_rfl)
theorem indexB_c (l : List Box) (b : Box) (hl : l.length < 2 ^ 40) : ACalls Try.prog 110 [.sl (l.map Box.cs), .agg b.cs] [] [] (fun r L => r = .val (.int .i64 (boxI l b)) ∧ L = []) := by
  refine acalls_tm T_tt Try.func110 rfl e_indexB 17 rfl (W8 _ _ .any .any .any .any .any .any (W8 .any .any .any .any .any .any .any .any [.any, .any, .any])) rfl (rv := [.tmp 4]) rfl (sx_sound (bl := []) T_tt _ _ _ ?_)
  simp (disch := omega) only [SX0, SX1, SX2, SX3, SX4, SX5, SX6, SX7, SX8, SU0, SY0, SY1, Nat.reduceAdd, Nat.reduceMul, Nat.reduceSub, Nat.reduceLeDiff, Nat.reduceEqDiff, Nat.reduceLT, Nat.reduceBEq, ↓reduceIte, Int.reduceLE, Int.reduceLT, Int.reduceToNat, Int.reduceNeg, reduceCtorEq, Int.reduceEq, SF0, SF1, SF2, DCe0, DCe1, DCe2, DDb0, DBc0, DBc1, DHa0, DCg0, DHb0, DHb1]
  with_reducible refine awp_loop_h 5 14 (fun (i : Nat) => [(6, .sl (l.map Box.cs)), (7, .val (.int .i64 l.length)), (8, .val (.int .i64 i))]) (fun _ => [.cells b.cs]) (fun i => i ≤ l.length ∧ ∀ x ∈ l.take i, decide (x = b) = false) (fun i => l.length - i) 0 ⟨Nat.zero_le _, by simp⟩ ?_ (fun i hi => sx_sound (bl := []) T_tt _ _ _ ?_)
  · simp (disch := omega) only [SX0, SX1, SX2, SX3, SX4, SX5, SX6, SX7, SX8, SU0, SY0, SY1, Nat.reduceAdd, Nat.reduceMul, Nat.reduceSub, Nat.reduceLeDiff, Nat.reduceEqDiff, Nat.reduceLT, Nat.reduceBEq, ↓reduceIte, Int.reduceLE, Int.reduceLT, Int.reduceToNat, Int.reduceNeg, reduceCtorEq, Int.reduceEq, SF0, SF1, SF2, DCe0, DCe1, DCe2, DDb0, DBc0, DBc1, DHa0, DCg0, DHb0, DHb1]
    (refine wk_le ?_ ?_ ?_; (focus (simp [W8, leTm, leAV, AV.under, underL, rbUnder]; done)); (focus (simp [leL, OB.under, underL, AV.under, rbUnder]; done)); (focus (simp; done)))
  simp (disch := omega) only [SX0, SX1, SX2, SX3, SX4, SX5, SX6, SX7, SX8, SU0, SY0, SY1, Nat.reduceAdd, Nat.reduceMul, Nat.reduceSub, Nat.reduceLeDiff, Nat.reduceEqDiff, Nat.reduceLT, Nat.reduceBEq, ↓reduceIte, Int.reduceLE, Int.reduceLT, Int.reduceToNat, Int.reduceNeg, reduceCtorEq, Int.reduceEq, SF0, SF1, SF2, DCe0, DCe1, DCe2, DDb0, DBc0, DBc1, DHa0, DCg0, DHb0, DHb1]
  refine br_dec (fun h1 => ?_) (fun h1 => ?_)
  · obtain ⟨x, hx⟩ := get_lt (l := l) (i := i) (by omega)
    simp (disch := omega) only [SX0, SX1, SX2, SX3, SX4, SX5, SX6, SX7, SX8, SU0, SY0, SY1, Nat.reduceAdd, Nat.reduceMul, Nat.reduceSub, Nat.reduceLeDiff, Nat.reduceEqDiff, Nat.reduceLT, Nat.reduceBEq, ↓reduceIte, Int.reduceLE, Int.reduceLT, Int.reduceToNat, Int.reduceNeg, reduceCtorEq, Int.reduceEq, SF0, SF1, SF2, DCe0, DCe1, DCe2, DDb0, DBc0, DBc1, DHa0, DCg0, DHb0, DHb1]
    refine awp_drawA T_tt mixed (by decide +kernel) (by kernel_rfl) (by kernel_rfl) ?_
    simp (disch := omega) only [SX0, SX1, SX2, SX3, SX4, SX5, SX6, SX7, SX8, SU0, SY0, SY1, Nat.reduceAdd, Nat.reduceMul, Nat.reduceSub, Nat.reduceLeDiff, Nat.reduceEqDiff, Nat.reduceLT, Nat.reduceBEq, ↓reduceIte, Int.reduceLE, Int.reduceLT, Int.reduceToNat, Int.reduceNeg, reduceCtorEq, Int.reduceEq, SF0, SF1, SF2, DCe0, DCe1, DCe2, DDb0, DBc0, DBc1, DHa0, DCg0, DHb0, DHb1, hx]
    refine br_dec (fun h2 => ?_) (fun h2 => ?_)
    · simp (disch := omega) only [SX0, SX1, SX2, SX3, SX4, SX5, SX6, SX7, SX8, SU0, SY0, SY1, Nat.reduceAdd, Nat.reduceMul, Nat.reduceSub, Nat.reduceLeDiff, Nat.reduceEqDiff, Nat.reduceLT, Nat.reduceBEq, ↓reduceIte, Int.reduceLE, Int.reduceLT, Int.reduceToNat, Int.reduceNeg, reduceCtorEq, Int.reduceEq, SF0, SF1, SF2, DCe0, DCe1, DCe2, DDb0, DBc0, DBc1, DHa0, DCg0, DHb0, DHb1]
      exact fin_val ⟨by rw [boxI, ixOf_at hx hi.2 (by simp [h2])], rfl⟩
    · simp (disch := omega) only [SX0, SX1, SX2, SX3, SX4, SX5, SX6, SX7, SX8, SU0, SY0, SY1, Nat.reduceAdd, Nat.reduceMul, Nat.reduceSub, Nat.reduceLeDiff, Nat.reduceEqDiff, Nat.reduceLT, Nat.reduceBEq, ↓reduceIte, Int.reduceLE, Int.reduceLT, Int.reduceToNat, Int.reduceNeg, reduceCtorEq, Int.reduceEq, SF0, SF1, SF2, DCe0, DCe1, DCe2, DDb0, DBc0, DBc1, DHa0, DCg0, DHb0, DHb1]
      refine ⟨i + 1, ⟨by omega, take_next hx hi.2 (by simpa [eq_comm] using h2)⟩, by omega, ?_⟩
      (refine wk_le ?_ ?_ ?_; (focus (simp [W8, leTm, leAV, AV.under, underL, rbUnder]; done)); (focus (simp [leL, OB.under, underL, AV.under, rbUnder]; done)); (focus (simp; done)))
  · simp (disch := omega) only [SX0, SX1, SX2, SX3, SX4, SX5, SX6, SX7, SX8, SU0, SY0, SY1, Nat.reduceAdd, Nat.reduceMul, Nat.reduceSub, Nat.reduceLeDiff, Nat.reduceEqDiff, Nat.reduceLT, Nat.reduceBEq, ↓reduceIte, Int.reduceLE, Int.reduceLT, Int.reduceToNat, Int.reduceNeg, reduceCtorEq, Int.reduceEq, SF0, SF1, SF2, DCe0, DCe1, DCe2, DDb0, DBc0, DBc1, DHa0, DCg0, DHb0, DHb1]
    exact fin_val ⟨by rw [boxI, ixOf_none (take_all (by omega) hi.2)], rfl⟩

theorem box_at {b : Box} : ∀ {l : List Box}, b ∈ l → ∃ i : Nat, l[i]? = some b ∧ (∀ x ∈ l.take i, decide (x = b) = false) ∧ l.eraseIdx i = l.erase b
  | [], h => by cases h
  | c :: l, h => by
    by_cases hc : c = b
    · exact ⟨0, by simp [hc], by simp, by simp [hc]⟩
    · have hm : b ∈ l := by
        rcases List.mem_cons.1 h with h | h
        · exact absurd h.symm hc
        · exact h
      obtain ⟨i, h1, h2, h3⟩ := box_at hm
      refine ⟨i + 1, by simpa using h1, fun x hx => ?_, ?_⟩
      · rw [List.take_succ_cons] at hx
        rcases List.mem_cons.1 hx with rfl | hx
        · simpa using hc
        · exact h2 x hx
      · rw [List.eraseIdx_cons_succ, h3, List.erase_cons_tail (by simpa using hc)]
theorem boxI_in {l : List Box} {b : Box} (h : b ∈ l) : ∃ i : Nat, boxI l b = i ∧ i < l.length ∧ l.eraseIdx i = l.erase b := by
  obtain ⟨i, h1, h2, h3⟩ := box_at h
  exact ⟨i, by rw [boxI, ixOf_at h1 h2 (by simp)], (List.getElem?_eq_some_iff.1 h1).1, h3⟩

theorem e_runStepsI : Enters Try.prog 53 := enters_of Try.func53 (by kernel_rfl) (by kernel_rfl)
set_option maxRecDepth 8000 in
set_option maxHeartbeats 4000000 in
theorem runStepsI_c (k : Work) (p : Plan) (S : List Int) (hk : k.Ps.length < 2 ^ 40) (hS : S.length < 2 ^ 40) : ACalls Try.prog 53 [.agg k.cs, .agg p.cs, .sl (ints S)] [] [] (fun r L => r = .tup [.sl ((if p.valid k ∧ begins (p.knots 0 (-1)) S then tabF k p S else []).map Box.cs), .val (.bool (decide (p.valid k ∧ begins (p.knots 0 (-1)) S)))] ∧ L = []) := by
  have P := partsOf_c k p hk
  have KN := knotsOf_c p
  by_cases hv : p.valid k
  case neg =>
    rw [if_neg hv] at P
    have e1 : ¬ (p.valid k ∧ begins (p.knots 0 (-1)) S) := fun h => hv h.1
    rw [if_neg e1, decide_eq_false e1]
    refine acalls_tm T_tt Try.func53 rfl e_runStepsI 81 rfl (W8 _ _ _ .any .any .any .any .any (W8 .any .any .any .any .any .any .any .any (W8 .any .any .any .any .any .any .any .any (W8 .any .any .any .any .any .any .any .any (W8 .any .any .any .any .any .any .any .any (W8 .any .any .any .any .any .any .any .any (W8 .any .any .any .any .any .any .any .any (W8 .any .any .any .any .any .any .any .any (W8 .any .any .any .any .any .any .any .any (W8 .any .any .any .any .any .any .any .any [.any, .any, .any, .any])))))))))) rfl (rv := [.tmp 6, .tmp 7]) rfl (sx_sound (bl := []) T_tt _ _ _ ?_)
    simp (disch := omega) only [SX0, SX1, SX2, SX3, SX4, SX5, SX6, SX7, SX8, SU0, SY0, SY1, Nat.reduceAdd, Nat.reduceMul, Nat.reduceSub, Nat.reduceLeDiff, Nat.reduceEqDiff, Nat.reduceLT, Nat.reduceBEq, ↓reduceIte, Int.reduceLE, Int.reduceLT, Int.reduceToNat, Int.reduceNeg, reduceCtorEq, Int.reduceEq, SF0, SF1, SF2, DCe0, DCe1, DCe2, DDb0, DBc0, DBc1, DHa0, DCg0, DHb0, DHb1]
    refine acall_one P (by simp [freeL, AV.free, Plan.free, Work.free]) rfl ?_
    simp (disch := omega) only [SX0, SX1, SX2, SX3, SX4, SX5, SX6, SX7, SX8, SU0, SY0, SY1, Nat.reduceAdd, Nat.reduceMul, Nat.reduceSub, Nat.reduceLeDiff, Nat.reduceEqDiff, Nat.reduceLT, Nat.reduceBEq, ↓reduceIte, Int.reduceLE, Int.reduceLT, Int.reduceToNat, Int.reduceNeg, reduceCtorEq, Int.reduceEq, SF0, SF1, SF2, DCe0, DCe1, DCe2, DDb0, DBc0, DBc1, DHa0, DCg0, DHb0, DHb1]
    refine acall_one KN (by simp [freeL, AV.free, Plan.free]) rfl ?_
    simp (disch := omega) only [SX0, SX1, SX2, SX3, SX4, SX5, SX6, SX7, SX8, SU0, SY0, SY1, Nat.reduceAdd, Nat.reduceMul, Nat.reduceSub, Nat.reduceLeDiff, Nat.reduceEqDiff, Nat.reduceLT, Nat.reduceBEq, ↓reduceIte, Int.reduceLE, Int.reduceLT, Int.reduceToNat, Int.reduceNeg, reduceCtorEq, Int.reduceEq, SF0, SF1, SF2, DCe0, DCe1, DCe2, DDb0, DBc0, DBc1, DHa0, DCg0, DHb0, DHb1]
    refine br_dec (fun h => ?_) (fun h => by omega)
    simp (disch := omega) only [SX0, SX1, SX2, SX3, SX4, SX5, SX6, SX7, SX8, SU0, SY0, SY1, Nat.reduceAdd, Nat.reduceMul, Nat.reduceSub, Nat.reduceLeDiff, Nat.reduceEqDiff, Nat.reduceLT, Nat.reduceBEq, ↓reduceIte, Int.reduceLE, Int.reduceLT, Int.reduceToNat, Int.reduceNeg, reduceCtorEq, Int.reduceEq, SF0, SF1, SF2, DCe0, DCe1, DCe2, DDb0, DBc0, DBc1, DHa0, DCg0, DHb0, DHb1]
    refine fin_nrm ?_
    simp only [AV.nrm, nrmL]
    exact fin_free rfl ⟨rfl, rfl⟩
  have BO := beginsOrder_c (p.knots 0 (-1)) (Plan.knots_facts hv.2.1.1).1 (fun q hq => by have := (Plan.knots_facts hv.2.1.1).2 q hq; have := hv.2.1.2; omega) (by have := Plan.knots_le p hv.2.1.1 0 (-1); have := hv.2.1.2; omega) S hS
  rw [if_pos hv] at P
  rw [if_pos hv.2.1, decide_eq_true hv.2.1] at KN
  have hpl := Plan.parts_len p hv.2.1.1 k.sheet
  have hnp := p.nodes_pos
  have hp0 := Plan.parts_head p k.sheet hv.2.1.1
  refine acalls_tm T_tt Try.func53 rfl e_runStepsI 81 rfl (W8 _ _ _ .any .any .any .any .any (W8 .any .any .any .any .any .any .any .any (W8 .any .any .any .any .any .any .any .any (W8 .any .any .any .any .any .any .any .any (W8 .any .any .any .any .any .any .any .any (W8 .any .any .any .any .any .any .any .any (W8 .any .any .any .any .any .any .any .any (W8 .any .any .any .any .any .any .any .any (W8 .any .any .any .any .any .any .any .any (W8 .any .any .any .any .any .any .any .any [.any, .any, .any, .any])))))))))) rfl (rv := [.tmp 6, .tmp 7]) rfl (sx_sound (bl := [42]) T_tt _ _ _ ?_)
  simp (disch := omega) only [SX0, SX1, SX2, SX3, SX4, SX5, SX6, SX7, SX8, SU0, SY0, SY1, Nat.reduceAdd, Nat.reduceMul, Nat.reduceSub, Nat.reduceLeDiff, Nat.reduceEqDiff, Nat.reduceLT, Nat.reduceBEq, ↓reduceIte, Int.reduceLE, Int.reduceLT, Int.reduceToNat, Int.reduceNeg, reduceCtorEq, Int.reduceEq, SF0, SF1, SF2, DCe0, DCe1, DCe2, DDb0, DBc0, DBc1, DHa0, DCg0, DHb0, DHb1]
  refine acall_one P (by simp [freeL, AV.free, Plan.free, Work.free]) rfl ?_
  simp (disch := omega) only [SX0, SX1, SX2, SX3, SX4, SX5, SX6, SX7, SX8, SU0, SY0, SY1, Nat.reduceAdd, Nat.reduceMul, Nat.reduceSub, Nat.reduceLeDiff, Nat.reduceEqDiff, Nat.reduceLT, Nat.reduceBEq, ↓reduceIte, Int.reduceLE, Int.reduceLT, Int.reduceToNat, Int.reduceNeg, reduceCtorEq, Int.reduceEq, SF0, SF1, SF2, DCe0, DCe1, DCe2, DDb0, DBc0, DBc1, DHa0, DCg0, DHb0, DHb1]
  refine acall_one KN (by simp [freeL, AV.free, Plan.free]) rfl ?_
  simp (disch := omega) only [SX0, SX1, SX2, SX3, SX4, SX5, SX6, SX7, SX8, SU0, SY0, SY1, Nat.reduceAdd, Nat.reduceMul, Nat.reduceSub, Nat.reduceLeDiff, Nat.reduceEqDiff, Nat.reduceLT, Nat.reduceBEq, ↓reduceIte, Int.reduceLE, Int.reduceLT, Int.reduceToNat, Int.reduceNeg, reduceCtorEq, Int.reduceEq, SF0, SF1, SF2, DCe0, DCe1, DCe2, DDb0, DBc0, DBc1, DHa0, DCg0, DHb0, DHb1]
  refine br_dec (fun h => by omega) (fun h => ?_)
  simp (disch := omega) only [SX0, SX1, SX2, SX3, SX4, SX5, SX6, SX7, SX8, SU0, SY0, SY1, Nat.reduceAdd, Nat.reduceMul, Nat.reduceSub, Nat.reduceLeDiff, Nat.reduceEqDiff, Nat.reduceLT, Nat.reduceBEq, ↓reduceIte, Int.reduceLE, Int.reduceLT, Int.reduceToNat, Int.reduceNeg, reduceCtorEq, Int.reduceEq, SF0, SF1, SF2, DCe0, DCe1, DCe2, DDb0, DBc0, DBc1, DHa0, DCg0, DHb0, DHb1]
  refine acall_one BO rfl rfl ?_
  simp (disch := omega) only [SX0, SX1, SX2, SX3, SX4, SX5, SX6, SX7, SX8, SU0, SY0, SY1, Nat.reduceAdd, Nat.reduceMul, Nat.reduceSub, Nat.reduceLeDiff, Nat.reduceEqDiff, Nat.reduceLT, Nat.reduceBEq, ↓reduceIte, Int.reduceLE, Int.reduceLT, Int.reduceToNat, Int.reduceNeg, reduceCtorEq, Int.reduceEq, SF0, SF1, SF2, DCe0, DCe1, DCe2, DDb0, DBc0, DBc1, DHa0, DCg0, DHb0, DHb1]
  refine br_ndec (fun hb => ?_) (fun hb => ?_)
  · have e1 : ¬ (p.valid k ∧ begins (p.knots 0 (-1)) S) := fun h => hb h.2
    rw [if_neg e1, decide_eq_false e1]
    simp (disch := omega) only [SX0, SX1, SX2, SX3, SX4, SX5, SX6, SX7, SX8, SU0, SY0, SY1, Nat.reduceAdd, Nat.reduceMul, Nat.reduceSub, Nat.reduceLeDiff, Nat.reduceEqDiff, Nat.reduceLT, Nat.reduceBEq, ↓reduceIte, Int.reduceLE, Int.reduceLT, Int.reduceToNat, Int.reduceNeg, reduceCtorEq, Int.reduceEq, SF0, SF1, SF2, DCe0, DCe1, DCe2, DDb0, DBc0, DBc1, DHa0, DCg0, DHb0, DHb1]
    refine fin_nrm ?_
    simp only [AV.nrm, nrmL]
    exact fin_free rfl ⟨rfl, rfl⟩
  rw [if_pos ⟨hv, hb⟩, decide_eq_true ⟨hv, hb⟩]
  have inv : ∀ i, i ≤ S.length → TabInv k p (S.take i) (tabF k p (S.take i)) := fun i hi => tab_all k p hv i hi (begins_iff.2 fun j m hm => by
    rw [List.getElem?_take] at hm
    split at hm
    · have := begins_iff.1 hb j m hm
      rw [List.take_take, Nat.min_eq_left (by omega)]
      exact this
    · cases hm)
  simp (disch := omega) only [SX0, SX1, SX2, SX3, SX4, SX5, SX6, SX7, SX8, SU0, SY0, SY1, Nat.reduceAdd, Nat.reduceMul, Nat.reduceSub, Nat.reduceLeDiff, Nat.reduceEqDiff, Nat.reduceLT, Nat.reduceBEq, ↓reduceIte, Int.reduceLE, Int.reduceLT, Int.reduceToNat, Int.reduceNeg, reduceCtorEq, Int.reduceEq, SF0, SF1, SF2, DCe0, DCe1, DCe2, DDb0, DBc0, DBc1, DHa0, DCg0, DHb0, DHb1, hp0]
  with_reducible refine awp_loop_h 11 73 (fun (i : Nat) => [(11, .os 2 4 0 (tabF k p (S.take i)).length), (43, .sl (ints S)), (44, .val (.int .i64 S.length)), (45, .val (.int .i64 i))]) (fun i => [.cells k.cs, .cells p.cs, .vec 4 ((tabF k p (S.take i)).map Box.cs)]) (fun i => i ≤ S.length) (fun i => S.length - i) 0 (Nat.zero_le _) ?_ (fun i hi => sx_sound (bl := []) T_tt _ _ _ ?_)
  · simp (disch := omega) only [SX0, SX1, SX2, SX3, SX4, SX5, SX6, SX7, SX8, SU0, SY0, SY1, Nat.reduceAdd, Nat.reduceMul, Nat.reduceSub, Nat.reduceLeDiff, Nat.reduceEqDiff, Nat.reduceLT, Nat.reduceBEq, ↓reduceIte, Int.reduceLE, Int.reduceLT, Int.reduceToNat, Int.reduceNeg, reduceCtorEq, Int.reduceEq, SF0, SF1, SF2, DCe0, DCe1, DCe2, DDb0, DBc0, DBc1, DHa0, DCg0, DHb0, DHb1]
    (refine wk_le ?_ ?_ ?_; (focus (simp [W8, leTm, leAV, AV.under, underL, Work.under, Plan.under, rbUnder, ints, tabF_nil]; done)); (focus (simp [leL, OB.under, underL, AV.under, Work.under, Plan.under, rbUnder, ints, tabF_nil]; done)); (focus (simp; done)))
  simp (disch := omega) only [SX0, SX1, SX2, SX3, SX4, SX5, SX6, SX7, SX8, SU0, SY0, SY1, Nat.reduceAdd, Nat.reduceMul, Nat.reduceSub, Nat.reduceLeDiff, Nat.reduceEqDiff, Nat.reduceLT, Nat.reduceBEq, ↓reduceIte, Int.reduceLE, Int.reduceLT, Int.reduceToNat, Int.reduceNeg, reduceCtorEq, Int.reduceEq, SF0, SF1, SF2, DCe0, DCe1, DCe2, DDb0, DBc0, DBc1, DHa0, DCg0, DHb0, DHb1]
  refine br_dec (fun h1 => ?_) (fun h1 => ?_)
  · obtain ⟨n, hn⟩ := get_lt (l := S) (i := i) (by omega)
    have hcan := begins_iff.1 hb i n hn
    obtain ⟨hn0, q, x, y, g1, g2, g3, g4, g5, g6, g7, g8, g9⟩ := step_part k p hv hcan
    obtain ⟨t1, t2, t3, _⟩ := tab_step k p hv (inv i hi) hcan
    have hat := Plan.fits_cut g3 g4 g7
    have hbb := g6
    unfold Box.sane at hbb
    have hop : q.1.op = 2 ∨ q.1.op ≠ 2 := by omega
    have hT := (inv i hi).len
    rw [List.length_take] at hT
    have hn0' : (0 ≤ n) = True := eq_true hn0
    have hnl : (n.toNat < (p.parts k.sheet).length) = True := eq_true (List.getElem?_eq_some_iff.1 g1).1
    have enx := tabF_next k p hn
    rw [tabStep, g2] at enx
    rw [g2] at t1
    obtain ⟨at_, a1, a2, a3⟩ := boxI_in t1
    generalize tabF k p (S.take i) = T at *
    simp (disch := omega) only [SX0, SX1, SX2, SX3, SX4, SX5, SX6, SX7, SX8, SU0, SY0, SY1, Nat.reduceAdd, Nat.reduceMul, Nat.reduceSub, Nat.reduceLeDiff, Nat.reduceEqDiff, Nat.reduceLT, Nat.reduceBEq, ↓reduceIte, Int.reduceLE, Int.reduceLT, Int.reduceToNat, Int.reduceNeg, reduceCtorEq, Int.reduceEq, SF0, SF1, SF2, DCe0, DCe1, DCe2, DDb0, DBc0, DBc1, DHa0, DCg0, DHb0, DHb1, hn, hn0', g1, hnl]
    refine acall_tell (indexB_c T q.2 (by omega)) (by exact ⟨.row 2 4 T.length _ rfl (by simp), .free _ rfl, trivial⟩) ?_
    rw [a1]
    simp (disch := omega) only [SX0, SX1, SX2, SX3, SX4, SX5, SX6, SX7, SX8, SU0, SY0, SY1, Nat.reduceAdd, Nat.reduceMul, Nat.reduceSub, Nat.reduceLeDiff, Nat.reduceEqDiff, Nat.reduceLT, Nat.reduceBEq, ↓reduceIte, Int.reduceLE, Int.reduceLT, Int.reduceToNat, Int.reduceNeg, reduceCtorEq, Int.reduceEq, SF0, SF1, SF2, DCe0, DCe1, DCe2, DDb0, DBc0, DBc1, DHa0, DCg0, DHb0, DHb1]
    refine br_dec (fun h => by omega) (fun h => ?_)
    simp (disch := omega) only [SX0, SX1, SX2, SX3, SX4, SX5, SX6, SX7, SX8, SU0, SY0, SY1, Nat.reduceAdd, Nat.reduceMul, Nat.reduceSub, Nat.reduceLeDiff, Nat.reduceEqDiff, Nat.reduceLT, Nat.reduceBEq, ↓reduceIte, Int.reduceLE, Int.reduceLT, Int.reduceToNat, Int.reduceNeg, reduceCtorEq, Int.reduceEq, SF0, SF1, SF2, DCe0, DCe1, DCe2, DDb0, DBc0, DBc1, DHa0, DCg0, DHb0, DHb1]
    refine acall_own (deleteB_c T at_ a2) [2] [] (by simp only [SX0, SX1, SX2, SX3, SX4, SX5, SX6, SX7, SX8, SU0, SY0, SY1, Nat.reduceAdd, Nat.reduceMul, Nat.reduceSub, Nat.reduceLeDiff, Nat.reduceEqDiff, Nat.reduceLT, Nat.reduceBEq, ↓reduceIte, Int.reduceLE, Int.reduceLT, Int.reduceToNat, Int.reduceNeg, reduceCtorEq, Int.reduceEq, SF0, SF1, SF2, DCe0, DCe1, DCe2, DDb0, DBc0, DBc1, DHa0, DCg0, DHb0, DHb1, SX0]) (by decide) (by decide) (by rfl) (by simp only [SX0, SX1, SX2, SX3, SX4, SX5, SX6, SX7, SX8, SU0, SY0, SY1, Nat.reduceAdd, Nat.reduceMul, Nat.reduceSub, Nat.reduceLeDiff, Nat.reduceEqDiff, Nat.reduceLT, Nat.reduceBEq, ↓reduceIte, Int.reduceLE, Int.reduceLT, Int.reduceToNat, Int.reduceNeg, reduceCtorEq, Int.reduceEq, SF0, SF1, SF2, DCe0, DCe1, DCe2, DDb0, DBc0, DBc1, DHa0, DCg0, DHb0, DHb1, SX0]) ?_
    rintro _ _ ⟨rfl, rfl⟩
    rw [a3]
    simp (disch := omega) only [SX0, SX1, SX2, SX3, SX4, SX5, SX6, SX7, SX8, SU0, SY0, SY1, Nat.reduceAdd, Nat.reduceMul, Nat.reduceSub, Nat.reduceLeDiff, Nat.reduceEqDiff, Nat.reduceLT, Nat.reduceBEq, ↓reduceIte, Int.reduceLE, Int.reduceLT, Int.reduceToNat, Int.reduceNeg, reduceCtorEq, Int.reduceEq, SF0, SF1, SF2, DCe0, DCe1, DCe2, DDb0, DBc0, DBc1, DHa0, DCg0, DHb0, DHb1, hn, hn0', g1, hnl]
    refine awp_float (bl := []) T_tt mixed [0, 1, 2] [0, 1, 2, 3, 4, 5, 6, 7, 8, 9, 10, 11, 12, 13] [(16, [(0, .f 64), (1, .f 65), (2, .f 66), (3, .f 67), (4, .f 68), (5, .f 69), (6, .f 70), (7, .f 71), (8, .f 72), (9, .f 73), (10, .f 74), (11, .f 63), (12, .f 75), (14, .a 15 77), (15, .a 16 77)]), (17, [(13, .f 76)])] [] (by kernel_rfl) (by kernel_rfl) ?_
    simp (disch := omega) only [SX0, SX1, SX2, SX3, SX4, SX5, SX6, SX7, SX8, SU0, SY0, SY1, Nat.reduceAdd, Nat.reduceMul, Nat.reduceSub, Nat.reduceLeDiff, Nat.reduceEqDiff, Nat.reduceLT, Nat.reduceBEq, ↓reduceIte, Int.reduceLE, Int.reduceLT, Int.reduceToNat, Int.reduceNeg, reduceCtorEq, Int.reduceEq, SF0, SF1, SF2, DCe0, DCe1, DCe2, DDb0, DBc0, DBc1, DHa0, DCg0, DHb0, DHb1, hn, hn0', g1, hnl, partRow_plan]
    refine qc_one (splitBoxI_c q.1 q.2 (by omega)) (by simp [freeL, AV.free, Plan.free, Box.free]) ?_
    simp (disch := omega) only [SX0, SX1, SX2, SX3, SX4, SX5, SX6, SX7, SX8, SU0, SY0, SY1, Nat.reduceAdd, Nat.reduceMul, Nat.reduceSub, Nat.reduceLeDiff, Nat.reduceEqDiff, Nat.reduceLT, Nat.reduceBEq, ↓reduceIte, Int.reduceLE, Int.reduceLT, Int.reduceToNat, Int.reduceNeg, reduceCtorEq, Int.reduceEq, SF0, SF1, SF2, DCe0, DCe1, DCe2, DDb0, DBc0, DBc1, DHa0, DCg0, DHb0, DHb1]
    refine req (fun c hc => by
      simp only [List.mem_cons, List.not_mem_nil, or_false] at hc
      rcases hc with rfl | rfl <;> exact ⟨rfl, rfl, rfl⟩) ?_
    simp (disch := omega) only [SX0, SX1, SX2, SX3, SX4, SX5, SX6, SX7, SX8, SU0, SY0, SY1, Nat.reduceAdd, Nat.reduceMul, Nat.reduceSub, Nat.reduceLeDiff, Nat.reduceEqDiff, Nat.reduceLT, Nat.reduceBEq, ↓reduceIte, Int.reduceLE, Int.reduceLT, Int.reduceToNat, Int.reduceNeg, reduceCtorEq, Int.reduceEq, SF0, SF1, SF2, DCe0, DCe1, DCe2, DDb0, DBc0, DBc1, DHa0, DCg0, DHb0, DHb1]
    refine req (by rw [List.length_erase_of_mem t1]; simp; omega) ?_
    simp (disch := omega) only [SX0, SX1, SX2, SX3, SX4, SX5, SX6, SX7, SX8, SU0, SY0, SY1, Nat.reduceAdd, Nat.reduceMul, Nat.reduceSub, Nat.reduceLeDiff, Nat.reduceEqDiff, Nat.reduceLT, Nat.reduceBEq, ↓reduceIte, Int.reduceLE, Int.reduceLT, Int.reduceToNat, Int.reduceNeg, reduceCtorEq, Int.reduceEq, SF0, SF1, SF2, DCe0, DCe1, DCe2, DDb0, DBc0, DBc1, DHa0, DCg0, DHb0, DHb1]
    refine ⟨i + 1, by omega, by omega, ?_⟩
    have hel := List.length_erase_of_mem t1
    (refine wk_le ?_ ?_ ?_; (focus (simp [W8, leTm, leAV, AV.under, underL, Work.under, Plan.under, rbUnder, ints, enx, hel]; done)); (focus (simp [leL, OB.under, underL, AV.under, Work.under, Plan.under, rbUnder, ints, enx, hel]; done)); (focus (simp; done)))
  · have hi : i = S.length := by omega
    rw [hi, List.take_length]
    simp (disch := omega) only [SX0, SX1, SX2, SX3, SX4, SX5, SX6, SX7, SX8, SU0, SY0, SY1, Nat.reduceAdd, Nat.reduceMul, Nat.reduceSub, Nat.reduceLeDiff, Nat.reduceEqDiff, Nat.reduceLT, Nat.reduceBEq, ↓reduceIte, Int.reduceLE, Int.reduceLT, Int.reduceToNat, Int.reduceNeg, reduceCtorEq, Int.reduceEq, SF0, SF1, SF2, DCe0, DCe1, DCe2, DDb0, DBc0, DBc1, DHa0, DCg0, DHb0, DHb1]
    refine fin_frz (r := 2) (k := 4) rfl (by simp) ?_
    simp only [AV.frz, frzL, if_true, Nat.zero_add, true_and, List.length_map, Nat.le_refl, List.drop_zero]
    rw [List.take_of_length_le (by simp)]
    exact fin_free rfl ⟨rfl, rfl⟩
end Go.Pc
