/- Steps made by the reference. -/
import Derived.Test.YtkcpcmobmalijaaBrc
import Derived.Test.YtkcpcmobmalijaaSb
set_option linter.unusedSimpArgs false
set_option linter.unusedVariables false
namespace Go.Pc
open Go Go.Proofs

/-- All boxes but one. -/
def boxN (T : List Box) (b : Box) : List Box := T.filter fun c => !decide (c = b)
theorem boxN_erase {T : List Box} (h : T.Nodup) (b : Box) : boxN T b = T.erase b := by
  rw [h.erase_eq_filter]
  unfold boxN
  congr 1
theorem boxN_yes {T : List Box} {i : Nat} {b c : Box} (h : T[i]? = some c) (hc : c ≠ b) : boxN (T.take (i + 1)) b = boxN (T.take i) b ++ [c] := by
  unfold boxN
  rw [List.take_add_one, h, Option.toList, List.filter_append]
  simp [hc]
theorem boxN_no {T : List Box} {i : Nat} {b c : Box} (h : T[i]? = some c) (hc : c = b) : boxN (T.take (i + 1)) b = boxN (T.take i) b := by
  unfold boxN
  rw [List.take_add_one, h, Option.toList, List.filter_append]
  simp [hc]
theorem boxN_len (T : List Box) (b : Box) (i : Nat) : (boxN (T.take i) b).length ≤ i := Nat.le_trans (List.length_filter_le _ _) (by rw [List.length_take]; omega)

theorem e_applyS : Enters Try.prog 118 := enters_of Try.func118 (by kernel_rfl) (by kernel_rfl)
set_option maxRecDepth 8000 in
set_option maxHeartbeats 2000000 in
theorem applyS_c (k : Work) (T : List Box) (p : Plan) (b : Box) (hT : T.length < 2 ^ 39) (hw : p.wf = true) (hb : b.sane) (hf : p.fits k b.W b.H = true) (h255 : p.nodes ≤ 255) (hc : p.cut) : ACalls Try.prog 118 [.sl (T.map Box.cs), .agg b.cs, .agg p.cs] [] [] (fun r L => r = .sl ((boxN T b ++ [(p.split b).1, (p.split b).2]).map Box.cs) ∧ L = []) := by
  obtain ⟨x, y, hk, hx, hy, g1, g2⟩ := Plan.parts_kids k p hw b hb hf 0 (p, b) (Plan.parts_head p b hw) hc
  obtain ⟨x', y', hk', hwx, hwy, nx, ny⟩ := Plan.two hw hc
  simp only at hk
  rw [hk] at hk'
  cases hk'
  have hsz : x.size = x.nodes := by unfold Plan.size; rw [if_pos ⟨hwx, by omega⟩]
  have P1 := partAt_n k _ p b 1 _ (Nat.le_refl _) hw hb hf h255 (by omega) g2.1
  have P2 := partAt_n k _ p b (1 + x.size) _ (Nat.le_refl _) hw hb hf h255 (by omega) (by rw [hsz, show (1 + (x.nodes : Int)).toNat = 0 + 1 + x.nodes by omega]; exact g2.2)
  have PS := planSizeS_c x
  refine acalls_tm T_tt Try.func118 rfl e_applyS 53 rfl (W8 _ _ _ .any .any .any .any .any (W8 .any .any .any .any .any .any .any .any (W8 .any .any .any .any .any .any .any .any (W8 .any .any .any .any .any .any .any .any (W8 .any .any .any .any .any .any .any .any (W8 .any .any .any .any .any .any .any .any (W8 .any .any .any .any .any .any .any .any []))))))) rfl (rv := [.tmp 6]) rfl (sx_sound (bl := [13]) T_tt _ _ _ ?_)
  simp (disch := omega) only [SX0, SX1, SX2, SX3, SX4, SX5, SX6, SX7, SX8, SU0, SY0, SY1, Nat.reduceAdd, Nat.reduceMul, Nat.reduceSub, Nat.reduceLeDiff, Nat.reduceEqDiff, Nat.reduceLT, Nat.reduceBEq, ↓reduceIte, Int.reduceLE, Int.reduceLT, Int.reduceToNat, Int.reduceNeg, reduceCtorEq, Int.reduceEq, SF0, SF1, SF2, DCe0, DCe1, DCe2, DDb0, DBc0, DBc1, DHa0, DCg0, DHb0, DHb1]
  with_reducible refine awp_loop_h 9 47 (fun (i : Nat) => [(7, .os 2 4 0 (boxN (T.take i) b).length), (8, .val (.int .i64 i))]) (fun i => [.cells b.cs, .cells p.cs, .vec 4 ((boxN (T.take i) b).map Box.cs)]) (fun i => i ≤ T.length) (fun i => T.length - i) 0 (Nat.zero_le _) ?_ (fun i hi => sx_sound (bl := []) T_tt _ _ _ ?_)
  · simp (disch := omega) only [SX0, SX1, SX2, SX3, SX4, SX5, SX6, SX7, SX8, SU0, SY0, SY1, Nat.reduceAdd, Nat.reduceMul, Nat.reduceSub, Nat.reduceLeDiff, Nat.reduceEqDiff, Nat.reduceLT, Nat.reduceBEq, ↓reduceIte, Int.reduceLE, Int.reduceLT, Int.reduceToNat, Int.reduceNeg, reduceCtorEq, Int.reduceEq, SF0, SF1, SF2, DCe0, DCe1, DCe2, DDb0, DBc0, DBc1, DHa0, DCg0, DHb0, DHb1]
    (refine wk_le ?_ ?_ ?_; (focus (simp [W8, leTm, leAV, AV.under, underL, Plan.under, rbUnder, boxN]; done)); (focus (simp [leL, OB.under, underL, AV.under, Plan.under, rbUnder, boxN]; done)); (focus (simp; done)))
  simp (disch := omega) only [SX0, SX1, SX2, SX3, SX4, SX5, SX6, SX7, SX8, SU0, SY0, SY1, Nat.reduceAdd, Nat.reduceMul, Nat.reduceSub, Nat.reduceLeDiff, Nat.reduceEqDiff, Nat.reduceLT, Nat.reduceBEq, ↓reduceIte, Int.reduceLE, Int.reduceLT, Int.reduceToNat, Int.reduceNeg, reduceCtorEq, Int.reduceEq, SF0, SF1, SF2, DCe0, DCe1, DCe2, DDb0, DBc0, DBc1, DHa0, DCg0, DHb0, DHb1]
  refine br_dec (fun h1 => ?_) (fun h1 => ?_)
  · obtain ⟨c, hcc⟩ := get_lt (l := T) (i := i) (by omega)
    have hbl := boxN_len T b i
    simp (disch := omega) only [SX0, SX1, SX2, SX3, SX4, SX5, SX6, SX7, SX8, SU0, SY0, SY1, Nat.reduceAdd, Nat.reduceMul, Nat.reduceSub, Nat.reduceLeDiff, Nat.reduceEqDiff, Nat.reduceLT, Nat.reduceBEq, ↓reduceIte, Int.reduceLE, Int.reduceLT, Int.reduceToNat, Int.reduceNeg, reduceCtorEq, Int.reduceEq, SF0, SF1, SF2, DCe0, DCe1, DCe2, DDb0, DBc0, DBc1, DHa0, DCg0, DHb0, DHb1]
    refine awp_drawA T_tt mixed (by decide +kernel) (by kernel_rfl) (by kernel_rfl) ?_
    simp (disch := omega) only [SX0, SX1, SX2, SX3, SX4, SX5, SX6, SX7, SX8, SU0, SY0, SY1, Nat.reduceAdd, Nat.reduceMul, Nat.reduceSub, Nat.reduceLeDiff, Nat.reduceEqDiff, Nat.reduceLT, Nat.reduceBEq, ↓reduceIte, Int.reduceLE, Int.reduceLT, Int.reduceToNat, Int.reduceNeg, reduceCtorEq, Int.reduceEq, SF0, SF1, SF2, DCe0, DCe1, DCe2, DDb0, DBc0, DBc1, DHa0, DCg0, DHb0, DHb1, hcc]
    refine br_ndec (fun h2 => ?_) (fun h2 => ?_)
    · have e := boxN_yes hcc h2
      simp (disch := omega) only [SX0, SX1, SX2, SX3, SX4, SX5, SX6, SX7, SX8, SU0, SY0, SY1, Nat.reduceAdd, Nat.reduceMul, Nat.reduceSub, Nat.reduceLeDiff, Nat.reduceEqDiff, Nat.reduceLT, Nat.reduceBEq, ↓reduceIte, Int.reduceLE, Int.reduceLT, Int.reduceToNat, Int.reduceNeg, reduceCtorEq, Int.reduceEq, SF0, SF1, SF2, DCe0, DCe1, DCe2, DDb0, DBc0, DBc1, DHa0, DCg0, DHb0, DHb1, hcc]
      refine req (by omega) ?_
      simp (disch := omega) only [SX0, SX1, SX2, SX3, SX4, SX5, SX6, SX7, SX8, SU0, SY0, SY1, Nat.reduceAdd, Nat.reduceMul, Nat.reduceSub, Nat.reduceLeDiff, Nat.reduceEqDiff, Nat.reduceLT, Nat.reduceBEq, ↓reduceIte, Int.reduceLE, Int.reduceLT, Int.reduceToNat, Int.reduceNeg, reduceCtorEq, Int.reduceEq, SF0, SF1, SF2, DCe0, DCe1, DCe2, DDb0, DBc0, DBc1, DHa0, DCg0, DHb0, DHb1]
      refine ⟨i + 1, by omega, by omega, ?_⟩
      (refine wk_le ?_ ?_ ?_; (focus (simp [W8, leTm, leAV, AV.under, underL, Plan.under, rbUnder, e]; done)); (focus (simp [leL, OB.under, underL, AV.under, Plan.under, rbUnder, e]; done)); (focus (simp; done)))
    · have e := boxN_no hcc h2
      simp (disch := omega) only [SX0, SX1, SX2, SX3, SX4, SX5, SX6, SX7, SX8, SU0, SY0, SY1, Nat.reduceAdd, Nat.reduceMul, Nat.reduceSub, Nat.reduceLeDiff, Nat.reduceEqDiff, Nat.reduceLT, Nat.reduceBEq, ↓reduceIte, Int.reduceLE, Int.reduceLT, Int.reduceToNat, Int.reduceNeg, reduceCtorEq, Int.reduceEq, SF0, SF1, SF2, DCe0, DCe1, DCe2, DDb0, DBc0, DBc1, DHa0, DCg0, DHb0, DHb1]
      refine ⟨i + 1, by omega, by omega, ?_⟩
      (refine wk_le ?_ ?_ ?_; (focus (simp [W8, leTm, leAV, AV.under, underL, Plan.under, rbUnder, e]; done)); (focus (simp [leL, OB.under, underL, AV.under, Plan.under, rbUnder, e]; done)); (focus (simp; done)))
  · have hi : i = T.length := by omega
    rw [hi, List.take_length]
    have hbl := boxN_len T b T.length
    rw [List.take_length] at hbl
    simp (disch := omega) only [SX0, SX1, SX2, SX3, SX4, SX5, SX6, SX7, SX8, SU0, SY0, SY1, Nat.reduceAdd, Nat.reduceMul, Nat.reduceSub, Nat.reduceLeDiff, Nat.reduceEqDiff, Nat.reduceLT, Nat.reduceBEq, ↓reduceIte, Int.reduceLE, Int.reduceLT, Int.reduceToNat, Int.reduceNeg, reduceCtorEq, Int.reduceEq, SF0, SF1, SF2, DCe0, DCe1, DCe2, DDb0, DBc0, DBc1, DHa0, DCg0, DHb0, DHb1]
    refine acall_one P1 (by simp [freeL, AV.free, Plan.free, Box.free]) (by simp [freeL, AV.free, Plan.free, Box.free]) ?_
    simp (disch := omega) only [SX0, SX1, SX2, SX3, SX4, SX5, SX6, SX7, SX8, SU0, SY0, SY1, Nat.reduceAdd, Nat.reduceMul, Nat.reduceSub, Nat.reduceLeDiff, Nat.reduceEqDiff, Nat.reduceLT, Nat.reduceBEq, ↓reduceIte, Int.reduceLE, Int.reduceLT, Int.reduceToNat, Int.reduceNeg, reduceCtorEq, Int.reduceEq, SF0, SF1, SF2, DCe0, DCe1, DCe2, DDb0, DBc0, DBc1, DHa0, DCg0, DHb0, DHb1, hk]
    refine awp_float (bl := []) T_tt mixed [0, 1, 2, 3, 4] [0, 1, 2, 3, 4, 5, 6, 7, 8, 9, 10, 11] [(14, [(0, .f 40), (1, .f 41), (2, .f 42), (3, .f 43), (4, .f 44), (5, .f 45), (6, .f 46), (7, .f 47), (8, .f 48), (9, .f 39), (10, .f 49), (12, .a 11 31), (13, .a 12 77)]), (15, [(11, .f 50)])] [] (by kernel_rfl) (by kernel_rfl) ?_
    simp (disch := omega) only [SX0, SX1, SX2, SX3, SX4, SX5, SX6, SX7, SX8, SU0, SY0, SY1, Nat.reduceAdd, Nat.reduceMul, Nat.reduceSub, Nat.reduceLeDiff, Nat.reduceEqDiff, Nat.reduceLT, Nat.reduceBEq, ↓reduceIte, Int.reduceLE, Int.reduceLT, Int.reduceToNat, Int.reduceNeg, reduceCtorEq, Int.reduceEq, SF0, SF1, SF2, DCe0, DCe1, DCe2, DDb0, DBc0, DBc1, DHa0, DCg0, DHb0, DHb1, hk]
    refine qc_one PS (by simp [freeL, AV.free, Plan.free]) ?_
    simp (disch := omega) only [SX0, SX1, SX2, SX3, SX4, SX5, SX6, SX7, SX8, SU0, SY0, SY1, Nat.reduceAdd, Nat.reduceMul, Nat.reduceSub, Nat.reduceLeDiff, Nat.reduceEqDiff, Nat.reduceLT, Nat.reduceBEq, ↓reduceIte, Int.reduceLE, Int.reduceLT, Int.reduceToNat, Int.reduceNeg, reduceCtorEq, Int.reduceEq, SF0, SF1, SF2, DCe0, DCe1, DCe2, DDb0, DBc0, DBc1, DHa0, DCg0, DHb0, DHb1, hk]
    refine qc_one P2 (by simp [freeL, AV.free, Plan.free, Box.free]) ?_
    simp (disch := omega) only [SX0, SX1, SX2, SX3, SX4, SX5, SX6, SX7, SX8, SU0, SY0, SY1, Nat.reduceAdd, Nat.reduceMul, Nat.reduceSub, Nat.reduceLeDiff, Nat.reduceEqDiff, Nat.reduceLT, Nat.reduceBEq, ↓reduceIte, Int.reduceLE, Int.reduceLT, Int.reduceToNat, Int.reduceNeg, reduceCtorEq, Int.reduceEq, SF0, SF1, SF2, DCe0, DCe1, DCe2, DDb0, DBc0, DBc1, DHa0, DCg0, DHb0, DHb1]
    refine req (fun c hc => by
      simp only [List.mem_cons, List.not_mem_nil, or_false] at hc
      rcases hc with rfl | rfl <;> exact ⟨rfl, rfl, rfl⟩) ?_
    simp (disch := omega) only [SX0, SX1, SX2, SX3, SX4, SX5, SX6, SX7, SX8, SU0, SY0, SY1, Nat.reduceAdd, Nat.reduceMul, Nat.reduceSub, Nat.reduceLeDiff, Nat.reduceEqDiff, Nat.reduceLT, Nat.reduceBEq, ↓reduceIte, Int.reduceLE, Int.reduceLT, Int.reduceToNat, Int.reduceNeg, reduceCtorEq, Int.reduceEq, SF0, SF1, SF2, DCe0, DCe1, DCe2, DDb0, DBc0, DBc1, DHa0, DCg0, DHb0, DHb1]
    refine req (by omega) ?_
    simp (disch := omega) only [SX0, SX1, SX2, SX3, SX4, SX5, SX6, SX7, SX8, SU0, SY0, SY1, Nat.reduceAdd, Nat.reduceMul, Nat.reduceSub, Nat.reduceLeDiff, Nat.reduceEqDiff, Nat.reduceLT, Nat.reduceBEq, ↓reduceIte, Int.reduceLE, Int.reduceLT, Int.reduceToNat, Int.reduceNeg, reduceCtorEq, Int.reduceEq, SF0, SF1, SF2, DCe0, DCe1, DCe2, DDb0, DBc0, DBc1, DHa0, DCg0, DHb0, DHb1]
    exact fin_row rfl (by simp) ⟨by simp, rfl⟩

/-- A part is no longer than its whole. -/
theorem Plan.parts_nodes : ∀ (p : Plan), p.wf = true → ∀ (b : Box) (n : Nat) (q : Plan × Box), (p.parts b)[n]? = some q → q.1.nodes ≤ p.nodes :=
  Plan.wf_ind (fun p hw hc b n q hq => by
    rw [Plan.parts_leaf hc] at hq
    have := List.mem_of_getElem? hq
    simp at this; subst this; exact Nat.le_refl _) (fun p x y hw hc hk hx hy ix iy b n q hq => by
    rw [Plan.parts_cut hc hk] at hq
    have hm := List.mem_of_getElem? hq
    have hn := Plan.nodes_two hk
    simp only [List.mem_cons, List.mem_append] at hm
    rcases hm with rfl | hm | hm
    · exact Nat.le_refl _
    · obtain ⟨i, hi⟩ := List.mem_iff_getElem?.1 hm
      have := ix _ i q hi; omega
    · obtain ⟨i, hi⟩ := List.mem_iff_getElem?.1 hm
      have := iy _ i q hi; omega)

theorem e_runStepsS : Enters Try.prog 54 := enters_of Try.func54 (by kernel_rfl) (by kernel_rfl)
set_option maxRecDepth 8000 in
set_option maxHeartbeats 4000000 in
theorem runStepsS_c (k : Work) (p : Plan) (S : List Int) (hk : k.Ps.length < 2 ^ 40) (hS : S.length < 2 ^ 38) : ACalls Try.prog 54 [.agg k.cs, .agg p.cs, .sl (ints S)] [] [] (fun r L => r = .tup [.sl ((if p.valid k ∧ begins (p.knots 0 (-1)) S then tabF k p S else []).map Box.cs), .val (.bool (decide (p.valid k ∧ begins (p.knots 0 (-1)) S)))] ∧ L = []) := by
  have V := validPlanS_c k p hk
  refine acalls_tm T_tt Try.func54 rfl e_runStepsS 88 rfl (W8 _ _ _ .any .any .any .any .any (W8 .any .any .any .any .any .any .any .any (W8 .any .any .any .any .any .any .any .any (W8 .any .any .any .any .any .any .any .any (W8 .any .any .any .any .any .any .any .any (W8 .any .any .any .any .any .any .any .any (W8 .any .any .any .any .any .any .any .any (W8 .any .any .any .any .any .any .any .any (W8 .any .any .any .any .any .any .any .any (W8 .any .any .any .any .any .any .any .any (W8 .any .any .any .any .any .any .any .any [.any, .any, .any]))))))))))) rfl (rv := [.tmp 6, .tmp 7]) rfl (sx_sound (bl := []) T_tt _ _ _ ?_)
  simp (disch := omega) only [SX0, SX1, SX2, SX3, SX4, SX5, SX6, SX7, SX8, SU0, SY0, SY1, Nat.reduceAdd, Nat.reduceMul, Nat.reduceSub, Nat.reduceLeDiff, Nat.reduceEqDiff, Nat.reduceLT, Nat.reduceBEq, ↓reduceIte, Int.reduceLE, Int.reduceLT, Int.reduceToNat, Int.reduceNeg, reduceCtorEq, Int.reduceEq, SF0, SF1, SF2, DCe0, DCe1, DCe2, DDb0, DBc0, DBc1, DHa0, DCg0, DHb0, DHb1]
  refine acall_one V (by simp [freeL, AV.free, Plan.free, Work.free]) rfl ?_
  simp (disch := omega) only [SX0, SX1, SX2, SX3, SX4, SX5, SX6, SX7, SX8, SU0, SY0, SY1, Nat.reduceAdd, Nat.reduceMul, Nat.reduceSub, Nat.reduceLeDiff, Nat.reduceEqDiff, Nat.reduceLT, Nat.reduceBEq, ↓reduceIte, Int.reduceLE, Int.reduceLT, Int.reduceToNat, Int.reduceNeg, reduceCtorEq, Int.reduceEq, SF0, SF1, SF2, DCe0, DCe1, DCe2, DDb0, DBc0, DBc1, DHa0, DCg0, DHb0, DHb1]
  refine br_ndec (fun hv => ?_) (fun hv => ?_)
  · have e1 : ¬ (p.valid k ∧ begins (p.knots 0 (-1)) S) := fun h => hv h.1
    rw [if_neg e1, decide_eq_false e1]
    simp (disch := omega) only [SX0, SX1, SX2, SX3, SX4, SX5, SX6, SX7, SX8, SU0, SY0, SY1, Nat.reduceAdd, Nat.reduceMul, Nat.reduceSub, Nat.reduceLeDiff, Nat.reduceEqDiff, Nat.reduceLT, Nat.reduceBEq, ↓reduceIte, Int.reduceLE, Int.reduceLT, Int.reduceToNat, Int.reduceNeg, reduceCtorEq, Int.reduceEq, SF0, SF1, SF2, DCe0, DCe1, DCe2, DDb0, DBc0, DBc1, DHa0, DCg0, DHb0, DHb1]
    refine fin_nrm ?_
    simp only [AV.nrm, nrmL]
    exact fin_free rfl ⟨rfl, rfl⟩
  have hbg : (if p.valid k ∧ begins (p.knots 0 (-1)) S then tabF k p S else []) = if begins (p.knots 0 (-1)) S then tabF k p S else [] := by simp only [hv, true_and]
  have hbd : decide (p.valid k ∧ begins (p.knots 0 (-1)) S) = decide (begins (p.knots 0 (-1)) S) := by simp only [hv, true_and]
  rw [hbg, hbd]
  have hp := hv.2.1
  have I := innerNodes_c p hp
  have A := aboves_c p hp
  obtain ⟨f1, f2⟩ := Plan.knots_facts hp.1
  have hkl := Plan.knots_le p hp.1 0 (-1)
  have lf : (fsts (p.knots 0 (-1))).length = (p.knots 0 (-1)).length := by simp [fsts]
  have ls : (snds (p.knots 0 (-1))).length = (p.knots 0 (-1)).length := by simp [snds]
  have tabs : ∀ i, i ≤ S.length → (∀ (j : Nat) n, j < i → S[j]? = some n → canCut (p.knots 0 (-1)) (S.take j) n) → TabInv k p (S.take i) (tabF k p (S.take i)) := fun i hi h => tab_all k p hv i hi (begins_iff.2 fun j m hm => by
    rw [List.getElem?_take] at hm
    split at hm
    · rename_i hj
      rw [List.take_take, Nat.min_eq_left (by omega)]
      exact h j m hj hm
    · cases hm)
  have sp : ∀ i n, canCut (p.knots 0 (-1)) (S.take i) n → _ := fun i n h => step_part k p hv h
  have stp : ∀ i n, i ≤ S.length → (∀ (j : Nat) n, j < i → S[j]? = some n → canCut (p.knots 0 (-1)) (S.take j) n) → canCut (p.knots 0 (-1)) (S.take i) n → (tabF k p (S.take i)).Nodup := fun i n hi h hc => (tab_step k p hv (tabs i hi h) hc).2.1
  generalize p.knots 0 (-1) = ks at *
  simp (disch := omega) only [SX0, SX1, SX2, SX3, SX4, SX5, SX6, SX7, SX8, SU0, SY0, SY1, Nat.reduceAdd, Nat.reduceMul, Nat.reduceSub, Nat.reduceLeDiff, Nat.reduceEqDiff, Nat.reduceLT, Nat.reduceBEq, ↓reduceIte, Int.reduceLE, Int.reduceLT, Int.reduceToNat, Int.reduceNeg, reduceCtorEq, Int.reduceEq, SF0, SF1, SF2, DCe0, DCe1, DCe2, DDb0, DBc0, DBc1, DHa0, DCg0, DHb0, DHb1]
  refine acall_one I (by simp [freeL, AV.free, Plan.free]) rfl ?_
  simp (disch := omega) only [SX0, SX1, SX2, SX3, SX4, SX5, SX6, SX7, SX8, SU0, SY0, SY1, Nat.reduceAdd, Nat.reduceMul, Nat.reduceSub, Nat.reduceLeDiff, Nat.reduceEqDiff, Nat.reduceLT, Nat.reduceBEq, ↓reduceIte, Int.reduceLE, Int.reduceLT, Int.reduceToNat, Int.reduceNeg, reduceCtorEq, Int.reduceEq, SF0, SF1, SF2, DCe0, DCe1, DCe2, DDb0, DBc0, DBc1, DHa0, DCg0, DHb0, DHb1]
  refine acall_one A (by simp [freeL, AV.free, Plan.free]) rfl ?_
  simp (disch := omega) only [SX0, SX1, SX2, SX3, SX4, SX5, SX6, SX7, SX8, SU0, SY0, SY1, Nat.reduceAdd, Nat.reduceMul, Nat.reduceSub, Nat.reduceLeDiff, Nat.reduceEqDiff, Nat.reduceLT, Nat.reduceBEq, ↓reduceIte, Int.reduceLE, Int.reduceLT, Int.reduceToNat, Int.reduceNeg, reduceCtorEq, Int.reduceEq, SF0, SF1, SF2, DCe0, DCe1, DCe2, DDb0, DBc0, DBc1, DHa0, DCg0, DHb0, DHb1]
  with_reducible refine awp_loop_h 12 78 (fun (i : Nat) => [(10, .sl ((tabF k p (S.take i)).map Box.cs)), (11, .val (.int .i64 i))]) (fun i => [.cells k.cs, .cells p.cs]) (fun i => i ≤ S.length ∧ ∀ (j : Nat) n, j < i → S[j]? = some n → canCut ks (S.take j) n) (fun i => S.length - i) 0 ⟨Nat.zero_le _, fun j n hj => by omega⟩ ?_ (fun i hi => sx_sound (bl := []) T_tt _ _ _ ?_)
  · simp (disch := omega) only [SX0, SX1, SX2, SX3, SX4, SX5, SX6, SX7, SX8, SU0, SY0, SY1, Nat.reduceAdd, Nat.reduceMul, Nat.reduceSub, Nat.reduceLeDiff, Nat.reduceEqDiff, Nat.reduceLT, Nat.reduceBEq, ↓reduceIte, Int.reduceLE, Int.reduceLT, Int.reduceToNat, Int.reduceNeg, reduceCtorEq, Int.reduceEq, SF0, SF1, SF2, DCe0, DCe1, DCe2, DDb0, DBc0, DBc1, DHa0, DCg0, DHb0, DHb1]
    (refine wk_le ?_ ?_ ?_; (focus (simp [W8, leTm, leAV, AV.under, underL, Work.under, Plan.under, rbUnder, ints, tabF_nil, Work.sheet, Box.cs]; done)); (focus (simp [leL, OB.under, underL, AV.under, Work.under, Plan.under, rbUnder, ints, tabF_nil, Work.sheet, Box.cs]; done)); (focus (simp; done)))
  simp (disch := omega) only [SX0, SX1, SX2, SX3, SX4, SX5, SX6, SX7, SX8, SU0, SY0, SY1, Nat.reduceAdd, Nat.reduceMul, Nat.reduceSub, Nat.reduceLeDiff, Nat.reduceEqDiff, Nat.reduceLT, Nat.reduceBEq, ↓reduceIte, Int.reduceLE, Int.reduceLT, Int.reduceToNat, Int.reduceNeg, reduceCtorEq, Int.reduceEq, SF0, SF1, SF2, DCe0, DCe1, DCe2, DDb0, DBc0, DBc1, DHa0, DCg0, DHb0, DHb1]
  refine br_dec (fun h2 => ?_) (fun h2 => ?_)
  · obtain ⟨n, hn⟩ := get_lt (l := S) (i := i) (by omega)
    simp (disch := omega) only [SX0, SX1, SX2, SX3, SX4, SX5, SX6, SX7, SX8, SU0, SY0, SY1, Nat.reduceAdd, Nat.reduceMul, Nat.reduceSub, Nat.reduceLeDiff, Nat.reduceEqDiff, Nat.reduceLT, Nat.reduceBEq, ↓reduceIte, Int.reduceLE, Int.reduceLT, Int.reduceToNat, Int.reduceNeg, reduceCtorEq, Int.reduceEq, SF0, SF1, SF2, DCe0, DCe1, DCe2, DDb0, DBc0, DBc1, DHa0, DCg0, DHb0, DHb1, hn]
    refine acall_one (placeIn_c (fsts ks) n (by omega)) rfl rfl ?_
    simp (disch := omega) only [SX0, SX1, SX2, SX3, SX4, SX5, SX6, SX7, SX8, SU0, SY0, SY1, Nat.reduceAdd, Nat.reduceMul, Nat.reduceSub, Nat.reduceLeDiff, Nat.reduceEqDiff, Nat.reduceLT, Nat.reduceBEq, ↓reduceIte, Int.reduceLE, Int.reduceLT, Int.reduceToNat, Int.reduceNeg, reduceCtorEq, Int.reduceEq, SF0, SF1, SF2, DCe0, DCe1, DCe2, DDb0, DBc0, DBc1, DHa0, DCg0, DHb0, DHb1]
    refine awp_drawA T_tt mixed (by decide +kernel) (by kernel_rfl) (by kernel_rfl) ?_
    simp (disch := omega) only [SX0, SX1, SX2, SX3, SX4, SX5, SX6, SX7, SX8, SU0, SY0, SY1, Nat.reduceAdd, Nat.reduceMul, Nat.reduceSub, Nat.reduceLeDiff, Nat.reduceEqDiff, Nat.reduceLT, Nat.reduceBEq, ↓reduceIte, Int.reduceLE, Int.reduceLT, Int.reduceToNat, Int.reduceNeg, reduceCtorEq, Int.reduceEq, SF0, SF1, SF2, DCe0, DCe1, DCe2, DDb0, DBc0, DBc1, DHa0, DCg0, DHb0, DHb1]
    refine br_dec (fun h3 => ?_) (fun h3 => ?_)
    · have e1 : ¬ begins ks S := fun hh => by
        obtain ⟨q, hq, e, _⟩ := begins_iff.1 hh i n hn
        exact placeI_neg.1 h3 (e ▸ List.mem_map_of_mem hq)
      rw [if_neg e1, decide_eq_false e1]
      simp (disch := omega) only [SX0, SX1, SX2, SX3, SX4, SX5, SX6, SX7, SX8, SU0, SY0, SY1, Nat.reduceAdd, Nat.reduceMul, Nat.reduceSub, Nat.reduceLeDiff, Nat.reduceEqDiff, Nat.reduceLT, Nat.reduceBEq, ↓reduceIte, Int.reduceLE, Int.reduceLT, Int.reduceToNat, Int.reduceNeg, reduceCtorEq, Int.reduceEq, SF0, SF1, SF2, DCe0, DCe1, DCe2, DDb0, DBc0, DBc1, DHa0, DCg0, DHb0, DHb1]
      refine fin_nrm ?_
      simp only [AV.nrm, nrmL]
      exact fin_free rfl ⟨rfl, rfl⟩
    obtain ⟨q, hq, hqn⟩ := placeI_fst f1 (n := n) (by omega)
    have hqa : (snds ks)[(placeI (fsts ks) n).toNat]? = some q.2 := by unfold snds; rw [List.getElem?_map, hq]; rfl
    have h30 : (0 ≤ placeI (fsts ks) n) = True := eq_true (by omega)
    simp (disch := omega) only [SX0, SX1, SX2, SX3, SX4, SX5, SX6, SX7, SX8, SU0, SY0, SY1, Nat.reduceAdd, Nat.reduceMul, Nat.reduceSub, Nat.reduceLeDiff, Nat.reduceEqDiff, Nat.reduceLT, Nat.reduceBEq, ↓reduceIte, Int.reduceLE, Int.reduceLT, Int.reduceToNat, Int.reduceNeg, reduceCtorEq, Int.reduceEq, SF0, SF1, SF2, DCe0, DCe1, DCe2, DDb0, DBc0, DBc1, DHa0, DCg0, DHb0, DHb1, hn]
    refine req ⟨by omega, by omega, intHead⟩ ?_
    simp (disch := omega) only [SX0, SX1, SX2, SX3, SX4, SX5, SX6, SX7, SX8, SU0, SY0, SY1, Nat.reduceAdd, Nat.reduceMul, Nat.reduceSub, Nat.reduceLeDiff, Nat.reduceEqDiff, Nat.reduceLT, Nat.reduceBEq, ↓reduceIte, Int.reduceLE, Int.reduceLT, Int.reduceToNat, Int.reduceNeg, reduceCtorEq, Int.reduceEq, SF0, SF1, SF2, DCe0, DCe1, DCe2, DDb0, DBc0, DBc1, DHa0, DCg0, DHb0, DHb1, hn]
    refine qc_one (placeIn_t S i n (by omega)) rfl ?_
    simp (disch := omega) only [SX0, SX1, SX2, SX3, SX4, SX5, SX6, SX7, SX8, SU0, SY0, SY1, Nat.reduceAdd, Nat.reduceMul, Nat.reduceSub, Nat.reduceLeDiff, Nat.reduceEqDiff, Nat.reduceLT, Nat.reduceBEq, ↓reduceIte, Int.reduceLE, Int.reduceLT, Int.reduceToNat, Int.reduceNeg, reduceCtorEq, Int.reduceEq, SF0, SF1, SF2, DCe0, DCe1, DCe2, DDb0, DBc0, DBc1, DHa0, DCg0, DHb0, DHb1]
    refine br_dec (fun h4 => ?_) (fun h4 => ?_)
    · have e1 : ¬ begins ks S := fun hh => by
        obtain ⟨_, _, _, hno, _⟩ := begins_iff.1 hh i n hn
        have := placeI_neg.2 hno
        omega
      rw [if_neg e1, decide_eq_false e1]
      simp (disch := omega) only [SX0, SX1, SX2, SX3, SX4, SX5, SX6, SX7, SX8, SU0, SY0, SY1, Nat.reduceAdd, Nat.reduceMul, Nat.reduceSub, Nat.reduceLeDiff, Nat.reduceEqDiff, Nat.reduceLT, Nat.reduceBEq, ↓reduceIte, Int.reduceLE, Int.reduceLT, Int.reduceToNat, Int.reduceNeg, reduceCtorEq, Int.reduceEq, SF0, SF1, SF2, DCe0, DCe1, DCe2, DDb0, DBc0, DBc1, DHa0, DCg0, DHb0, DHb1]
      refine fin_nrm ?_
      simp only [AV.nrm, nrmL]
      exact fin_free rfl ⟨rfl, rfl⟩
    have h5 : n ∉ S.take i := placeI_neg.1 (by omega)
    simp (disch := omega) only [SX0, SX1, SX2, SX3, SX4, SX5, SX6, SX7, SX8, SU0, SY0, SY1, Nat.reduceAdd, Nat.reduceMul, Nat.reduceSub, Nat.reduceLeDiff, Nat.reduceEqDiff, Nat.reduceLT, Nat.reduceBEq, ↓reduceIte, Int.reduceLE, Int.reduceLT, Int.reduceToNat, Int.reduceNeg, reduceCtorEq, Int.reduceEq, SF0, SF1, SF2, DCe0, DCe1, DCe2, DDb0, DBc0, DBc1, DHa0, DCg0, DHb0, DHb1, hqa, h30]
    refine br_dec (fun h6 => ?_) (fun h6 => ?_)
    · simp (disch := omega) only [SX0, SX1, SX2, SX3, SX4, SX5, SX6, SX7, SX8, SU0, SY0, SY1, Nat.reduceAdd, Nat.reduceMul, Nat.reduceSub, Nat.reduceLeDiff, Nat.reduceEqDiff, Nat.reduceLT, Nat.reduceBEq, ↓reduceIte, Int.reduceLE, Int.reduceLT, Int.reduceToNat, Int.reduceNeg, reduceCtorEq, Int.reduceEq, SF0, SF1, SF2, DCe0, DCe1, DCe2, DDb0, DBc0, DBc1, DHa0, DCg0, DHb0, DHb1]
      refine req ⟨by omega, by omega, intHead⟩ ?_
      simp (disch := omega) only [SX0, SX1, SX2, SX3, SX4, SX5, SX6, SX7, SX8, SU0, SY0, SY1, Nat.reduceAdd, Nat.reduceMul, Nat.reduceSub, Nat.reduceLeDiff, Nat.reduceEqDiff, Nat.reduceLT, Nat.reduceBEq, ↓reduceIte, Int.reduceLE, Int.reduceLT, Int.reduceToNat, Int.reduceNeg, reduceCtorEq, Int.reduceEq, SF0, SF1, SF2, DCe0, DCe1, DCe2, DDb0, DBc0, DBc1, DHa0, DCg0, DHb0, DHb1, hqa, h30]
      refine qc_one (placeIn_t S i q.2 (by omega)) rfl ?_
      simp (disch := omega) only [SX0, SX1, SX2, SX3, SX4, SX5, SX6, SX7, SX8, SU0, SY0, SY1, Nat.reduceAdd, Nat.reduceMul, Nat.reduceSub, Nat.reduceLeDiff, Nat.reduceEqDiff, Nat.reduceLT, Nat.reduceBEq, ↓reduceIte, Int.reduceLE, Int.reduceLT, Int.reduceToNat, Int.reduceNeg, reduceCtorEq, Int.reduceEq, SF0, SF1, SF2, DCe0, DCe1, DCe2, DDb0, DBc0, DBc1, DHa0, DCg0, DHb0, DHb1]
      refine br_dec (fun h7 => ?_) (fun h7 => ?_)
      · have e1 : ¬ begins ks S := fun hh => by
          obtain ⟨r, hr, e, _, hab⟩ := begins_iff.1 hh i n hn
          have := fst_inj f1 hr (List.mem_of_getElem? hq) (e.trans hqn.symm)
          subst this
          exact placeI_neg.1 h7 (hab (by omega))
        rw [if_neg e1, decide_eq_false e1]
        simp (disch := omega) only [SX0, SX1, SX2, SX3, SX4, SX5, SX6, SX7, SX8, SU0, SY0, SY1, Nat.reduceAdd, Nat.reduceMul, Nat.reduceSub, Nat.reduceLeDiff, Nat.reduceEqDiff, Nat.reduceLT, Nat.reduceBEq, ↓reduceIte, Int.reduceLE, Int.reduceLT, Int.reduceToNat, Int.reduceNeg, reduceCtorEq, Int.reduceEq, SF0, SF1, SF2, DCe0, DCe1, DCe2, DDb0, DBc0, DBc1, DHa0, DCg0, DHb0, DHb1]
        refine fin_nrm ?_
        simp only [AV.nrm, nrmL]
        exact fin_free rfl ⟨rfl, rfl⟩
      · have h8 : q.2 ∈ S.take i := Classical.byContradiction fun hno => h7 (placeI_neg.2 hno)
        have hcan : canCut ks (S.take i) n := ⟨q, List.mem_of_getElem? hq, hqn, h5, fun _ => h8⟩
        have htab := tabs i hi.1 hi.2
        have hnd := stp i n hi.1 hi.2 hcan
        obtain ⟨hn0, u, x, y, g1, g2, g3, g4, g5, g6, g7, g8, g9⟩ := sp i n hcan
        have hT := htab.len
        rw [List.length_take] at hT
        have enx := tabF_next k p hn
        rw [tabStep, g2, ← boxN_erase hnd] at enx
        have hun := Plan.parts_nodes p hv.2.1.1 k.sheet _ _ g1
        have PA := partAt_n k _ p k.sheet n u (Nat.le_refl _) hv.2.1.1 (Work.sheet_sane hv.1) hv.2.2 hv.2.1.2 hn0 g1
        have AP := applyS_c k (tabF k p (S.take i)) u.1 u.2 (by omega) g5 g6 g7 (by omega) g3
        simp (disch := omega) only [SX0, SX1, SX2, SX3, SX4, SX5, SX6, SX7, SX8, SU0, SY0, SY1, Nat.reduceAdd, Nat.reduceMul, Nat.reduceSub, Nat.reduceLeDiff, Nat.reduceEqDiff, Nat.reduceLT, Nat.reduceBEq, ↓reduceIte, Int.reduceLE, Int.reduceLT, Int.reduceToNat, Int.reduceNeg, reduceCtorEq, Int.reduceEq, SF0, SF1, SF2, DCe0, DCe1, DCe2, DDb0, DBc0, DBc1, DHa0, DCg0, DHb0, DHb1]
        refine awp_float (bl := []) T_tt mixed [0, 1] [0, 1, 2, 3, 4, 5, 6, 7, 8, 9, 10, 11, 12, 13] [(16, [(0, .f 73), (1, .f 74), (2, .f 75), (3, .f 76), (4, .f 77), (5, .f 78), (6, .f 79), (7, .f 80), (8, .f 81), (9, .f 82), (10, .f 83), (11, .f 72), (12, .f 84), (14, .a 13 31), (15, .a 14 77)]), (17, [(13, .f 85)])] [] (by kernel_rfl) (by kernel_rfl) ?_
        simp (disch := omega) only [SX0, SX1, SX2, SX3, SX4, SX5, SX6, SX7, SX8, SU0, SY0, SY1, Nat.reduceAdd, Nat.reduceMul, Nat.reduceSub, Nat.reduceLeDiff, Nat.reduceEqDiff, Nat.reduceLT, Nat.reduceBEq, ↓reduceIte, Int.reduceLE, Int.reduceLT, Int.reduceToNat, Int.reduceNeg, reduceCtorEq, Int.reduceEq, SF0, SF1, SF2, DCe0, DCe1, DCe2, DDb0, DBc0, DBc1, DHa0, DCg0, DHb0, DHb1, hn]
        refine qc_one PA (by simp [freeL, AV.free, Plan.free, Box.free]) ?_
        simp (disch := omega) only [SX0, SX1, SX2, SX3, SX4, SX5, SX6, SX7, SX8, SU0, SY0, SY1, Nat.reduceAdd, Nat.reduceMul, Nat.reduceSub, Nat.reduceLeDiff, Nat.reduceEqDiff, Nat.reduceLT, Nat.reduceBEq, ↓reduceIte, Int.reduceLE, Int.reduceLT, Int.reduceToNat, Int.reduceNeg, reduceCtorEq, Int.reduceEq, SF0, SF1, SF2, DCe0, DCe1, DCe2, DDb0, DBc0, DBc1, DHa0, DCg0, DHb0, DHb1]
        refine acall_one AP (by simp [freeL, AV.free, Plan.free, Box.free]) rfl ?_
        simp (disch := omega) only [SX0, SX1, SX2, SX3, SX4, SX5, SX6, SX7, SX8, SU0, SY0, SY1, Nat.reduceAdd, Nat.reduceMul, Nat.reduceSub, Nat.reduceLeDiff, Nat.reduceEqDiff, Nat.reduceLT, Nat.reduceBEq, ↓reduceIte, Int.reduceLE, Int.reduceLT, Int.reduceToNat, Int.reduceNeg, reduceCtorEq, Int.reduceEq, SF0, SF1, SF2, DCe0, DCe1, DCe2, DDb0, DBc0, DBc1, DHa0, DCg0, DHb0, DHb1]
        refine ⟨i + 1, ⟨by omega, step_in hi.2 hn hcan⟩, by omega, ?_⟩
        (refine wk_le ?_ ?_ ?_; (focus (simp [W8, leTm, leAV, AV.under, underL, Work.under, Plan.under, rbUnder, ints, enx]; done)); (focus (simp [leL, OB.under, underL, AV.under, Work.under, Plan.under, rbUnder, ints, enx]; done)); (focus (simp; done)))
    · have hcan : canCut ks (S.take i) n := ⟨q, List.mem_of_getElem? hq, hqn, h5, fun h => absurd h (by omega)⟩
      have htab := tabs i hi.1 hi.2
      have hnd := stp i n hi.1 hi.2 hcan
      obtain ⟨hn0, u, x, y, g1, g2, g3, g4, g5, g6, g7, g8, g9⟩ := sp i n hcan
      have hT := htab.len
      rw [List.length_take] at hT
      have enx := tabF_next k p hn
      rw [tabStep, g2, ← boxN_erase hnd] at enx
      have hun := Plan.parts_nodes p hv.2.1.1 k.sheet _ _ g1
      have PA := partAt_n k _ p k.sheet n u (Nat.le_refl _) hv.2.1.1 (Work.sheet_sane hv.1) hv.2.2 hv.2.1.2 hn0 g1
      have AP := applyS_c k (tabF k p (S.take i)) u.1 u.2 (by omega) g5 g6 g7 (by omega) g3
      simp (disch := omega) only [SX0, SX1, SX2, SX3, SX4, SX5, SX6, SX7, SX8, SU0, SY0, SY1, Nat.reduceAdd, Nat.reduceMul, Nat.reduceSub, Nat.reduceLeDiff, Nat.reduceEqDiff, Nat.reduceLT, Nat.reduceBEq, ↓reduceIte, Int.reduceLE, Int.reduceLT, Int.reduceToNat, Int.reduceNeg, reduceCtorEq, Int.reduceEq, SF0, SF1, SF2, DCe0, DCe1, DCe2, DDb0, DBc0, DBc1, DHa0, DCg0, DHb0, DHb1]
      refine awp_float (bl := []) T_tt mixed [0, 1] [0, 1, 2, 3, 4, 5, 6, 7, 8, 9, 10, 11, 12, 13] [(16, [(0, .f 73), (1, .f 74), (2, .f 75), (3, .f 76), (4, .f 77), (5, .f 78), (6, .f 79), (7, .f 80), (8, .f 81), (9, .f 82), (10, .f 83), (11, .f 72), (12, .f 84), (14, .a 13 31), (15, .a 14 77)]), (17, [(13, .f 85)])] [] (by kernel_rfl) (by kernel_rfl) ?_
      simp (disch := omega) only [SX0, SX1, SX2, SX3, SX4, SX5, SX6, SX7, SX8, SU0, SY0, SY1, Nat.reduceAdd, Nat.reduceMul, Nat.reduceSub, Nat.reduceLeDiff, Nat.reduceEqDiff, Nat.reduceLT, Nat.reduceBEq, ↓reduceIte, Int.reduceLE, Int.reduceLT, Int.reduceToNat, Int.reduceNeg, reduceCtorEq, Int.reduceEq, SF0, SF1, SF2, DCe0, DCe1, DCe2, DDb0, DBc0, DBc1, DHa0, DCg0, DHb0, DHb1, hn]
      refine qc_one PA (by simp [freeL, AV.free, Plan.free, Box.free]) ?_
      simp (disch := omega) only [SX0, SX1, SX2, SX3, SX4, SX5, SX6, SX7, SX8, SU0, SY0, SY1, Nat.reduceAdd, Nat.reduceMul, Nat.reduceSub, Nat.reduceLeDiff, Nat.reduceEqDiff, Nat.reduceLT, Nat.reduceBEq, ↓reduceIte, Int.reduceLE, Int.reduceLT, Int.reduceToNat, Int.reduceNeg, reduceCtorEq, Int.reduceEq, SF0, SF1, SF2, DCe0, DCe1, DCe2, DDb0, DBc0, DBc1, DHa0, DCg0, DHb0, DHb1]
      refine acall_one AP (by simp [freeL, AV.free, Plan.free, Box.free]) rfl ?_
      simp (disch := omega) only [SX0, SX1, SX2, SX3, SX4, SX5, SX6, SX7, SX8, SU0, SY0, SY1, Nat.reduceAdd, Nat.reduceMul, Nat.reduceSub, Nat.reduceLeDiff, Nat.reduceEqDiff, Nat.reduceLT, Nat.reduceBEq, ↓reduceIte, Int.reduceLE, Int.reduceLT, Int.reduceToNat, Int.reduceNeg, reduceCtorEq, Int.reduceEq, SF0, SF1, SF2, DCe0, DCe1, DCe2, DDb0, DBc0, DBc1, DHa0, DCg0, DHb0, DHb1]
      refine ⟨i + 1, ⟨by omega, step_in hi.2 hn hcan⟩, by omega, ?_⟩
      (refine wk_le ?_ ?_ ?_; (focus (simp [W8, leTm, leAV, AV.under, underL, Work.under, Plan.under, rbUnder, ints, enx]; done)); (focus (simp [leL, OB.under, underL, AV.under, Work.under, Plan.under, rbUnder, ints, enx]; done)); (focus (simp; done)))
  · have hii : i = S.length := by omega
    have hb : begins ks S := begins_iff.2 fun j n hj => hi.2 j n (by have := (List.getElem?_eq_some_iff.1 hj).1; omega) hj
    rw [if_pos hb, decide_eq_true hb, hii, List.take_length]
    simp (disch := omega) only [SX0, SX1, SX2, SX3, SX4, SX5, SX6, SX7, SX8, SU0, SY0, SY1, Nat.reduceAdd, Nat.reduceMul, Nat.reduceSub, Nat.reduceLeDiff, Nat.reduceEqDiff, Nat.reduceLT, Nat.reduceBEq, ↓reduceIte, Int.reduceLE, Int.reduceLT, Int.reduceToNat, Int.reduceNeg, reduceCtorEq, Int.reduceEq, SF0, SF1, SF2, DCe0, DCe1, DCe2, DDb0, DBc0, DBc1, DHa0, DCg0, DHb0, DHb1]
    exact fin_free rfl ⟨rfl, rfl⟩
end Go.Pc
