/- StepLengths and NumbersOf of the program and of the reference. -/
import Derived.Test.YtjeabpbpoomlmaaSb
import Derived.Test.YtjeabpbpoomlmaaSc
import Derived.Test.YtjeabpbpoomlmaaUx
set_option linter.unusedSimpArgs false
set_option linter.unusedVariables false
namespace Go.Pc
open Go Go.Proofs

theorem placeI_in {l : List Int} {n : Int} (h : n ∈ l) : 0 ≤ placeI l n ∧ (placeI l n).toNat < l.length ∧ l[(placeI l n).toNat]? = some n := by
  unfold placeI
  rcases ixOf_find (g := fun x => decide (x = n)) (l := l) with ⟨h1, h2⟩ | ⟨i, x, h1, h2, h3⟩
  · rw [List.find?_eq_none] at h2
    have := h2 n h
    simp at this
  · have := List.find?_some h3
    simp only [decide_eq_true_eq] at this
    subst this
    rw [h1]
    exact ⟨by omega, by simpa using (List.getElem?_eq_some_iff.1 h2).1, by simpa using h2⟩

/-- As many lengths as cuts. -/
theorem Plan.cutL_len : ∀ (p : Plan), p.wf = true → ∀ (b : Box) (n a : Int), (p.cutL b).length = (p.knots n a).length :=
  Plan.wf_ind (fun p hw hc b n a => by rw [Plan.cutL_leaf hc, Plan.knots_leaf hc]; rfl) (fun p x y hw hc hk hx hy ix iy b n a => by
    rw [Plan.cutL_cut hc hk, Plan.knots_cut hc hk]
    simp only [List.length_cons, List.length_append]
    rw [ix _ (n + 1) n, iy _ (n + 1 + x.nodes) n])

/-- The numbers of the cuts. -/
def Plan.numbs (p : Plan) : List Int := if p.wf = true ∧ p.nodes ≤ 255 then fsts (p.knots 0 (-1)) else []
theorem vsteps_mem {p : Plan} {S : List Int} (hv : p.vsteps S) {n : Int} (h : n ∈ S) : n ∈ fsts (p.knots 0 (-1)) := by
  obtain ⟨i, hi⟩ := List.mem_iff_getElem?.1 h
  obtain ⟨r, hr, e, _⟩ := begins_iff.1 hv.2.2 i n hi
  exact List.mem_map.2 ⟨r, hr, e⟩

/-- The length of the cut of a number. -/
def lenAt (cuts nums : List Int) (n : Int) : Int := cuts.getD (placeI nums n).toNat 0
def Plan.stepL (p : Plan) (k : Work) (S : List Int) : List Int := if p.valid k ∧ p.vsteps S then S.map (lenAt (p.cutL k.sheet) (fsts (p.knots 0 (-1)))) else []
theorem stepL_len (p : Plan) (k : Work) (S : List Int) : (p.stepL k S).length ≤ 255 := by
  unfold Plan.stepL
  split
  · rename_i h
    have := Plan.knots_le p h.2.1.1 0 (-1)
    rw [List.length_map, h.2.2.1]
    have := h.2.1.2
    omega
  · simp

theorem e_indexI : Enters Try.prog 79 := enters_of Try.func79 (by kernel_rfl) (by kernel_rfl)
theorem indexI_c (l : List Int) (n : Int) (hl : l.length < 2 ^ 40) : ACalls Try.prog 79 [.sl (ints l), .val (.int .i64 n)] [] [] (fun r L => r = .val (.int .i64 (placeI l n)) ∧ L = []) := by
  refine acalls_tm T_tt Try.func79 rfl e_indexI 17 rfl (W8 _ _ .any .any .any .any .any .any (W8 .any .any .any .any .any .any .any .any [.any, .any, .any])) rfl (rv := [.tmp 4]) rfl (sx_sound (bl := []) T_tt _ _ _ ?_)
  simp (disch := omega) only [SX0, SX1, SX2, SX3, SX4, SX5, SX6, SX7, SX8, SU0, SY0, SY1, Nat.reduceAdd, Nat.reduceMul, Nat.reduceSub, Nat.reduceLeDiff, Nat.reduceEqDiff, Nat.reduceLT, Nat.reduceBEq, ↓reduceIte, Int.reduceLE, Int.reduceLT, Int.reduceToNat, Int.reduceNeg, reduceCtorEq, Int.reduceEq, SF0, SF1, SF2, DCg0, DCe0, DCe1, DCe2, DDb0, DBc0, DBc1, DHb0, DHb1, DHa0]
  with_reducible refine awp_loop_h 5 14 (fun (i : Nat) => [(6, .sl (ints l)), (7, .val (.int .i64 l.length)), (8, .val (.int .i64 i))]) (fun _ => []) (fun i => i ≤ l.length ∧ ∀ x ∈ l.take i, decide (x = n) = false) (fun i => l.length - i) 0 ⟨Nat.zero_le _, by simp⟩ ?_ (fun i hi => sx_sound (bl := []) T_tt _ _ _ ?_)
  · simp (disch := omega) only [SX0, SX1, SX2, SX3, SX4, SX5, SX6, SX7, SX8, SU0, SY0, SY1, Nat.reduceAdd, Nat.reduceMul, Nat.reduceSub, Nat.reduceLeDiff, Nat.reduceEqDiff, Nat.reduceLT, Nat.reduceBEq, ↓reduceIte, Int.reduceLE, Int.reduceLT, Int.reduceToNat, Int.reduceNeg, reduceCtorEq, Int.reduceEq, SF0, SF1, SF2, DCg0, DCe0, DCe1, DCe2, DDb0, DBc0, DBc1, DHb0, DHb1, DHa0]
    (refine wk_le ?_ ?_ ?_; (focus (simp [W8, leTm, leAV, AV.under, underL, ints]; done)); (focus (simp [leL, OB.under, underL, AV.under, ints]; done)); (focus (simp; done)))
  simp (disch := omega) only [SX0, SX1, SX2, SX3, SX4, SX5, SX6, SX7, SX8, SU0, SY0, SY1, Nat.reduceAdd, Nat.reduceMul, Nat.reduceSub, Nat.reduceLeDiff, Nat.reduceEqDiff, Nat.reduceLT, Nat.reduceBEq, ↓reduceIte, Int.reduceLE, Int.reduceLT, Int.reduceToNat, Int.reduceNeg, reduceCtorEq, Int.reduceEq, SF0, SF1, SF2, DCg0, DCe0, DCe1, DCe2, DDb0, DBc0, DBc1, DHb0, DHb1, DHa0]
  refine br_dec (fun h1 => ?_) (fun h1 => ?_)
  · obtain ⟨x, hx⟩ := get_lt (l := l) (i := i) (by omega)
    simp (disch := omega) only [SX0, SX1, SX2, SX3, SX4, SX5, SX6, SX7, SX8, SU0, SY0, SY1, Nat.reduceAdd, Nat.reduceMul, Nat.reduceSub, Nat.reduceLeDiff, Nat.reduceEqDiff, Nat.reduceLT, Nat.reduceBEq, ↓reduceIte, Int.reduceLE, Int.reduceLT, Int.reduceToNat, Int.reduceNeg, reduceCtorEq, Int.reduceEq, SF0, SF1, SF2, DCg0, DCe0, DCe1, DCe2, DDb0, DBc0, DBc1, DHb0, DHb1, DHa0, hx]
    refine br_dec (fun h2 => ?_) (fun h2 => ?_)
    · simp (disch := omega) only [SX0, SX1, SX2, SX3, SX4, SX5, SX6, SX7, SX8, SU0, SY0, SY1, Nat.reduceAdd, Nat.reduceMul, Nat.reduceSub, Nat.reduceLeDiff, Nat.reduceEqDiff, Nat.reduceLT, Nat.reduceBEq, ↓reduceIte, Int.reduceLE, Int.reduceLT, Int.reduceToNat, Int.reduceNeg, reduceCtorEq, Int.reduceEq, SF0, SF1, SF2, DCg0, DCe0, DCe1, DCe2, DDb0, DBc0, DBc1, DHb0, DHb1, DHa0]
      exact fin_val ⟨by rw [placeI, ixOf_at hx hi.2 (by simp [h2])], rfl⟩
    · simp (disch := omega) only [SX0, SX1, SX2, SX3, SX4, SX5, SX6, SX7, SX8, SU0, SY0, SY1, Nat.reduceAdd, Nat.reduceMul, Nat.reduceSub, Nat.reduceLeDiff, Nat.reduceEqDiff, Nat.reduceLT, Nat.reduceBEq, ↓reduceIte, Int.reduceLE, Int.reduceLT, Int.reduceToNat, Int.reduceNeg, reduceCtorEq, Int.reduceEq, SF0, SF1, SF2, DCg0, DCe0, DCe1, DCe2, DDb0, DBc0, DBc1, DHb0, DHb1, DHa0]
      refine ⟨i + 1, ⟨by omega, take_next hx hi.2 (by simp; omega)⟩, by omega, ?_⟩
      (refine wk_le ?_ ?_ ?_; (focus (simp [W8, leTm, leAV, AV.under, underL]; done)); (focus (simp [leL, OB.under, underL, AV.under]; done)); (focus (simp; done)))
  · simp (disch := omega) only [SX0, SX1, SX2, SX3, SX4, SX5, SX6, SX7, SX8, SU0, SY0, SY1, Nat.reduceAdd, Nat.reduceMul, Nat.reduceSub, Nat.reduceLeDiff, Nat.reduceEqDiff, Nat.reduceLT, Nat.reduceBEq, ↓reduceIte, Int.reduceLE, Int.reduceLT, Int.reduceToNat, Int.reduceNeg, reduceCtorEq, Int.reduceEq, SF0, SF1, SF2, DCg0, DCe0, DCe1, DCe2, DDb0, DBc0, DBc1, DHb0, DHb1, DHa0]
    exact fin_val ⟨by rw [placeI, ixOf_none (take_all (by omega) hi.2)], rfl⟩

theorem e_numbersI : Enters Try.prog 52 := enters_of Try.func52 (by kernel_rfl) (by kernel_rfl)
set_option maxRecDepth 8000 in
set_option maxHeartbeats 1000000 in
theorem numbersI_o (p : Plan) : ACalls Try.prog 52 [.agg p.cs] [] [] (fun r L => r = .os 0 1 0 p.numbs.length ∧ L = [.vec 1 (ints p.numbs)]) := by
  have K := knotsOf_c p
  have hl : (if p.wf = true ∧ p.nodes ≤ 255 then p.knots 0 (-1) else []).length ≤ 255 := by
    split
    · rename_i h; have := Plan.knots_le p h.1 0 (-1); omega
    · simp
  have e : p.numbs = fsts (if p.wf = true ∧ p.nodes ≤ 255 then p.knots 0 (-1) else []) := by unfold Plan.numbs; split <;> rfl
  rw [e]
  generalize (if p.wf = true ∧ p.nodes ≤ 255 then p.knots 0 (-1) else []) = l at *
  refine acalls_tm T_tt Try.func52 rfl e_numbersI 25 rfl (W8 _ .any .any .any .any .any .any .any (W8 .any .any .any .any .any .any .any .any (W8 .any .any .any .any .any .any .any .any [.any, .any]))) rfl (rv := [.tmp 2]) rfl (sx_sound (bl := []) T_tt _ _ _ ?_)
  simp (disch := omega) only [SX0, SX1, SX2, SX3, SX4, SX5, SX6, SX7, SX8, SU0, SY0, SY1, Nat.reduceAdd, Nat.reduceMul, Nat.reduceSub, Nat.reduceLeDiff, Nat.reduceEqDiff, Nat.reduceLT, Nat.reduceBEq, ↓reduceIte, Int.reduceLE, Int.reduceLT, Int.reduceToNat, Int.reduceNeg, reduceCtorEq, Int.reduceEq, SF0, SF1, SF2, DCg0, DCe0, DCe1, DCe2, DDb0, DBc0, DBc1, DHb0, DHb1, DHa0]
  refine acall_one K (by simp [freeL, AV.free, Plan.free]) rfl ?_
  simp (disch := omega) only [SX0, SX1, SX2, SX3, SX4, SX5, SX6, SX7, SX8, SU0, SY0, SY1, Nat.reduceAdd, Nat.reduceMul, Nat.reduceSub, Nat.reduceLeDiff, Nat.reduceEqDiff, Nat.reduceLT, Nat.reduceBEq, ↓reduceIte, Int.reduceLE, Int.reduceLT, Int.reduceToNat, Int.reduceNeg, reduceCtorEq, Int.reduceEq, SF0, SF1, SF2, DCg0, DCe0, DCe1, DCe2, DDb0, DBc0, DBc1, DHb0, DHb1, DHa0]
  refine awp_wk (wk_nil 5 1 (by decide) rfl) ?_
  simp (disch := omega) only [SX0, SX1, SX2, SX3, SX4, SX5, SX6, SX7, SX8, SU0, SY0, SY1, Nat.reduceAdd, Nat.reduceMul, Nat.reduceSub, Nat.reduceLeDiff, Nat.reduceEqDiff, Nat.reduceLT, Nat.reduceBEq, ↓reduceIte, Int.reduceLE, Int.reduceLT, Int.reduceToNat, Int.reduceNeg, reduceCtorEq, Int.reduceEq, SF0, SF1, SF2, DCg0, DCe0, DCe1, DCe2, DDb0, DBc0, DBc1, DHb0, DHb1, DHa0]
  with_reducible refine awp_loop_h 5 21 (fun (i : Nat) => [(5, .os 1 1 0 i), (13, .sl (l.map knotRow)), (14, .val (.int .i64 l.length)), (15, .val (.int .i64 i))]) (fun i => [.cells p.cs, .vec 1 (ints (fsts (l.take i)))]) (fun i => i ≤ l.length) (fun i => l.length - i) 0 (Nat.zero_le _) ?_ (fun i hi => sx_sound (bl := []) T_tt _ _ _ ?_)
  · simp (disch := omega) only [SX0, SX1, SX2, SX3, SX4, SX5, SX6, SX7, SX8, SU0, SY0, SY1, Nat.reduceAdd, Nat.reduceMul, Nat.reduceSub, Nat.reduceLeDiff, Nat.reduceEqDiff, Nat.reduceLT, Nat.reduceBEq, ↓reduceIte, Int.reduceLE, Int.reduceLT, Int.reduceToNat, Int.reduceNeg, reduceCtorEq, Int.reduceEq, SF0, SF1, SF2, DCg0, DCe0, DCe1, DCe2, DDb0, DBc0, DBc1, DHb0, DHb1, DHa0]
    (refine wk_le ?_ ?_ ?_; (focus (simp [W8, leTm, leAV, AV.under, underL, Plan.under, ints, fsts]; done)); (focus (simp [leL, OB.under, underL, AV.under, Plan.under, ints, fsts]; done)); (focus (simp; done)))
  simp (disch := omega) only [SX0, SX1, SX2, SX3, SX4, SX5, SX6, SX7, SX8, SU0, SY0, SY1, Nat.reduceAdd, Nat.reduceMul, Nat.reduceSub, Nat.reduceLeDiff, Nat.reduceEqDiff, Nat.reduceLT, Nat.reduceBEq, ↓reduceIte, Int.reduceLE, Int.reduceLT, Int.reduceToNat, Int.reduceNeg, reduceCtorEq, Int.reduceEq, SF0, SF1, SF2, DCg0, DCe0, DCe1, DCe2, DDb0, DBc0, DBc1, DHb0, DHb1, DHa0]
  refine br_dec (fun h1 => ?_) (fun h1 => ?_)
  · obtain ⟨q, hq⟩ := get_lt (l := l) (i := i) (by omega)
    have e : fsts (l.take (i + 1)) = fsts (l.take i) ++ [q.1] := by rw [List.take_add_one, hq]; simp [fsts]
    have hlen : (fsts (l.take i)).length = i := by simp [fsts]; omega
    simp (disch := omega) only [SX0, SX1, SX2, SX3, SX4, SX5, SX6, SX7, SX8, SU0, SY0, SY1, Nat.reduceAdd, Nat.reduceMul, Nat.reduceSub, Nat.reduceLeDiff, Nat.reduceEqDiff, Nat.reduceLT, Nat.reduceBEq, ↓reduceIte, Int.reduceLE, Int.reduceLT, Int.reduceToNat, Int.reduceNeg, reduceCtorEq, Int.reduceEq, SF0, SF1, SF2, DCg0, DCe0, DCe1, DCe2, DDb0, DBc0, DBc1, DHb0, DHb1, DHa0, hq]
    refine req (by omega) ?_
    simp (disch := omega) only [SX0, SX1, SX2, SX3, SX4, SX5, SX6, SX7, SX8, SU0, SY0, SY1, Nat.reduceAdd, Nat.reduceMul, Nat.reduceSub, Nat.reduceLeDiff, Nat.reduceEqDiff, Nat.reduceLT, Nat.reduceBEq, ↓reduceIte, Int.reduceLE, Int.reduceLT, Int.reduceToNat, Int.reduceNeg, reduceCtorEq, Int.reduceEq, SF0, SF1, SF2, DCg0, DCe0, DCe1, DCe2, DDb0, DBc0, DBc1, DHb0, DHb1, DHa0]
    refine ⟨i + 1, by omega, by omega, ?_⟩
    (refine wk_le ?_ ?_ ?_; (focus (simp [W8, leTm, leAV, AV.under, underL, Plan.under, e, ints]; done)); (focus (simp [leL, OB.under, underL, AV.under, Plan.under, e, ints]; done)); (focus (simp; done)))
  · have hi : i = l.length := by omega
    rw [hi, List.take_length]
    simp (disch := omega) only [SX0, SX1, SX2, SX3, SX4, SX5, SX6, SX7, SX8, SU0, SY0, SY1, Nat.reduceAdd, Nat.reduceMul, Nat.reduceSub, Nat.reduceLeDiff, Nat.reduceEqDiff, Nat.reduceLT, Nat.reduceBEq, ↓reduceIte, Int.reduceLE, Int.reduceLT, Int.reduceToNat, Int.reduceNeg, reduceCtorEq, Int.reduceEq, SF0, SF1, SF2, DCg0, DCe0, DCe1, DCe2, DDb0, DBc0, DBc1, DHb0, DHb1, DHa0]
    exact fin_own rfl ⟨by simp [fsts], rfl⟩
theorem numbersI_c (p : Plan) : ACalls Try.prog 52 [.agg p.cs] [] [] (fun r L => r = .sl (ints p.numbs) ∧ L = []) := (numbersI_o p).frozen (by simp [ints])

theorem e_stepLengthsI : Enters Try.prog 21 := enters_of Try.func21 (by kernel_rfl) (by kernel_rfl)
set_option maxRecDepth 8000 in
set_option maxHeartbeats 2000000 in
theorem stepLengthsI_o (k : Work) (p : Plan) (S : List Int) (hk : k.Ps.length < 2 ^ 40) (hS : S.length < 2 ^ 40) : ACalls Try.prog 21 [.agg k.cs, .agg p.cs, .sl (ints S)] [] [] (fun r L => r = .os 0 1 0 (p.stepL k S).length ∧ L = [.vec 1 (ints (p.stepL k S))]) := by
  refine acalls_tm T_tt Try.func21 rfl e_stepLengthsI 41 rfl (W8 _ _ _ .any .any .any .any .any (W8 .any .any .any .any .any .any .any .any (W8 .any .any .any .any .any .any .any .any (W8 .any .any .any .any .any .any .any .any (W8 .any .any .any .any .any .any .any .any [.any, .any, .any, .any]))))) rfl (rv := [.tmp 6]) rfl (sx_sound (bl := []) T_tt _ _ _ ?_)
  simp (disch := omega) only [SX0, SX1, SX2, SX3, SX4, SX5, SX6, SX7, SX8, SU0, SY0, SY1, Nat.reduceAdd, Nat.reduceMul, Nat.reduceSub, Nat.reduceLeDiff, Nat.reduceEqDiff, Nat.reduceLT, Nat.reduceBEq, ↓reduceIte, Int.reduceLE, Int.reduceLT, Int.reduceToNat, Int.reduceNeg, reduceCtorEq, Int.reduceEq, SF0, SF1, SF2, DCg0, DCe0, DCe1, DCe2, DDb0, DBc0, DBc1, DHb0, DHb1, DHa0]
  refine acall_one (validPlanI_c k p hk) (by simp [freeL, AV.free, Plan.free, Work.free]) rfl ?_
  simp (disch := omega) only [SX0, SX1, SX2, SX3, SX4, SX5, SX6, SX7, SX8, SU0, SY0, SY1, Nat.reduceAdd, Nat.reduceMul, Nat.reduceSub, Nat.reduceLeDiff, Nat.reduceEqDiff, Nat.reduceLT, Nat.reduceBEq, ↓reduceIte, Int.reduceLE, Int.reduceLT, Int.reduceToNat, Int.reduceNeg, reduceCtorEq, Int.reduceEq, SF0, SF1, SF2, DCg0, DCe0, DCe1, DCe2, DDb0, DBc0, DBc1, DHb0, DHb1, DHa0]
  refine br_ndec (fun hv => ?_) (fun hv => ?_)
  · have e : p.stepL k S = [] := by unfold Plan.stepL; rw [if_neg fun h => hv h.1]
    rw [e]
    simp (disch := omega) only [SX0, SX1, SX2, SX3, SX4, SX5, SX6, SX7, SX8, SU0, SY0, SY1, Nat.reduceAdd, Nat.reduceMul, Nat.reduceSub, Nat.reduceLeDiff, Nat.reduceEqDiff, Nat.reduceLT, Nat.reduceBEq, ↓reduceIte, Int.reduceLE, Int.reduceLT, Int.reduceToNat, Int.reduceNeg, reduceCtorEq, Int.reduceEq, SF0, SF1, SF2, DCg0, DCe0, DCe1, DCe2, DDb0, DBc0, DBc1, DHb0, DHb1, DHa0]
    exact fin_nilown 1 (by decide) ⟨rfl, rfl⟩
  simp (disch := omega) only [SX0, SX1, SX2, SX3, SX4, SX5, SX6, SX7, SX8, SU0, SY0, SY1, Nat.reduceAdd, Nat.reduceMul, Nat.reduceSub, Nat.reduceLeDiff, Nat.reduceEqDiff, Nat.reduceLT, Nat.reduceBEq, ↓reduceIte, Int.reduceLE, Int.reduceLT, Int.reduceToNat, Int.reduceNeg, reduceCtorEq, Int.reduceEq, SF0, SF1, SF2, DCg0, DCe0, DCe1, DCe2, DDb0, DBc0, DBc1, DHb0, DHb1, DHa0]
  refine acall_one (validStepsI_c p S hS) (by simp [freeL, AV.free, Plan.free]) rfl ?_
  simp (disch := omega) only [SX0, SX1, SX2, SX3, SX4, SX5, SX6, SX7, SX8, SU0, SY0, SY1, Nat.reduceAdd, Nat.reduceMul, Nat.reduceSub, Nat.reduceLeDiff, Nat.reduceEqDiff, Nat.reduceLT, Nat.reduceBEq, ↓reduceIte, Int.reduceLE, Int.reduceLT, Int.reduceToNat, Int.reduceNeg, reduceCtorEq, Int.reduceEq, SF0, SF1, SF2, DCg0, DCe0, DCe1, DCe2, DDb0, DBc0, DBc1, DHb0, DHb1, DHa0]
  refine br_ndec (fun hs => ?_) (fun hs => ?_)
  · have e : p.stepL k S = [] := by unfold Plan.stepL; rw [if_neg fun h => hs h.2]
    rw [e]
    simp (disch := omega) only [SX0, SX1, SX2, SX3, SX4, SX5, SX6, SX7, SX8, SU0, SY0, SY1, Nat.reduceAdd, Nat.reduceMul, Nat.reduceSub, Nat.reduceLeDiff, Nat.reduceEqDiff, Nat.reduceLT, Nat.reduceBEq, ↓reduceIte, Int.reduceLE, Int.reduceLT, Int.reduceToNat, Int.reduceNeg, reduceCtorEq, Int.reduceEq, SF0, SF1, SF2, DCg0, DCe0, DCe1, DCe2, DDb0, DBc0, DBc1, DHb0, DHb1, DHa0]
    exact fin_nilown 1 (by decide) ⟨rfl, rfl⟩
  have hin := fun n (h : n ∈ S) => placeI_in (vsteps_mem hs h)
  have e : p.stepL k S = S.map (lenAt (p.cutL k.sheet) (fsts (p.knots 0 (-1)))) := by unfold Plan.stepL; rw [if_pos ⟨hv, hs⟩]
  have N := numbersI_c p
  have C := cutLengthsI_c k p hk
  rw [cutLs_valid hv] at C
  have en : p.numbs = fsts (p.knots 0 (-1)) := by unfold Plan.numbs; rw [if_pos hs.1]
  rw [en] at N
  have hcl : (p.cutL k.sheet).length = (fsts (p.knots 0 (-1))).length := by rw [Plan.cutL_len p hs.1.1 k.sheet 0 (-1)]; simp [fsts]
  have hl255 : (fsts (p.knots 0 (-1))).length ≤ 255 := by have := Plan.knots_le p hs.1.1 0 (-1); have := hs.1.2; simp [fsts]; omega
  have hSl : S.length ≤ 255 := by have := Plan.knots_le p hs.1.1 0 (-1); have := hs.1.2; have := hs.2.1; omega
  rw [e]
  generalize p.cutL k.sheet = cuts at *
  generalize fsts (p.knots 0 (-1)) = nums at *
  simp (disch := omega) only [SX0, SX1, SX2, SX3, SX4, SX5, SX6, SX7, SX8, SU0, SY0, SY1, Nat.reduceAdd, Nat.reduceMul, Nat.reduceSub, Nat.reduceLeDiff, Nat.reduceEqDiff, Nat.reduceLT, Nat.reduceBEq, ↓reduceIte, Int.reduceLE, Int.reduceLT, Int.reduceToNat, Int.reduceNeg, reduceCtorEq, Int.reduceEq, SF0, SF1, SF2, DCg0, DCe0, DCe1, DCe2, DDb0, DBc0, DBc1, DHb0, DHb1, DHa0]
  refine awp_drawA T_tt mixed (by decide +kernel) (by kernel_rfl) (by kernel_rfl) ?_
  simp (disch := omega) only [SX0, SX1, SX2, SX3, SX4, SX5, SX6, SX7, SX8, SU0, SY0, SY1, Nat.reduceAdd, Nat.reduceMul, Nat.reduceSub, Nat.reduceLeDiff, Nat.reduceEqDiff, Nat.reduceLT, Nat.reduceBEq, ↓reduceIte, Int.reduceLE, Int.reduceLT, Int.reduceToNat, Int.reduceNeg, reduceCtorEq, Int.reduceEq, SF0, SF1, SF2, DCg0, DCe0, DCe1, DCe2, DDb0, DBc0, DBc1, DHb0, DHb1, DHa0]
  refine qc_one N (by simp [freeL, AV.free, Plan.free]) ?_
  simp (disch := omega) only [SX0, SX1, SX2, SX3, SX4, SX5, SX6, SX7, SX8, SU0, SY0, SY1, Nat.reduceAdd, Nat.reduceMul, Nat.reduceSub, Nat.reduceLeDiff, Nat.reduceEqDiff, Nat.reduceLT, Nat.reduceBEq, ↓reduceIte, Int.reduceLE, Int.reduceLT, Int.reduceToNat, Int.reduceNeg, reduceCtorEq, Int.reduceEq, SF0, SF1, SF2, DCg0, DCe0, DCe1, DCe2, DDb0, DBc0, DBc1, DHb0, DHb1, DHa0]
  refine qc_one C (by simp [freeL, AV.free, Plan.free, Work.free]) ?_
  simp (disch := omega) only [SX0, SX1, SX2, SX3, SX4, SX5, SX6, SX7, SX8, SU0, SY0, SY1, Nat.reduceAdd, Nat.reduceMul, Nat.reduceSub, Nat.reduceLeDiff, Nat.reduceEqDiff, Nat.reduceLT, Nat.reduceBEq, ↓reduceIte, Int.reduceLE, Int.reduceLT, Int.reduceToNat, Int.reduceNeg, reduceCtorEq, Int.reduceEq, SF0, SF1, SF2, DCg0, DCe0, DCe1, DCe2, DDb0, DBc0, DBc1, DHb0, DHb1, DHa0]
  refine awp_wk (wk_nil 9 1 (by decide) rfl) ?_
  simp (disch := omega) only [SX0, SX1, SX2, SX3, SX4, SX5, SX6, SX7, SX8, SU0, SY0, SY1, Nat.reduceAdd, Nat.reduceMul, Nat.reduceSub, Nat.reduceLeDiff, Nat.reduceEqDiff, Nat.reduceLT, Nat.reduceBEq, ↓reduceIte, Int.reduceLE, Int.reduceLT, Int.reduceToNat, Int.reduceNeg, reduceCtorEq, Int.reduceEq, SF0, SF1, SF2, DCg0, DCe0, DCe1, DCe2, DDb0, DBc0, DBc1, DHb0, DHb1, DHa0]
  with_reducible refine awp_loop_h 9 35 (fun (i : Nat) => [(9, .os 2 1 0 i), (27, .sl (ints S)), (28, .val (.int .i64 S.length)), (29, .val (.int .i64 i))]) (fun i => [.cells k.cs, .cells p.cs, .vec 1 (ints ((S.take i).map (lenAt cuts nums)))]) (fun i => i ≤ S.length) (fun i => S.length - i) 0 (Nat.zero_le _) ?_ (fun i hi => sx_sound (bl := []) T_tt _ _ _ ?_)
  · simp (disch := omega) only [SX0, SX1, SX2, SX3, SX4, SX5, SX6, SX7, SX8, SU0, SY0, SY1, Nat.reduceAdd, Nat.reduceMul, Nat.reduceSub, Nat.reduceLeDiff, Nat.reduceEqDiff, Nat.reduceLT, Nat.reduceBEq, ↓reduceIte, Int.reduceLE, Int.reduceLT, Int.reduceToNat, Int.reduceNeg, reduceCtorEq, Int.reduceEq, SF0, SF1, SF2, DCg0, DCe0, DCe1, DCe2, DDb0, DBc0, DBc1, DHb0, DHb1, DHa0]
    (refine wk_le ?_ ?_ ?_; (focus (simp [W8, leTm, leAV, AV.under, underL, Work.under, Plan.under, ints]; done)); (focus (simp [leL, OB.under, underL, AV.under, Work.under, Plan.under, ints]; done)); (focus (simp; done)))
  simp (disch := omega) only [SX0, SX1, SX2, SX3, SX4, SX5, SX6, SX7, SX8, SU0, SY0, SY1, Nat.reduceAdd, Nat.reduceMul, Nat.reduceSub, Nat.reduceLeDiff, Nat.reduceEqDiff, Nat.reduceLT, Nat.reduceBEq, ↓reduceIte, Int.reduceLE, Int.reduceLT, Int.reduceToNat, Int.reduceNeg, reduceCtorEq, Int.reduceEq, SF0, SF1, SF2, DCg0, DCe0, DCe1, DCe2, DDb0, DBc0, DBc1, DHb0, DHb1, DHa0]
  refine br_dec (fun h1 => ?_) (fun h1 => ?_)
  · obtain ⟨n, hn⟩ := get_lt (l := S) (i := i) (by omega)
    obtain ⟨b1, b2, _⟩ := hin n (List.mem_of_getElem? hn)
    obtain ⟨c, hc⟩ := get_lt (l := cuts) (i := (placeI nums n).toNat) (by omega)
    have ec : lenAt cuts nums n = c := by unfold lenAt; rw [List.getD_eq_getElem?_getD, hc]; rfl
    have e : (S.take (i + 1)).map (lenAt cuts nums) = (S.take i).map (lenAt cuts nums) ++ [c] := by rw [List.take_add_one, hn]; simp [ec]
    have hlen : ((S.take i).map (lenAt cuts nums)).length = i := by simp; omega
    have hlen2 : (S.take i).length = i := by simp; omega
    have hb1 : (0 ≤ placeI nums n) = True := eq_true b1
    simp (disch := omega) only [SX0, SX1, SX2, SX3, SX4, SX5, SX6, SX7, SX8, SU0, SY0, SY1, Nat.reduceAdd, Nat.reduceMul, Nat.reduceSub, Nat.reduceLeDiff, Nat.reduceEqDiff, Nat.reduceLT, Nat.reduceBEq, ↓reduceIte, Int.reduceLE, Int.reduceLT, Int.reduceToNat, Int.reduceNeg, reduceCtorEq, Int.reduceEq, SF0, SF1, SF2, DCg0, DCe0, DCe1, DCe2, DDb0, DBc0, DBc1, DHb0, DHb1, DHa0, hn]
    refine acall_one (indexI_c nums n (by omega)) rfl rfl ?_
    simp (disch := omega) only [SX0, SX1, SX2, SX3, SX4, SX5, SX6, SX7, SX8, SU0, SY0, SY1, Nat.reduceAdd, Nat.reduceMul, Nat.reduceSub, Nat.reduceLeDiff, Nat.reduceEqDiff, Nat.reduceLT, Nat.reduceBEq, ↓reduceIte, Int.reduceLE, Int.reduceLT, Int.reduceToNat, Int.reduceNeg, reduceCtorEq, Int.reduceEq, SF0, SF1, SF2, DCg0, DCe0, DCe1, DCe2, DDb0, DBc0, DBc1, DHb0, DHb1, DHa0, hb1, hc]
    refine req (by omega) ?_
    simp (disch := omega) only [SX0, SX1, SX2, SX3, SX4, SX5, SX6, SX7, SX8, SU0, SY0, SY1, Nat.reduceAdd, Nat.reduceMul, Nat.reduceSub, Nat.reduceLeDiff, Nat.reduceEqDiff, Nat.reduceLT, Nat.reduceBEq, ↓reduceIte, Int.reduceLE, Int.reduceLT, Int.reduceToNat, Int.reduceNeg, reduceCtorEq, Int.reduceEq, SF0, SF1, SF2, DCg0, DCe0, DCe1, DCe2, DDb0, DBc0, DBc1, DHb0, DHb1, DHa0]
    refine ⟨i + 1, by omega, by omega, ?_⟩
    (refine wk_le ?_ ?_ ?_; (focus (simp [W8, leTm, leAV, AV.under, underL, Work.under, Plan.under, e, ints]; done)); (focus (simp [leL, OB.under, underL, AV.under, Work.under, Plan.under, e, ints]; done)); (focus (simp; done)))
  · have hi : i = S.length := by omega
    rw [hi, List.take_length]
    simp (disch := omega) only [SX0, SX1, SX2, SX3, SX4, SX5, SX6, SX7, SX8, SU0, SY0, SY1, Nat.reduceAdd, Nat.reduceMul, Nat.reduceSub, Nat.reduceLeDiff, Nat.reduceEqDiff, Nat.reduceLT, Nat.reduceBEq, ↓reduceIte, Int.reduceLE, Int.reduceLT, Int.reduceToNat, Int.reduceNeg, reduceCtorEq, Int.reduceEq, SF0, SF1, SF2, DCg0, DCe0, DCe1, DCe2, DDb0, DBc0, DBc1, DHb0, DHb1, DHa0]
    exact fin_own rfl ⟨by simp, rfl⟩
theorem stepLengthsI_c (k : Work) (p : Plan) (S : List Int) (hk : k.Ps.length < 2 ^ 40) (hS : S.length < 2 ^ 40) : ACalls Try.prog 21 [.agg k.cs, .agg p.cs, .sl (ints S)] [] [] (fun r L => r = .sl (ints (p.stepL k S)) ∧ L = []) := (stepLengthsI_o k p S hk hS).frozen (by simp [ints])

theorem e_stepLengthsS : Enters Try.prog 17 := enters_of Try.func17 (by kernel_rfl) (by kernel_rfl)
set_option maxRecDepth 8000 in
set_option maxHeartbeats 2000000 in
theorem stepLengthsS_c (k : Work) (p : Plan) (S : List Int) (hk : k.Ps.length < 2 ^ 40) (hS : S.length < 2 ^ 40) : ACalls Try.prog 17 [.agg k.cs, .agg p.cs, .sl (ints S)] [] [] (fun r L => r = .sl (ints (p.stepL k S)) ∧ L = []) := by
  refine acalls_tm T_tt Try.func17 rfl e_stepLengthsS 46 rfl (W8 _ _ _ .any .any .any .any .any (W8 .any .any .any .any .any .any .any .any (W8 .any .any .any .any .any .any .any .any (W8 .any .any .any .any .any .any .any .any (W8 .any .any .any .any .any .any .any .any (W8 .any .any .any .any .any .any .any .any [.any])))))) rfl (rv := [.tmp 6]) rfl (sx_sound (bl := [29]) T_tt _ _ _ ?_)
  simp (disch := omega) only [SX0, SX1, SX2, SX3, SX4, SX5, SX6, SX7, SX8, SU0, SY0, SY1, Nat.reduceAdd, Nat.reduceMul, Nat.reduceSub, Nat.reduceLeDiff, Nat.reduceEqDiff, Nat.reduceLT, Nat.reduceBEq, ↓reduceIte, Int.reduceLE, Int.reduceLT, Int.reduceToNat, Int.reduceNeg, reduceCtorEq, Int.reduceEq, SF0, SF1, SF2, DCg0, DCe0, DCe1, DCe2, DDb0, DBc0, DBc1, DHb0, DHb1, DHa0]
  refine acall_one (validPlanS_c k p hk) (by simp [freeL, AV.free, Plan.free, Work.free]) rfl ?_
  simp (disch := omega) only [SX0, SX1, SX2, SX3, SX4, SX5, SX6, SX7, SX8, SU0, SY0, SY1, Nat.reduceAdd, Nat.reduceMul, Nat.reduceSub, Nat.reduceLeDiff, Nat.reduceEqDiff, Nat.reduceLT, Nat.reduceBEq, ↓reduceIte, Int.reduceLE, Int.reduceLT, Int.reduceToNat, Int.reduceNeg, reduceCtorEq, Int.reduceEq, SF0, SF1, SF2, DCg0, DCe0, DCe1, DCe2, DDb0, DBc0, DBc1, DHb0, DHb1, DHa0]
  refine br_ndec (fun hv => ?_) (fun hv => ?_)
  · have e : p.stepL k S = [] := by unfold Plan.stepL; rw [if_neg fun h => hv h.1]
    rw [e]
    simp (disch := omega) only [SX0, SX1, SX2, SX3, SX4, SX5, SX6, SX7, SX8, SU0, SY0, SY1, Nat.reduceAdd, Nat.reduceMul, Nat.reduceSub, Nat.reduceLeDiff, Nat.reduceEqDiff, Nat.reduceLT, Nat.reduceBEq, ↓reduceIte, Int.reduceLE, Int.reduceLT, Int.reduceToNat, Int.reduceNeg, reduceCtorEq, Int.reduceEq, SF0, SF1, SF2, DCg0, DCe0, DCe1, DCe2, DDb0, DBc0, DBc1, DHb0, DHb1, DHa0]
    exact fin_nilrow ⟨rfl, rfl⟩
  simp (disch := omega) only [SX0, SX1, SX2, SX3, SX4, SX5, SX6, SX7, SX8, SU0, SY0, SY1, Nat.reduceAdd, Nat.reduceMul, Nat.reduceSub, Nat.reduceLeDiff, Nat.reduceEqDiff, Nat.reduceLT, Nat.reduceBEq, ↓reduceIte, Int.reduceLE, Int.reduceLT, Int.reduceToNat, Int.reduceNeg, reduceCtorEq, Int.reduceEq, SF0, SF1, SF2, DCg0, DCe0, DCe1, DCe2, DDb0, DBc0, DBc1, DHb0, DHb1, DHa0]
  refine acall_one (validStepsS_c p hv.2.1 S hS) (by simp [freeL, AV.free, Plan.free]) rfl ?_
  simp (disch := omega) only [SX0, SX1, SX2, SX3, SX4, SX5, SX6, SX7, SX8, SU0, SY0, SY1, Nat.reduceAdd, Nat.reduceMul, Nat.reduceSub, Nat.reduceLeDiff, Nat.reduceEqDiff, Nat.reduceLT, Nat.reduceBEq, ↓reduceIte, Int.reduceLE, Int.reduceLT, Int.reduceToNat, Int.reduceNeg, reduceCtorEq, Int.reduceEq, SF0, SF1, SF2, DCg0, DCe0, DCe1, DCe2, DDb0, DBc0, DBc1, DHb0, DHb1, DHa0]
  refine br_ndec (fun hs => ?_) (fun hs => ?_)
  · have e : p.stepL k S = [] := by unfold Plan.stepL; rw [if_neg fun h => hs h.2]
    rw [e]
    simp (disch := omega) only [SX0, SX1, SX2, SX3, SX4, SX5, SX6, SX7, SX8, SU0, SY0, SY1, Nat.reduceAdd, Nat.reduceMul, Nat.reduceSub, Nat.reduceLeDiff, Nat.reduceEqDiff, Nat.reduceLT, Nat.reduceBEq, ↓reduceIte, Int.reduceLE, Int.reduceLT, Int.reduceToNat, Int.reduceNeg, reduceCtorEq, Int.reduceEq, SF0, SF1, SF2, DCg0, DCe0, DCe1, DCe2, DDb0, DBc0, DBc1, DHb0, DHb1, DHa0]
    exact fin_nilrow ⟨rfl, rfl⟩
  have hin := fun n (h : n ∈ S) => placeI_in (vsteps_mem hs h)
  have e : p.stepL k S = S.map (lenAt (p.cutL k.sheet) (fsts (p.knots 0 (-1)))) := by unfold Plan.stepL; rw [if_pos ⟨hv, hs⟩]
  have N := innerNodes_c p hs.1
  have C := (cutLengths0_n k _ p k.sheet (Nat.le_refl _) hv.2.1.1 (Work.sheet_sane hv.1) hv.2.2 hv.2.1.2).frozen (by simp [ints])
  have hcl : (p.cutL k.sheet).length = (fsts (p.knots 0 (-1))).length := by rw [Plan.cutL_len p hs.1.1 k.sheet 0 (-1)]; simp [fsts]
  have hl255 : (fsts (p.knots 0 (-1))).length ≤ 255 := by have := Plan.knots_le p hs.1.1 0 (-1); have := hs.1.2; simp [fsts]; omega
  have hSl : S.length ≤ 255 := by have := Plan.knots_le p hs.1.1 0 (-1); have := hs.1.2; have := hs.2.1; omega
  rw [e]
  generalize p.cutL k.sheet = cuts at *
  generalize fsts (p.knots 0 (-1)) = nums at *
  simp (disch := omega) only [SX0, SX1, SX2, SX3, SX4, SX5, SX6, SX7, SX8, SU0, SY0, SY1, Nat.reduceAdd, Nat.reduceMul, Nat.reduceSub, Nat.reduceLeDiff, Nat.reduceEqDiff, Nat.reduceLT, Nat.reduceBEq, ↓reduceIte, Int.reduceLE, Int.reduceLT, Int.reduceToNat, Int.reduceNeg, reduceCtorEq, Int.reduceEq, SF0, SF1, SF2, DCg0, DCe0, DCe1, DCe2, DDb0, DBc0, DBc1, DHb0, DHb1, DHa0]
  refine acall_one N (by simp [freeL, AV.free, Plan.free]) rfl ?_
  simp (disch := omega) only [SX0, SX1, SX2, SX3, SX4, SX5, SX6, SX7, SX8, SU0, SY0, SY1, Nat.reduceAdd, Nat.reduceMul, Nat.reduceSub, Nat.reduceLeDiff, Nat.reduceEqDiff, Nat.reduceLT, Nat.reduceBEq, ↓reduceIte, Int.reduceLE, Int.reduceLT, Int.reduceToNat, Int.reduceNeg, reduceCtorEq, Int.reduceEq, SF0, SF1, SF2, DCg0, DCe0, DCe1, DCe2, DDb0, DBc0, DBc1, DHb0, DHb1, DHa0]
  refine acall_one C (by simp [freeL, AV.free, Plan.free]) rfl ?_
  simp (disch := omega) only [SX0, SX1, SX2, SX3, SX4, SX5, SX6, SX7, SX8, SU0, SY0, SY1, Nat.reduceAdd, Nat.reduceMul, Nat.reduceSub, Nat.reduceLeDiff, Nat.reduceEqDiff, Nat.reduceLT, Nat.reduceBEq, ↓reduceIte, Int.reduceLE, Int.reduceLT, Int.reduceToNat, Int.reduceNeg, reduceCtorEq, Int.reduceEq, SF0, SF1, SF2, DCg0, DCe0, DCe1, DCe2, DDb0, DBc0, DBc1, DHb0, DHb1, DHa0]
  with_reducible refine awp_loop_h 9 40 (fun (i : Nat) => [(9, .os 2 1 0 i), (10, .val (.int .i64 i))]) (fun i => [.cells k.cs, .cells p.cs, .vec 1 (ints ((S.take i).map (lenAt cuts nums)))]) (fun i => i ≤ S.length) (fun i => S.length - i) 0 (Nat.zero_le _) ?_ (fun i hi => sx_sound (bl := []) T_tt _ _ _ ?_)
  · simp (disch := omega) only [SX0, SX1, SX2, SX3, SX4, SX5, SX6, SX7, SX8, SU0, SY0, SY1, Nat.reduceAdd, Nat.reduceMul, Nat.reduceSub, Nat.reduceLeDiff, Nat.reduceEqDiff, Nat.reduceLT, Nat.reduceBEq, ↓reduceIte, Int.reduceLE, Int.reduceLT, Int.reduceToNat, Int.reduceNeg, reduceCtorEq, Int.reduceEq, SF0, SF1, SF2, DCg0, DCe0, DCe1, DCe2, DDb0, DBc0, DBc1, DHb0, DHb1, DHa0]
    (refine wk_le ?_ ?_ ?_; (focus (simp [W8, leTm, leAV, AV.under, underL, Work.under, Plan.under, ints]; done)); (focus (simp [leL, OB.under, underL, AV.under, Work.under, Plan.under, ints]; done)); (focus (simp; done)))
  simp (disch := omega) only [SX0, SX1, SX2, SX3, SX4, SX5, SX6, SX7, SX8, SU0, SY0, SY1, Nat.reduceAdd, Nat.reduceMul, Nat.reduceSub, Nat.reduceLeDiff, Nat.reduceEqDiff, Nat.reduceLT, Nat.reduceBEq, ↓reduceIte, Int.reduceLE, Int.reduceLT, Int.reduceToNat, Int.reduceNeg, reduceCtorEq, Int.reduceEq, SF0, SF1, SF2, DCg0, DCe0, DCe1, DCe2, DDb0, DBc0, DBc1, DHb0, DHb1, DHa0]
  refine br_dec (fun h1 => ?_) (fun h1 => ?_)
  · obtain ⟨n, hn⟩ := get_lt (l := S) (i := i) (by omega)
    obtain ⟨b1, b2, _⟩ := hin n (List.mem_of_getElem? hn)
    obtain ⟨c, hc⟩ := get_lt (l := cuts) (i := (placeI nums n).toNat) (by omega)
    have ec : lenAt cuts nums n = c := by unfold lenAt; rw [List.getD_eq_getElem?_getD, hc]; rfl
    have e : (S.take (i + 1)).map (lenAt cuts nums) = (S.take i).map (lenAt cuts nums) ++ [c] := by rw [List.take_add_one, hn]; simp [ec]
    have hlen : ((S.take i).map (lenAt cuts nums)).length = i := by simp; omega
    have hlen2 : (S.take i).length = i := by simp; omega
    have hb1 : (0 ≤ placeI nums n) = True := eq_true b1
    simp (disch := omega) only [SX0, SX1, SX2, SX3, SX4, SX5, SX6, SX7, SX8, SU0, SY0, SY1, Nat.reduceAdd, Nat.reduceMul, Nat.reduceSub, Nat.reduceLeDiff, Nat.reduceEqDiff, Nat.reduceLT, Nat.reduceBEq, ↓reduceIte, Int.reduceLE, Int.reduceLT, Int.reduceToNat, Int.reduceNeg, reduceCtorEq, Int.reduceEq, SF0, SF1, SF2, DCg0, DCe0, DCe1, DCe2, DDb0, DBc0, DBc1, DHb0, DHb1, DHa0, hn]
    refine acall_one (placeIn_c nums n (by omega)) rfl rfl ?_
    simp (disch := omega) only [SX0, SX1, SX2, SX3, SX4, SX5, SX6, SX7, SX8, SU0, SY0, SY1, Nat.reduceAdd, Nat.reduceMul, Nat.reduceSub, Nat.reduceLeDiff, Nat.reduceEqDiff, Nat.reduceLT, Nat.reduceBEq, ↓reduceIte, Int.reduceLE, Int.reduceLT, Int.reduceToNat, Int.reduceNeg, reduceCtorEq, Int.reduceEq, SF0, SF1, SF2, DCg0, DCe0, DCe1, DCe2, DDb0, DBc0, DBc1, DHb0, DHb1, DHa0, hb1, hc]
    refine req (by omega) ?_
    simp (disch := omega) only [SX0, SX1, SX2, SX3, SX4, SX5, SX6, SX7, SX8, SU0, SY0, SY1, Nat.reduceAdd, Nat.reduceMul, Nat.reduceSub, Nat.reduceLeDiff, Nat.reduceEqDiff, Nat.reduceLT, Nat.reduceBEq, ↓reduceIte, Int.reduceLE, Int.reduceLT, Int.reduceToNat, Int.reduceNeg, reduceCtorEq, Int.reduceEq, SF0, SF1, SF2, DCg0, DCe0, DCe1, DCe2, DDb0, DBc0, DBc1, DHb0, DHb1, DHa0]
    refine ⟨i + 1, by omega, by omega, ?_⟩
    (refine wk_le ?_ ?_ ?_; (focus (simp [W8, leTm, leAV, AV.under, underL, Work.under, Plan.under, e, ints]; done)); (focus (simp [leL, OB.under, underL, AV.under, Work.under, Plan.under, e, ints]; done)); (focus (simp; done)))
  · have hi : i = S.length := by omega
    rw [hi, List.take_length]
    simp (disch := omega) only [SX0, SX1, SX2, SX3, SX4, SX5, SX6, SX7, SX8, SU0, SY0, SY1, Nat.reduceAdd, Nat.reduceMul, Nat.reduceSub, Nat.reduceLeDiff, Nat.reduceEqDiff, Nat.reduceLT, Nat.reduceBEq, ↓reduceIte, Int.reduceLE, Int.reduceLT, Int.reduceToNat, Int.reduceNeg, reduceCtorEq, Int.reduceEq, SF0, SF1, SF2, DCg0, DCe0, DCe1, DCe2, DDb0, DBc0, DBc1, DHb0, DHb1, DHa0]
    exact fin_row rfl (by simp) ⟨rfl, rfl⟩

end Go.Pc
