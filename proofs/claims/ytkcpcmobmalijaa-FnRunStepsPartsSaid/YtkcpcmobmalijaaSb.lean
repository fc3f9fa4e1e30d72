/- The reference's steps: numbers of cuts, those above them, valid steps. -/
import Derived.Test.YtkcpcmobmalijaaSa
import Derived.Test.YtkcpcmobmalijaaHb
set_option linter.unusedSimpArgs false
set_option linter.unusedVariables false
namespace Go.Pc
open Go Go.Proofs

/-- Where a number is. -/
def placeI (l : List Int) (n : Int) : Int := ixOf (fun x => decide (x = n)) l
theorem placeI_neg {l : List Int} {n : Int} : placeI l n < 0 ↔ n ∉ l := by
  unfold placeI
  rcases ixOf_find (g := fun x => decide (x = n)) (l := l) with ⟨h1, h2⟩ | ⟨i, x, h1, h2, h3⟩
  · rw [h1]
    rw [List.find?_eq_none] at h2
    exact ⟨fun _ hm => h2 n hm (by simp), fun _ => by omega⟩
  · rw [h1]
    have := List.find?_some h3
    simp only [decide_eq_true_eq] at this
    subst this
    exact ⟨fun h => by omega, fun h => absurd (List.mem_of_getElem? h2) h⟩

theorem e_placeIn : Enters Try.prog 116 := enters_of Try.func116 (by kernel_rfl) (by kernel_rfl)
theorem placeIn_c (l : List Int) (n : Int) (hl : l.length < 2 ^ 40) : ACalls Try.prog 116 [.sl (ints l), .val (.int .i64 n)] [] [] (fun r L => r = .val (.int .i64 (placeI l n)) ∧ L = []) := by
  refine acalls_tm T_tt Try.func116 rfl e_placeIn 17 rfl (W8 _ _ .any .any .any .any .any .any (W8 .any .any .any .any .any .any .any .any [.any, .any, .any])) rfl (rv := [.tmp 4]) rfl (sx_sound (bl := []) T_tt _ _ _ ?_)
  simp (disch := omega) only [SX0, SX1, SX2, SX3, SX4, SX5, SX6, SX7, SX8, SU0, SY0, SY1, Nat.reduceAdd, Nat.reduceMul, Nat.reduceSub, Nat.reduceLeDiff, Nat.reduceEqDiff, Nat.reduceLT, Nat.reduceBEq, ↓reduceIte, Int.reduceLE, Int.reduceLT, Int.reduceToNat, Int.reduceNeg, reduceCtorEq, Int.reduceEq, SF0, SF1, SF2, DCg0, DCe0, DCe1, DCe2, DDb0, DBc0, DBc1, DHb0, DHb1, DHa0]
  with_reducible refine awp_loop_h 6 13 (fun (i : Nat) => [(5, .val (.int .i64 i))]) (fun _ => []) (fun i => i ≤ l.length ∧ ∀ x ∈ l.take i, decide (x = n) = false) (fun i => l.length - i) 0 ⟨Nat.zero_le _, by simp⟩ ?_ (fun i hi => sx_sound (bl := []) T_tt _ _ _ ?_)
  · simp (disch := omega) only [SX0, SX1, SX2, SX3, SX4, SX5, SX6, SX7, SX8, SU0, SY0, SY1, Nat.reduceAdd, Nat.reduceMul, Nat.reduceSub, Nat.reduceLeDiff, Nat.reduceEqDiff, Nat.reduceLT, Nat.reduceBEq, ↓reduceIte, Int.reduceLE, Int.reduceLT, Int.reduceToNat, Int.reduceNeg, reduceCtorEq, Int.reduceEq, SF0, SF1, SF2, DCg0, DCe0, DCe1, DCe2, DDb0, DBc0, DBc1, DHb0, DHb1, DHa0]
    (refine wk_le ?_ ?_ ?_; (focus (simp [W8, leTm, leAV, AV.under, underL]; done)); (focus (simp [leL, OB.under, underL, AV.under]; done)); (focus (simp; done)))
  simp (disch := omega) only [SX0, SX1, SX2, SX3, SX4, SX5, SX6, SX7, SX8, SU0, SY0, SY1, Nat.reduceAdd, Nat.reduceMul, Nat.reduceSub, Nat.reduceLeDiff, Nat.reduceEqDiff, Nat.reduceLT, Nat.reduceBEq, ↓reduceIte, Int.reduceLE, Int.reduceLT, Int.reduceToNat, Int.reduceNeg, reduceCtorEq, Int.reduceEq, SF0, SF1, SF2, DCg0, DCe0, DCe1, DCe2, DDb0, DBc0, DBc1, DHb0, DHb1, DHa0]
  refine br_dec (fun h1 => ?_) (fun h1 => ?_)
  · obtain ⟨x, hx⟩ := get_lt (l := l) (i := i) (by omega)
    simp (disch := omega) only [SX0, SX1, SX2, SX3, SX4, SX5, SX6, SX7, SX8, SU0, SY0, SY1, Nat.reduceAdd, Nat.reduceMul, Nat.reduceSub, Nat.reduceLeDiff, Nat.reduceEqDiff, Nat.reduceLT, Nat.reduceBEq, ↓reduceIte, Int.reduceLE, Int.reduceLT, Int.reduceToNat, Int.reduceNeg, reduceCtorEq, Int.reduceEq, SF0, SF1, SF2, DCg0, DCe0, DCe1, DCe2, DDb0, DBc0, DBc1, DHb0, DHb1, DHa0, hx]
    refine br_dec (fun h2 => ?_) (fun h2 => ?_)
    · simp (disch := omega) only [SX0, SX1, SX2, SX3, SX4, SX5, SX6, SX7, SX8, SU0, SY0, SY1, Nat.reduceAdd, Nat.reduceMul, Nat.reduceSub, Nat.reduceLeDiff, Nat.reduceEqDiff, Nat.reduceLT, Nat.reduceBEq, ↓reduceIte, Int.reduceLE, Int.reduceLT, Int.reduceToNat, Int.reduceNeg, reduceCtorEq, Int.reduceEq, SF0, SF1, SF2, DCg0, DCe0, DCe1, DCe2, DDb0, DBc0, DBc1, DHb0, DHb1, DHa0]
      exact fin_val ⟨by rw [placeI, ixOf_at hx hi.2 (by simp [h2])], rfl⟩
    · simp (disch := omega) only [SX0, SX1, SX2, SX3, SX4, SX5, SX6, SX7, SX8, SU0, SY0, SY1, Nat.reduceAdd, Nat.reduceMul, Nat.reduceSub, Nat.reduceLeDiff, Nat.reduceEqDiff, Nat.reduceLT, Nat.reduceBEq, ↓reduceIte, Int.reduceLE, Int.reduceLT, Int.reduceToNat, Int.reduceNeg, reduceCtorEq, Int.reduceEq, SF0, SF1, SF2, DCg0, DCe0, DCe1, DCe2, DDb0, DBc0, DBc1, DHb0, DHb1, DHa0]
      refine ⟨i + 1, ⟨by omega, take_next hx hi.2 (by simp [h2])⟩, by omega, ?_⟩
      (refine wk_le ?_ ?_ ?_; (focus (simp [W8, leTm, leAV, AV.under, underL]; done)); (focus (simp [leL, OB.under, underL, AV.under]; done)); (focus (simp; done)))
  · simp (disch := omega) only [SX0, SX1, SX2, SX3, SX4, SX5, SX6, SX7, SX8, SU0, SY0, SY1, Nat.reduceAdd, Nat.reduceMul, Nat.reduceSub, Nat.reduceLeDiff, Nat.reduceEqDiff, Nat.reduceLT, Nat.reduceBEq, ↓reduceIte, Int.reduceLE, Int.reduceLT, Int.reduceToNat, Int.reduceNeg, reduceCtorEq, Int.reduceEq, SF0, SF1, SF2, DCg0, DCe0, DCe1, DCe2, DDb0, DBc0, DBc1, DHb0, DHb1, DHa0]
    exact fin_val ⟨by rw [placeI, ixOf_none (take_all (by omega) hi.2)], rfl⟩

theorem intRows {u : List Int} : ∀ c ∈ u.map (fun x => [AV.val (.int .i64 x)]), c.length = 1 ∧ c.all AV.one = true ∧ c.all AV.pure = true := fun c hc => by
  obtain ⟨q, _, rfl⟩ := List.mem_map.1 hc
  exact ⟨rfl, rfl, rfl⟩

def fsts (ks : List (Int × Int)) : List Int := ks.map Prod.fst
def snds (ks : List (Int × Int)) : List Int := ks.map Prod.snd

theorem Plan.size_wf {p : Plan} (h : p.wf = true ∧ p.nodes ≤ 255) : p.size = p.nodes := by unfold Plan.size; rw [if_pos h]

theorem e_innerNodes : Enters Try.prog 114 := enters_of Try.func114 (by kernel_rfl) (by kernel_rfl)
set_option maxHeartbeats 4000000 in
theorem innerNodes_n : ∀ (n : Nat) (p : Plan) (m a : Int), p.nodes ≤ n → p.wf = true → p.nodes ≤ 255 → 0 ≤ m ∧ m + p.nodes ≤ 1000 →
    ACalls Try.prog 114 [.agg p.cs, .val (.int .i64 m)] [] [] (fun r L => r = .os 0 1 0 (fsts (p.knots m a)).length ∧ L = [.vec 1 (ints (fsts (p.knots m a)))]) := by
  intro n
  induction n with
  | zero => intro p m a h; have := p.nodes_pos; omega
  | succ n ih =>
  intro p m a hn hw h255 hm
  refine acalls_tm T_tt Try.func114 rfl e_innerNodes 33 rfl (W8 _ _ .any .any .any .any .any .any (W8 .any .any .any .any .any .any .any .any (W8 .any .any .any .any .any .any .any .any (W8 .any .any .any .any .any .any .any .any [.any, .any, .any])))) rfl (rv := [.tmp 4]) rfl (sx_sound (bl := [9,11]) T_tt _ _ _ ?_)
  simp (disch := omega) only [SX0, SX1, SX2, SX3, SX4, SX5, SX6, SX7, SX8, SU0, SY0, SY1, Nat.reduceAdd, Nat.reduceMul, Nat.reduceSub, Nat.reduceLeDiff, Nat.reduceEqDiff, Nat.reduceLT, Nat.reduceBEq, ↓reduceIte, Int.reduceLE, Int.reduceLT, Int.reduceToNat, Int.reduceNeg, reduceCtorEq, Int.reduceEq, SF0, SF1, SF2, DCg0, DCe0, DCe1, DCe2, DDb0, DBc0, DBc1, DHb0, DHb1, DHa0]
  refine acall_one (isCutS_c p) (by simp [freeL, AV.free, Plan.free]) rfl ?_
  simp (disch := omega) only [SX0, SX1, SX2, SX3, SX4, SX5, SX6, SX7, SX8, SU0, SY0, SY1, Nat.reduceAdd, Nat.reduceMul, Nat.reduceSub, Nat.reduceLeDiff, Nat.reduceEqDiff, Nat.reduceLT, Nat.reduceBEq, ↓reduceIte, Int.reduceLE, Int.reduceLT, Int.reduceToNat, Int.reduceNeg, reduceCtorEq, Int.reduceEq, SF0, SF1, SF2, DCg0, DCe0, DCe1, DCe2, DDb0, DBc0, DBc1, DHb0, DHb1, DHa0]
  refine br_ndec (fun hc => ?_) (fun hc => ?_)
  · simp (disch := omega) only [SX0, SX1, SX2, SX3, SX4, SX5, SX6, SX7, SX8, SU0, SY0, SY1, Nat.reduceAdd, Nat.reduceMul, Nat.reduceSub, Nat.reduceLeDiff, Nat.reduceEqDiff, Nat.reduceLT, Nat.reduceBEq, ↓reduceIte, Int.reduceLE, Int.reduceLT, Int.reduceToNat, Int.reduceNeg, reduceCtorEq, Int.reduceEq, SF0, SF1, SF2, DCg0, DCe0, DCe1, DCe2, DDb0, DBc0, DBc1, DHb0, DHb1, DHa0]
    exact fin_ks [1] (.os 0 1 0 0) [.vec 1 []] ⟨by rw [Plan.knots_leaf hc]; rfl, by rw [Plan.knots_leaf hc]; rfl⟩ (by simp [AV.ren, nameK]) (by simp [keepL, nameK, OB.ren]) (by simp) (by simp) (by simp)
  obtain ⟨x, y, hk, hx, hy, nx, ny⟩ := Plan.two hw hc
  have hnn := Plan.nodes_two hk
  have i1 := ih x (m + 1) m (by omega) hx (by omega) (by omega)
  have i2 := ih y (m + 1 + x.nodes) m (by omega) hy (by omega) (by omega)
  have S := planSizeS_c x
  rw [Plan.size_wf ⟨hx, by omega⟩] at S
  have l1 := Plan.knots_le x hx (m + 1) m
  have l2 := Plan.knots_le y hy (m + 1 + x.nodes) m
  have ek : fsts (p.knots m a) = m :: (fsts (x.knots (m + 1) m) ++ fsts (y.knots (m + 1 + x.nodes) m)) := by rw [Plan.knots_cut hc hk]; simp [fsts]
  rw [ek]
  have l1' : (fsts (x.knots (m + 1) m)).length ≤ 255 := by simp [fsts]; omega
  have l2' : (fsts (y.knots (m + 1 + x.nodes) m)).length ≤ 255 := by simp [fsts]; omega
  generalize fsts (x.knots (m + 1) m) = u1 at *
  generalize fsts (y.knots (m + 1 + x.nodes) m) = u2 at *
  simp (disch := omega) only [SX0, SX1, SX2, SX3, SX4, SX5, SX6, SX7, SX8, SU0, SY0, SY1, Nat.reduceAdd, Nat.reduceMul, Nat.reduceSub, Nat.reduceLeDiff, Nat.reduceEqDiff, Nat.reduceLT, Nat.reduceBEq, ↓reduceIte, Int.reduceLE, Int.reduceLT, Int.reduceToNat, Int.reduceNeg, reduceCtorEq, Int.reduceEq, SF0, SF1, SF2, DCg0, DCe0, DCe1, DCe2, DDb0, DBc0, DBc1, DHb0, DHb1, DHa0, hk]
  refine acall_one (i1.frozen (by simp [ints])) (by simp [freeL, AV.free, Plan.free]) rfl ?_
  simp (disch := omega) only [SX0, SX1, SX2, SX3, SX4, SX5, SX6, SX7, SX8, SU0, SY0, SY1, Nat.reduceAdd, Nat.reduceMul, Nat.reduceSub, Nat.reduceLeDiff, Nat.reduceEqDiff, Nat.reduceLT, Nat.reduceBEq, ↓reduceIte, Int.reduceLE, Int.reduceLT, Int.reduceToNat, Int.reduceNeg, reduceCtorEq, Int.reduceEq, SF0, SF1, SF2, DCg0, DCe0, DCe1, DCe2, DDb0, DBc0, DBc1, DHb0, DHb1, DHa0]
  refine req intRows ?_
  simp (disch := omega) only [SX0, SX1, SX2, SX3, SX4, SX5, SX6, SX7, SX8, SU0, SY0, SY1, Nat.reduceAdd, Nat.reduceMul, Nat.reduceSub, Nat.reduceLeDiff, Nat.reduceEqDiff, Nat.reduceLT, Nat.reduceBEq, ↓reduceIte, Int.reduceLE, Int.reduceLT, Int.reduceToNat, Int.reduceNeg, reduceCtorEq, Int.reduceEq, SF0, SF1, SF2, DCg0, DCe0, DCe1, DCe2, DDb0, DBc0, DBc1, DHb0, DHb1, DHa0]
  refine req (by omega) ?_
  simp (disch := omega) only [SX0, SX1, SX2, SX3, SX4, SX5, SX6, SX7, SX8, SU0, SY0, SY1, Nat.reduceAdd, Nat.reduceMul, Nat.reduceSub, Nat.reduceLeDiff, Nat.reduceEqDiff, Nat.reduceLT, Nat.reduceBEq, ↓reduceIte, Int.reduceLE, Int.reduceLT, Int.reduceToNat, Int.reduceNeg, reduceCtorEq, Int.reduceEq, SF0, SF1, SF2, DCg0, DCe0, DCe1, DCe2, DDb0, DBc0, DBc1, DHb0, DHb1, DHa0]
  refine awp_float (bl := []) T_tt mixed [0] [1, 2, 3, 4, 5, 6, 7, 8, 9, 10, 11, 12, 13] [(0, []), (14, [(1, .f 21), (2, .f 22), (3, .f 23), (4, .f 24), (5, .f 25), (6, .f 26), (7, .f 27), (8, .f 28), (9, .f 29), (10, .f 30), (11, .f 31), (12, .f 32), (13, .f 33)]), (15, [])] [] (by kernel_rfl) (by kernel_rfl) ?_
  simp (disch := omega) only [SX0, SX1, SX2, SX3, SX4, SX5, SX6, SX7, SX8, SU0, SY0, SY1, Nat.reduceAdd, Nat.reduceMul, Nat.reduceSub, Nat.reduceLeDiff, Nat.reduceEqDiff, Nat.reduceLT, Nat.reduceBEq, ↓reduceIte, Int.reduceLE, Int.reduceLT, Int.reduceToNat, Int.reduceNeg, reduceCtorEq, Int.reduceEq, SF0, SF1, SF2, DCg0, DCe0, DCe1, DCe2, DDb0, DBc0, DBc1, DHb0, DHb1, DHa0, hk]
  refine qc_one S (by simp [freeL, AV.free, Plan.free]) ?_
  simp (disch := omega) only [SX0, SX1, SX2, SX3, SX4, SX5, SX6, SX7, SX8, SU0, SY0, SY1, Nat.reduceAdd, Nat.reduceMul, Nat.reduceSub, Nat.reduceLeDiff, Nat.reduceEqDiff, Nat.reduceLT, Nat.reduceBEq, ↓reduceIte, Int.reduceLE, Int.reduceLT, Int.reduceToNat, Int.reduceNeg, reduceCtorEq, Int.reduceEq, SF0, SF1, SF2, DCg0, DCe0, DCe1, DCe2, DDb0, DBc0, DBc1, DHb0, DHb1, DHa0, hk]
  refine qc_one (i2.frozen (by simp [ints])) (by simp [freeL, AV.free, Plan.free]) ?_
  simp (disch := omega) only [SX0, SX1, SX2, SX3, SX4, SX5, SX6, SX7, SX8, SU0, SY0, SY1, Nat.reduceAdd, Nat.reduceMul, Nat.reduceSub, Nat.reduceLeDiff, Nat.reduceEqDiff, Nat.reduceLT, Nat.reduceBEq, ↓reduceIte, Int.reduceLE, Int.reduceLT, Int.reduceToNat, Int.reduceNeg, reduceCtorEq, Int.reduceEq, SF0, SF1, SF2, DCg0, DCe0, DCe1, DCe2, DDb0, DBc0, DBc1, DHb0, DHb1, DHa0, hk]
  refine qc_one S (by simp [freeL, AV.free, Plan.free]) ?_
  simp (disch := omega) only [SX0, SX1, SX2, SX3, SX4, SX5, SX6, SX7, SX8, SU0, SY0, SY1, Nat.reduceAdd, Nat.reduceMul, Nat.reduceSub, Nat.reduceLeDiff, Nat.reduceEqDiff, Nat.reduceLT, Nat.reduceBEq, ↓reduceIte, Int.reduceLE, Int.reduceLT, Int.reduceToNat, Int.reduceNeg, reduceCtorEq, Int.reduceEq, SF0, SF1, SF2, DCg0, DCe0, DCe1, DCe2, DDb0, DBc0, DBc1, DHb0, DHb1, DHa0, hk]
  refine qc_one (i2.frozen (by simp [ints])) (by simp [freeL, AV.free, Plan.free]) ?_
  simp (disch := omega) only [SX0, SX1, SX2, SX3, SX4, SX5, SX6, SX7, SX8, SU0, SY0, SY1, Nat.reduceAdd, Nat.reduceMul, Nat.reduceSub, Nat.reduceLeDiff, Nat.reduceEqDiff, Nat.reduceLT, Nat.reduceBEq, ↓reduceIte, Int.reduceLE, Int.reduceLT, Int.reduceToNat, Int.reduceNeg, reduceCtorEq, Int.reduceEq, SF0, SF1, SF2, DCg0, DCe0, DCe1, DCe2, DDb0, DBc0, DBc1, DHb0, DHb1, DHa0]
  refine req intRows ?_
  simp (disch := omega) only [SX0, SX1, SX2, SX3, SX4, SX5, SX6, SX7, SX8, SU0, SY0, SY1, Nat.reduceAdd, Nat.reduceMul, Nat.reduceSub, Nat.reduceLeDiff, Nat.reduceEqDiff, Nat.reduceLT, Nat.reduceBEq, ↓reduceIte, Int.reduceLE, Int.reduceLT, Int.reduceToNat, Int.reduceNeg, reduceCtorEq, Int.reduceEq, SF0, SF1, SF2, DCg0, DCe0, DCe1, DCe2, DDb0, DBc0, DBc1, DHb0, DHb1, DHa0]
  refine req (by omega) ?_
  simp (disch := omega) only [SX0, SX1, SX2, SX3, SX4, SX5, SX6, SX7, SX8, SU0, SY0, SY1, Nat.reduceAdd, Nat.reduceMul, Nat.reduceSub, Nat.reduceLeDiff, Nat.reduceEqDiff, Nat.reduceLT, Nat.reduceBEq, ↓reduceIte, Int.reduceLE, Int.reduceLT, Int.reduceToNat, Int.reduceNeg, reduceCtorEq, Int.reduceEq, SF0, SF1, SF2, DCg0, DCe0, DCe1, DCe2, DDb0, DBc0, DBc1, DHb0, DHb1, DHa0]
  exact fin_ks [1] (.os 0 1 0 (m :: (u1 ++ u2)).length) [.vec 1 (ints (m :: (u1 ++ u2)))] ⟨rfl, rfl⟩ (by simp [AV.ren, nameK]; omega) (by simp [keepL, nameK, OB.ren, ints]) (by simp) (by simp) (by simp)

theorem e_aboves : Enters Try.prog 115 := enters_of Try.func115 (by kernel_rfl) (by kernel_rfl)
set_option maxHeartbeats 4000000 in
theorem aboves_n : ∀ (n : Nat) (p : Plan) (m a : Int), p.nodes ≤ n → p.wf = true → p.nodes ≤ 255 → 0 ≤ m ∧ m + p.nodes ≤ 1000 →
    ACalls Try.prog 115 [.agg p.cs, .val (.int .i64 m), .val (.int .i64 a)] [] [] (fun r L => r = .os 0 1 0 (snds (p.knots m a)).length ∧ L = [.vec 1 (ints (snds (p.knots m a)))]) := by
  intro n
  induction n with
  | zero => intro p m a h; have := p.nodes_pos; omega
  | succ n ih =>
  intro p m a hn hw h255 hm
  refine acalls_tm T_tt Try.func115 rfl e_aboves 36 rfl (W8 _ _ _ .any .any .any .any .any (W8 .any .any .any .any .any .any .any .any (W8 .any .any .any .any .any .any .any .any (W8 .any .any .any .any .any .any .any .any [.any, .any, .any, .any, .any, .any, .any])))) rfl (rv := [.tmp 6]) rfl (sx_sound (bl := [11,13]) T_tt _ _ _ ?_)
  simp (disch := omega) only [SX0, SX1, SX2, SX3, SX4, SX5, SX6, SX7, SX8, SU0, SY0, SY1, Nat.reduceAdd, Nat.reduceMul, Nat.reduceSub, Nat.reduceLeDiff, Nat.reduceEqDiff, Nat.reduceLT, Nat.reduceBEq, ↓reduceIte, Int.reduceLE, Int.reduceLT, Int.reduceToNat, Int.reduceNeg, reduceCtorEq, Int.reduceEq, SF0, SF1, SF2, DCg0, DCe0, DCe1, DCe2, DDb0, DBc0, DBc1, DHb0, DHb1, DHa0]
  refine acall_one (isCutS_c p) (by simp [freeL, AV.free, Plan.free]) rfl ?_
  simp (disch := omega) only [SX0, SX1, SX2, SX3, SX4, SX5, SX6, SX7, SX8, SU0, SY0, SY1, Nat.reduceAdd, Nat.reduceMul, Nat.reduceSub, Nat.reduceLeDiff, Nat.reduceEqDiff, Nat.reduceLT, Nat.reduceBEq, ↓reduceIte, Int.reduceLE, Int.reduceLT, Int.reduceToNat, Int.reduceNeg, reduceCtorEq, Int.reduceEq, SF0, SF1, SF2, DCg0, DCe0, DCe1, DCe2, DDb0, DBc0, DBc1, DHb0, DHb1, DHa0]
  refine br_ndec (fun hc => ?_) (fun hc => ?_)
  · simp (disch := omega) only [SX0, SX1, SX2, SX3, SX4, SX5, SX6, SX7, SX8, SU0, SY0, SY1, Nat.reduceAdd, Nat.reduceMul, Nat.reduceSub, Nat.reduceLeDiff, Nat.reduceEqDiff, Nat.reduceLT, Nat.reduceBEq, ↓reduceIte, Int.reduceLE, Int.reduceLT, Int.reduceToNat, Int.reduceNeg, reduceCtorEq, Int.reduceEq, SF0, SF1, SF2, DCg0, DCe0, DCe1, DCe2, DDb0, DBc0, DBc1, DHb0, DHb1, DHa0]
    exact fin_ks [1] (.os 0 1 0 0) [.vec 1 []] ⟨by rw [Plan.knots_leaf hc]; rfl, by rw [Plan.knots_leaf hc]; rfl⟩ (by simp [AV.ren, nameK]) (by simp [keepL, nameK, OB.ren]) (by simp) (by simp) (by simp)
  obtain ⟨x, y, hk, hx, hy, nx, ny⟩ := Plan.two hw hc
  have hnn := Plan.nodes_two hk
  have i1 := ih x (m + 1) m (by omega) hx (by omega) (by omega)
  have i2 := ih y (m + 1 + x.nodes) m (by omega) hy (by omega) (by omega)
  have S := planSizeS_c x
  rw [Plan.size_wf ⟨hx, by omega⟩] at S
  have l1 := Plan.knots_le x hx (m + 1) m
  have l2 := Plan.knots_le y hy (m + 1 + x.nodes) m
  have ek : snds (p.knots m a) = a :: (snds (x.knots (m + 1) m) ++ snds (y.knots (m + 1 + x.nodes) m)) := by rw [Plan.knots_cut hc hk]; simp [snds]
  rw [ek]
  have l1' : (snds (x.knots (m + 1) m)).length ≤ 255 := by simp [snds]; omega
  have l2' : (snds (y.knots (m + 1 + x.nodes) m)).length ≤ 255 := by simp [snds]; omega
  generalize snds (x.knots (m + 1) m) = u1 at *
  generalize snds (y.knots (m + 1 + x.nodes) m) = u2 at *
  simp (disch := omega) only [SX0, SX1, SX2, SX3, SX4, SX5, SX6, SX7, SX8, SU0, SY0, SY1, Nat.reduceAdd, Nat.reduceMul, Nat.reduceSub, Nat.reduceLeDiff, Nat.reduceEqDiff, Nat.reduceLT, Nat.reduceBEq, ↓reduceIte, Int.reduceLE, Int.reduceLT, Int.reduceToNat, Int.reduceNeg, reduceCtorEq, Int.reduceEq, SF0, SF1, SF2, DCg0, DCe0, DCe1, DCe2, DDb0, DBc0, DBc1, DHb0, DHb1, DHa0, hk]
  refine acall_one (i1.frozen (by simp [ints])) (by simp [freeL, AV.free, Plan.free]) rfl ?_
  simp (disch := omega) only [SX0, SX1, SX2, SX3, SX4, SX5, SX6, SX7, SX8, SU0, SY0, SY1, Nat.reduceAdd, Nat.reduceMul, Nat.reduceSub, Nat.reduceLeDiff, Nat.reduceEqDiff, Nat.reduceLT, Nat.reduceBEq, ↓reduceIte, Int.reduceLE, Int.reduceLT, Int.reduceToNat, Int.reduceNeg, reduceCtorEq, Int.reduceEq, SF0, SF1, SF2, DCg0, DCe0, DCe1, DCe2, DDb0, DBc0, DBc1, DHb0, DHb1, DHa0]
  refine req intRows ?_
  simp (disch := omega) only [SX0, SX1, SX2, SX3, SX4, SX5, SX6, SX7, SX8, SU0, SY0, SY1, Nat.reduceAdd, Nat.reduceMul, Nat.reduceSub, Nat.reduceLeDiff, Nat.reduceEqDiff, Nat.reduceLT, Nat.reduceBEq, ↓reduceIte, Int.reduceLE, Int.reduceLT, Int.reduceToNat, Int.reduceNeg, reduceCtorEq, Int.reduceEq, SF0, SF1, SF2, DCg0, DCe0, DCe1, DCe2, DDb0, DBc0, DBc1, DHb0, DHb1, DHa0]
  refine req (by omega) ?_
  simp (disch := omega) only [SX0, SX1, SX2, SX3, SX4, SX5, SX6, SX7, SX8, SU0, SY0, SY1, Nat.reduceAdd, Nat.reduceMul, Nat.reduceSub, Nat.reduceLeDiff, Nat.reduceEqDiff, Nat.reduceLT, Nat.reduceBEq, ↓reduceIte, Int.reduceLE, Int.reduceLT, Int.reduceToNat, Int.reduceNeg, reduceCtorEq, Int.reduceEq, SF0, SF1, SF2, DCg0, DCe0, DCe1, DCe2, DDb0, DBc0, DBc1, DHb0, DHb1, DHa0]
  refine awp_float (bl := []) T_tt mixed [0] [1, 2, 3, 4, 5, 6, 7, 8, 9, 10, 11, 12, 13, 14] [(0, []), (15, [(1, .f 24), (2, .f 25), (3, .f 26), (4, .f 27), (5, .f 28), (6, .f 29), (7, .f 30), (8, .f 31), (9, .f 32), (10, .f 33), (11, .f 34), (12, .f 35), (13, .f 36), (14, .f 37)]), (16, [])] [] (by kernel_rfl) (by kernel_rfl) ?_
  simp (disch := omega) only [SX0, SX1, SX2, SX3, SX4, SX5, SX6, SX7, SX8, SU0, SY0, SY1, Nat.reduceAdd, Nat.reduceMul, Nat.reduceSub, Nat.reduceLeDiff, Nat.reduceEqDiff, Nat.reduceLT, Nat.reduceBEq, ↓reduceIte, Int.reduceLE, Int.reduceLT, Int.reduceToNat, Int.reduceNeg, reduceCtorEq, Int.reduceEq, SF0, SF1, SF2, DCg0, DCe0, DCe1, DCe2, DDb0, DBc0, DBc1, DHb0, DHb1, DHa0, hk]
  refine qc_one S (by simp [freeL, AV.free, Plan.free]) ?_
  simp (disch := omega) only [SX0, SX1, SX2, SX3, SX4, SX5, SX6, SX7, SX8, SU0, SY0, SY1, Nat.reduceAdd, Nat.reduceMul, Nat.reduceSub, Nat.reduceLeDiff, Nat.reduceEqDiff, Nat.reduceLT, Nat.reduceBEq, ↓reduceIte, Int.reduceLE, Int.reduceLT, Int.reduceToNat, Int.reduceNeg, reduceCtorEq, Int.reduceEq, SF0, SF1, SF2, DCg0, DCe0, DCe1, DCe2, DDb0, DBc0, DBc1, DHb0, DHb1, DHa0, hk]
  refine qc_one (i2.frozen (by simp [ints])) (by simp [freeL, AV.free, Plan.free]) ?_
  simp (disch := omega) only [SX0, SX1, SX2, SX3, SX4, SX5, SX6, SX7, SX8, SU0, SY0, SY1, Nat.reduceAdd, Nat.reduceMul, Nat.reduceSub, Nat.reduceLeDiff, Nat.reduceEqDiff, Nat.reduceLT, Nat.reduceBEq, ↓reduceIte, Int.reduceLE, Int.reduceLT, Int.reduceToNat, Int.reduceNeg, reduceCtorEq, Int.reduceEq, SF0, SF1, SF2, DCg0, DCe0, DCe1, DCe2, DDb0, DBc0, DBc1, DHb0, DHb1, DHa0, hk]
  refine qc_one S (by simp [freeL, AV.free, Plan.free]) ?_
  simp (disch := omega) only [SX0, SX1, SX2, SX3, SX4, SX5, SX6, SX7, SX8, SU0, SY0, SY1, Nat.reduceAdd, Nat.reduceMul, Nat.reduceSub, Nat.reduceLeDiff, Nat.reduceEqDiff, Nat.reduceLT, Nat.reduceBEq, ↓reduceIte, Int.reduceLE, Int.reduceLT, Int.reduceToNat, Int.reduceNeg, reduceCtorEq, Int.reduceEq, SF0, SF1, SF2, DCg0, DCe0, DCe1, DCe2, DDb0, DBc0, DBc1, DHb0, DHb1, DHa0, hk]
  refine qc_one (i2.frozen (by simp [ints])) (by simp [freeL, AV.free, Plan.free]) ?_
  simp (disch := omega) only [SX0, SX1, SX2, SX3, SX4, SX5, SX6, SX7, SX8, SU0, SY0, SY1, Nat.reduceAdd, Nat.reduceMul, Nat.reduceSub, Nat.reduceLeDiff, Nat.reduceEqDiff, Nat.reduceLT, Nat.reduceBEq, ↓reduceIte, Int.reduceLE, Int.reduceLT, Int.reduceToNat, Int.reduceNeg, reduceCtorEq, Int.reduceEq, SF0, SF1, SF2, DCg0, DCe0, DCe1, DCe2, DDb0, DBc0, DBc1, DHb0, DHb1, DHa0]
  refine req intRows ?_
  simp (disch := omega) only [SX0, SX1, SX2, SX3, SX4, SX5, SX6, SX7, SX8, SU0, SY0, SY1, Nat.reduceAdd, Nat.reduceMul, Nat.reduceSub, Nat.reduceLeDiff, Nat.reduceEqDiff, Nat.reduceLT, Nat.reduceBEq, ↓reduceIte, Int.reduceLE, Int.reduceLT, Int.reduceToNat, Int.reduceNeg, reduceCtorEq, Int.reduceEq, SF0, SF1, SF2, DCg0, DCe0, DCe1, DCe2, DDb0, DBc0, DBc1, DHb0, DHb1, DHa0]
  refine req (by omega) ?_
  simp (disch := omega) only [SX0, SX1, SX2, SX3, SX4, SX5, SX6, SX7, SX8, SU0, SY0, SY1, Nat.reduceAdd, Nat.reduceMul, Nat.reduceSub, Nat.reduceLeDiff, Nat.reduceEqDiff, Nat.reduceLT, Nat.reduceBEq, ↓reduceIte, Int.reduceLE, Int.reduceLT, Int.reduceToNat, Int.reduceNeg, reduceCtorEq, Int.reduceEq, SF0, SF1, SF2, DCg0, DCe0, DCe1, DCe2, DDb0, DBc0, DBc1, DHb0, DHb1, DHa0]
  exact fin_ks [1] (.os 0 1 0 (a :: (u1 ++ u2)).length) [.vec 1 (ints (a :: (u1 ++ u2)))] ⟨rfl, rfl⟩ (by simp [AV.ren, nameK]; omega) (by simp [keepL, nameK, OB.ren, ints]) (by simp) (by simp) (by simp)

theorem innerNodes_c (p : Plan) (hp : p.wf = true ∧ p.nodes ≤ 255) : ACalls Try.prog 114 [.agg p.cs, .val (.int .i64 0)] [] [] (fun r L => r = .sl (ints (fsts (p.knots 0 (-1)))) ∧ L = []) :=
  (innerNodes_n _ p 0 (-1) (Nat.le_refl _) hp.1 hp.2 (by omega)).frozen (by simp [ints])

theorem aboves_c (p : Plan) (hp : p.wf = true ∧ p.nodes ≤ 255) : ACalls Try.prog 115 [.agg p.cs, .val (.int .i64 0), .val (.int .i64 (-1))] [] [] (fun r L => r = .sl (ints (snds (p.knots 0 (-1)))) ∧ L = []) :=
  (aboves_n _ p 0 (-1) (Nat.le_refl _) hp.1 hp.2 (by omega)).frozen (by simp [ints])

/-- Where a cut is. -/
theorem placeI_fst {ks : List (Int × Int)} (hn : (ks.map Prod.fst).Nodup) {n : Int} (h : 0 ≤ placeI (fsts ks) n) : ∃ q, ks[(placeI (fsts ks) n).toNat]? = some q ∧ q.1 = n := by
  unfold placeI at *
  rcases ixOf_find (g := fun x => decide (x = n)) (l := fsts ks) with ⟨h1, h2⟩ | ⟨i, x, h1, h2, h3⟩
  · omega
  · have := List.find?_some h3
    simp only [decide_eq_true_eq] at this
    rw [h1]
    unfold fsts at h2
    rw [List.getElem?_map] at h2
    obtain ⟨q, hq, e⟩ := Option.map_eq_some_iff.1 h2
    exact ⟨q, by simpa using hq, by rw [e, this]⟩

theorem intHead {l : List Int} {j : Nat} : ∀ c, Option.map (fun x => [AV.val (.int .i64 x)]) l[j]? = some c → c.length = 1 := fun c hc => by
  obtain ⟨b, _, rfl⟩ := Option.map_eq_some_iff.1 hc
  rfl

theorem placeIn_t (S : List Int) (i : Nat) (n : Int) (h : S.length < 2 ^ 40) : ACalls Try.prog 116 [.sl ((S.map fun x => [AV.val (.int .i64 x)]).take i), .val (.int .i64 n)] [] [] (fun r L => r = .val (.int .i64 (placeI (S.take i) n)) ∧ L = []) := by
  have := placeIn_c (S.take i) n (by rw [List.length_take]; omega)
  rwa [ints, List.map_take] at this

end Go.Pc
