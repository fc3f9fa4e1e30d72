/- The reference's parts. -/
import Derived.Test.YtkcpcmobmalijaaCe
set_option linter.unusedSimpArgs false
set_option linter.unusedVariables false
namespace Go.Pc
open Go Go.Proofs

theorem e_partAt : Enters Try.prog 117 := enters_of Try.func117 (by kernel_rfl) (by kernel_rfl)
set_option maxHeartbeats 4000000 in
theorem partAt_n (k : Work) : ∀ (n : Nat) (p : Plan) (b : Box) (i : Int) (q : Plan × Box), p.nodes ≤ n → p.wf = true → b.sane → p.fits k b.W b.H = true → p.nodes ≤ 255 → 0 ≤ i → (p.parts b)[i.toNat]? = some q →
    ACalls Try.prog 117 [.agg p.cs, .agg b.cs, .val (.int .i64 i)] [] [] (fun r L => r = .tup [.agg q.1.cs, .agg q.2.cs] ∧ L = []) := by
  intro n
  induction n with
  | zero => intro p b i q h; have := p.nodes_pos; omega
  | succ n ih =>
  intro p b i q hn hw hb hf h255 hi hq
  refine acalls_tm T_tt Try.func117 rfl e_partAt 93 rfl (W8 _ _ _ .any .any .any .any .any (W8 .any .any .any .any .any .any .any .any (W8 .any .any .any .any .any .any .any .any (W8 .any .any .any .any .any .any .any .any (W8 .any .any .any .any .any .any .any .any (W8 .any .any .any .any .any .any .any .any (W8 .any .any .any .any .any .any .any .any (W8 .any .any .any .any .any .any .any .any (W8 .any .any .any .any .any .any .any .any (W8 .any .any .any .any .any .any .any .any (W8 .any .any .any .any .any .any .any .any (W8 .any .any .any .any .any .any .any .any [])))))))))))) rfl (rv := [.cell 6 31, .cell 7 77]) rfl (sx_sound (bl := []) T_tt _ _ _ ?_)
  simp (disch := omega) only [SX0, SX1, SX2, SX3, SX4, SX5, SX6, SX7, SX8, SU0, SY0, SY1, Nat.reduceAdd, Nat.reduceMul, Nat.reduceSub, Nat.reduceLeDiff, Nat.reduceEqDiff, Nat.reduceLT, Nat.reduceBEq, ↓reduceIte, Int.reduceLE, Int.reduceLT, Int.reduceToNat, Int.reduceNeg, reduceCtorEq, Int.reduceEq, SF0, SF1, SF2, DCe0, DCe1, DCe2, DDb0, DBc0, DBc1]
  refine br_dec (fun h => ?_) (fun h => ?_)
  · simp (disch := omega) only [SX0, SX1, SX2, SX3, SX4, SX5, SX6, SX7, SX8, SU0, SY0, SY1, Nat.reduceAdd, Nat.reduceMul, Nat.reduceSub, Nat.reduceLeDiff, Nat.reduceEqDiff, Nat.reduceLT, Nat.reduceBEq, ↓reduceIte, Int.reduceLE, Int.reduceLT, Int.reduceToNat, Int.reduceNeg, reduceCtorEq, Int.reduceEq, SF0, SF1, SF2, DCe0, DCe1, DCe2, DDb0, DBc0, DBc1]
    refine awp_float (bl := []) T_tt mixed [0, 1, 2, 3] [0, 1] [(2, [(0, .f 13)]), (3, [(1, .f 14)])] [] (by kernel_rfl) (by kernel_rfl) ?_
    simp (disch := omega) only [SX0, SX1, SX2, SX3, SX4, SX5, SX6, SX7, SX8, SU0, SY0, SY1, Nat.reduceAdd, Nat.reduceMul, Nat.reduceSub, Nat.reduceLeDiff, Nat.reduceEqDiff, Nat.reduceLT, Nat.reduceBEq, ↓reduceIte, Int.reduceLE, Int.reduceLT, Int.reduceToNat, Int.reduceNeg, reduceCtorEq, Int.reduceEq, SF0, SF1, SF2, DCe0, DCe1, DCe2, DDb0, DBc0, DBc1]
    subst h
    have hq0 : q = (p, b) := by
      by_cases hc : p.cut
      · obtain ⟨x, y, hk, _⟩ := Plan.two hw hc
        rw [Plan.parts_cut hc hk] at hq
        simpa using hq.symm
      · rw [Plan.parts_leaf hc] at hq
        simpa using hq.symm
    subst hq0
    exact fin_free (by simp [AV.free, freeL, Plan.free, Box.free]) ⟨rfl, rfl⟩
  · have hc : p.cut := by
      refine Classical.byContradiction fun hc => ?_
      rw [Plan.parts_leaf hc] at hq
      have := (List.getElem?_eq_some_iff.1 hq).1
      simp at this; omega
    obtain ⟨x, y, hk, hx, hy, nx, ny⟩ := Plan.two hw hc
    obtain ⟨f1, f2, g1, g2, g3⟩ := Plan.fits_cut hc hk hf
    obtain ⟨s1, s2, _⟩ := Plan.split_sane hc hk hb hf
    have hbb := hb
    unfold Box.sane at hbb
    have hnn := Plan.nodes_two hk
    have hil : i < p.nodes := by
      have := (List.getElem?_eq_some_iff.1 hq).1
      rw [Plan.parts_len p hw] at this
      omega
    repeat' first | with_reducible refine fin_val ⟨?_, rfl⟩ | with_reducible refine br_dec (fun hb => ?_) (fun hb => ?_) | with_reducible refine br_ndec (fun hb => ?_) (fun hb => ?_) | with_reducible refine br_bool (fun hb => ?_) (fun hb => ?_) | with_reducible refine pk_dec (fun hb => ?_) (fun hb => ?_) | with_reducible refine pk_ndec (fun hb => ?_) (fun hb => ?_) | with_reducible refine awp_drawA T_tt mixed (by decide +kernel) (by kernel_rfl) (by kernel_rfl) ?_ | simp (disch := omega) only [SX0, SX1, SX2, SX3, SX4, SX5, SX6, SX7, SX8, SU0, SY0, SY1, Nat.reduceAdd, Nat.reduceMul, Nat.reduceSub, Nat.reduceLeDiff, Nat.reduceEqDiff, Nat.reduceLT, Nat.reduceBEq, ↓reduceIte, Int.reduceLE, Int.reduceLT, Int.reduceToNat, Int.reduceNeg, reduceCtorEq, Int.reduceEq, SF0, SF1, SF2, DCe0, DCe1, DCe2, DDb0, DBc0, DBc1]
    all_goals
      have hsz : x.size = x.nodes := by unfold Plan.size; rw [if_pos ⟨hx, by omega⟩]
      have e1 : (p.split b).1.cs = if p.op = 3 then [.val (.int .i64 b.X), .val (.int .i64 b.Y), .val (.int .i64 b.W), .val (.int .i64 p.at_)] else [.val (.int .i64 b.X), .val (.int .i64 b.Y), .val (.int .i64 p.at_), .val (.int .i64 b.H)] := by
        unfold Plan.split
        rcases hc with h | h
        · rw [if_pos h, if_neg (by omega)]; rfl
        · rw [if_neg (by omega), if_pos h]; rfl
      have e2 : (p.split b).2.cs = if p.op = 3 then [.val (.int .i64 b.X), .val (.int .i64 (b.Y + p.at_)), .val (.int .i64 b.W), .val (.int .i64 (b.H - p.at_))] else [.val (.int .i64 (b.X + p.at_)), .val (.int .i64 b.Y), .val (.int .i64 (b.W - p.at_)), .val (.int .i64 b.H)] := by
        unfold Plan.split
        rcases hc with h | h
        · rw [if_pos h, if_neg (by omega)]; rfl
        · rw [if_neg (by omega), if_pos h]; rfl
      first | rw [if_pos hb] at e1 e2 | rw [if_neg hb] at e1 e2
      simp (disch := omega) only [SX0, SX1, SX2, SX3, SX4, SX5, SX6, SX7, SX8, SU0, SY0, SY1, Nat.reduceAdd, Nat.reduceMul, Nat.reduceSub, Nat.reduceLeDiff, Nat.reduceEqDiff, Nat.reduceLT, Nat.reduceBEq, ↓reduceIte, Int.reduceLE, Int.reduceLT, Int.reduceToNat, Int.reduceNeg, reduceCtorEq, Int.reduceEq, SF0, SF1, SF2, DCe0, DCe1, DCe2, DDb0, DBc0, DBc1, hk]
      refine acall_one (planSizeS_c x) (by simp [freeL, AV.free, Plan.free]) rfl ?_
      simp (disch := omega) only [SX0, SX1, SX2, SX3, SX4, SX5, SX6, SX7, SX8, SU0, SY0, SY1, Nat.reduceAdd, Nat.reduceMul, Nat.reduceSub, Nat.reduceLeDiff, Nat.reduceEqDiff, Nat.reduceLT, Nat.reduceBEq, ↓reduceIte, Int.reduceLE, Int.reduceLT, Int.reduceToNat, Int.reduceNeg, reduceCtorEq, Int.reduceEq, SF0, SF1, SF2, DCe0, DCe1, DCe2, DDb0, DBc0, DBc1, hsz]
      refine br_dec (fun h1 => ?_) (fun h1 => ?_)
      · simp (disch := omega) only [SX0, SX1, SX2, SX3, SX4, SX5, SX6, SX7, SX8, SU0, SY0, SY1, Nat.reduceAdd, Nat.reduceMul, Nat.reduceSub, Nat.reduceLeDiff, Nat.reduceEqDiff, Nat.reduceLT, Nat.reduceBEq, ↓reduceIte, Int.reduceLE, Int.reduceLT, Int.reduceToNat, Int.reduceNeg, reduceCtorEq, Int.reduceEq, SF0, SF1, SF2, DCe0, DCe1, DCe2, DDb0, DBc0, DBc1]
        refine awp_float (bl := []) T_tt mixed [0, 1, 2, 3, 4, 5] [0, 1, 2, 3, 4, 5, 6, 7, 8, 9] [(10, [(0, .f 74), (1, .f 75), (2, .f 76), (3, .f 77), (4, .f 78), (5, .f 79), (6, .f 80), (7, .f 81), (8, .f 82), (9, .f 83)]), (11, [])] [] (by kernel_rfl) (by kernel_rfl) ?_
        simp (disch := omega) only [SX0, SX1, SX2, SX3, SX4, SX5, SX6, SX7, SX8, SU0, SY0, SY1, Nat.reduceAdd, Nat.reduceMul, Nat.reduceSub, Nat.reduceLeDiff, Nat.reduceEqDiff, Nat.reduceLT, Nat.reduceBEq, ↓reduceIte, Int.reduceLE, Int.reduceLT, Int.reduceToNat, Int.reduceNeg, reduceCtorEq, Int.reduceEq, SF0, SF1, SF2, DCe0, DCe1, DCe2, DDb0, DBc0, DBc1, hk]
        have hq1 : (x.parts (p.split b).1)[(i - 1).toNat]? = some q := by
          rw [Plan.parts_cut hc hk, show i.toNat = (i - 1).toNat + 1 by omega, List.getElem?_cons_succ, List.getElem?_append_left (by rw [Plan.parts_len x hx]; omega)] at hq
          exact hq
        have hi1 := ih x (p.split b).1 (i - 1) q (by omega) hx s1 f1 (by omega) (by omega) hq1
        rw [e1] at hi1
        refine qc_one hi1 (by simp [freeL, AV.free, Plan.free]) ?_
        simp (disch := omega) only [SX0, SX1, SX2, SX3, SX4, SX5, SX6, SX7, SX8, SU0, SY0, SY1, Nat.reduceAdd, Nat.reduceMul, Nat.reduceSub, Nat.reduceLeDiff, Nat.reduceEqDiff, Nat.reduceLT, Nat.reduceBEq, ↓reduceIte, Int.reduceLE, Int.reduceLT, Int.reduceToNat, Int.reduceNeg, reduceCtorEq, Int.reduceEq, SF0, SF1, SF2, DCe0, DCe1, DCe2, DDb0, DBc0, DBc1]
        exact fin_free (by simp [AV.free, freeL, Plan.free, Box.free]) ⟨rfl, rfl⟩
      · simp (disch := omega) only [SX0, SX1, SX2, SX3, SX4, SX5, SX6, SX7, SX8, SU0, SY0, SY1, Nat.reduceAdd, Nat.reduceMul, Nat.reduceSub, Nat.reduceLeDiff, Nat.reduceEqDiff, Nat.reduceLT, Nat.reduceBEq, ↓reduceIte, Int.reduceLE, Int.reduceLT, Int.reduceToNat, Int.reduceNeg, reduceCtorEq, Int.reduceEq, SF0, SF1, SF2, DCe0, DCe1, DCe2, DDb0, DBc0, DBc1]
        refine awp_float (bl := []) T_tt mixed [0, 1, 2, 3, 4, 5, 6] [0, 1, 2, 3, 4, 5, 6, 7, 8, 9, 10, 11] [(12, [(0, .f 84), (1, .f 85), (2, .f 86), (3, .f 87), (4, .f 88), (5, .f 89), (6, .f 90), (7, .f 91), (8, .f 92), (9, .f 93), (10, .f 94), (11, .f 95)]), (13, [])] [] (by kernel_rfl) (by kernel_rfl) ?_
        simp (disch := omega) only [SX0, SX1, SX2, SX3, SX4, SX5, SX6, SX7, SX8, SU0, SY0, SY1, Nat.reduceAdd, Nat.reduceMul, Nat.reduceSub, Nat.reduceLeDiff, Nat.reduceEqDiff, Nat.reduceLT, Nat.reduceBEq, ↓reduceIte, Int.reduceLE, Int.reduceLT, Int.reduceToNat, Int.reduceNeg, reduceCtorEq, Int.reduceEq, SF0, SF1, SF2, DCe0, DCe1, DCe2, DDb0, DBc0, DBc1, hk]
        have hq1 : (y.parts (p.split b).2)[(i - 1 - x.nodes).toNat]? = some q := by
          rw [Plan.parts_cut hc hk, show i.toNat = (x.nodes + (i - 1 - x.nodes).toNat) + 1 by omega, List.getElem?_cons_succ, List.getElem?_append_right (by rw [Plan.parts_len x hx]; omega), Plan.parts_len x hx, Nat.add_sub_cancel_left] at hq
          exact hq
        have hi1 := ih y (p.split b).2 (i - 1 - x.nodes) q (by omega) hy s2 f2 (by omega) (by omega) hq1
        rw [e2] at hi1
        refine qc_one hi1 (by simp [freeL, AV.free, Plan.free]) ?_
        simp (disch := omega) only [SX0, SX1, SX2, SX3, SX4, SX5, SX6, SX7, SX8, SU0, SY0, SY1, Nat.reduceAdd, Nat.reduceMul, Nat.reduceSub, Nat.reduceLeDiff, Nat.reduceEqDiff, Nat.reduceLT, Nat.reduceBEq, ↓reduceIte, Int.reduceLE, Int.reduceLT, Int.reduceToNat, Int.reduceNeg, reduceCtorEq, Int.reduceEq, SF0, SF1, SF2, DCe0, DCe1, DCe2, DDb0, DBc0, DBc1]
        exact fin_free (by simp [AV.free, freeL, Plan.free, Box.free]) ⟨rfl, rfl⟩

end Go.Pc

/- The cuts of a plan by their numbers. -/
namespace Go.Pc
open Go Go.Proofs

def knotRow (q : Int × Int) : List AV := [.val (.int .i64 q.1), .val (.int .i64 q.2)]
theorem knotRow_len (q : Int × Int) : (knotRow q).length = 2 := rfl
theorem knotRow_take (q : Int × Int) : (knotRow q).take 2 = knotRow q := rfl
theorem knotRow_g0 (q : Int × Int) : (knotRow q)[0]? = some (.val (.int .i64 q.1)) := rfl
theorem knotRow_g1 (q : Int × Int) : (knotRow q)[1]? = some (.val (.int .i64 q.2)) := rfl
theorem knotRow_free (q : Int × Int) : freeL (knotRow q) = true := rfl
theorem knotRow_one (q : Int × Int) : (knotRow q).all AV.one = true := rfl
theorem knotRow_pure (q : Int × Int) : (knotRow q).all AV.pure = true := rfl
theorem knotRow_filtd (f : Nat → Bool) (q : Int × Int) : filtL f (knotRow q) = knotRow q := (free_filt_aux f).2 _ (knotRow_free q)
theorem knotRow_rend (f : Nat → Nat) (q : Int × Int) : renL f (knotRow q) = knotRow q := freeL_rend f (knotRow_free q)
theorem DCg0 : type_of% @knotRow_filtd ∧ type_of% @knotRow_rend ∧ type_of% @knotRow_len ∧ type_of% @knotRow_take ∧ type_of% @knotRow_g0 ∧ type_of% @knotRow_g1 ∧ type_of% @knotRow_one ∧ type_of% @knotRow_pure := ⟨@knotRow_filtd, @knotRow_rend, @knotRow_len, @knotRow_take, @knotRow_g0, @knotRow_g1, @knotRow_one, @knotRow_pure⟩

theorem Plan.knots_le : ∀ (p : Plan), p.wf = true → ∀ n a, (p.knots n a).length ≤ p.nodes :=
  Plan.wf_ind (fun p hw hc n a => by rw [Plan.knots_leaf hc]; simp) (fun p x y hw hc hk hx hy ix iy n a => by
    have := Plan.nodes_two hk
    have := ix (n + 1) n
    have := iy (n + 1 + x.nodes) n
    rw [Plan.knots_cut hc hk]; simp; omega)

theorem e_addKnots : Enters Try.prog 150 := enters_of Try.func150 (by kernel_rfl) (by kernel_rfl)
set_option maxHeartbeats 4000000 in
theorem addKnots_n : ∀ (n : Nat) (p : Plan) (m a : Int) (es : List (List AV)), p.nodes ≤ n → p.wf = true → (∀ e ∈ es, e.length = 2) → es.length + p.nodes ≤ 1000 → 0 ≤ m ∧ m + p.nodes ≤ 1000 →
    ACalls Try.prog 150 [.os 0 2 0 es.length, .agg p.cs, .val (.int .i64 m), .val (.int .i64 a)] [.vec 2 es] [] (fun r L => r = .tup [.os 0 2 0 (es.length + (p.knots m a).length), .val (.int .i64 (m + p.nodes))] ∧ L = [.vec 2 (es ++ (p.knots m a).map knotRow)]) := by
  intro n
  induction n with
  | zero => intro p m a es h; have := p.nodes_pos; omega
  | succ n ih =>
  intro p m a es hn hw hes hel hm
  refine acalls_tm T_tt Try.func150 rfl e_addKnots 41 rfl (W8 _ _ _ _ .any .any .any .any (W8 .any .any .any .any .any .any .any .any (W8 .any .any .any .any .any .any .any .any (W8 .any .any .any .any .any .any .any .any (W8 .any .any .any .any .any .any .any .any [.any, .any, .any, .any, .any]))))) rfl (rv := [.tmp 8, .tmp 9]) rfl (sx_sound (bl := []) T_tt _ _ _ ?_)
  simp (disch := omega) only [SX0, SX1, SX2, SX3, SX4, SX5, SX6, SX7, SX8, SU0, SY0, SY1, Nat.reduceAdd, Nat.reduceMul, Nat.reduceSub, Nat.reduceLeDiff, Nat.reduceEqDiff, Nat.reduceLT, Nat.reduceBEq, ↓reduceIte, Int.reduceLE, Int.reduceLT, Int.reduceToNat, Int.reduceNeg, reduceCtorEq, Int.reduceEq, SF0, SF1, SF2, DCe0, DCe1, DCe2, DDb0, DBc0, DBc1, DCg0]
  refine acall_one (isCutI_c p) (by simp [freeL, AV.free, Plan.free]) rfl ?_
  simp (disch := omega) only [SX0, SX1, SX2, SX3, SX4, SX5, SX6, SX7, SX8, SU0, SY0, SY1, Nat.reduceAdd, Nat.reduceMul, Nat.reduceSub, Nat.reduceLeDiff, Nat.reduceEqDiff, Nat.reduceLT, Nat.reduceBEq, ↓reduceIte, Int.reduceLE, Int.reduceLT, Int.reduceToNat, Int.reduceNeg, reduceCtorEq, Int.reduceEq, SF0, SF1, SF2, DCe0, DCe1, DCe2, DDb0, DBc0, DBc1, DCg0]
  refine br_ndec (fun hc => ?_) (fun hc => ?_)
  · simp (disch := omega) only [SX0, SX1, SX2, SX3, SX4, SX5, SX6, SX7, SX8, SU0, SY0, SY1, Nat.reduceAdd, Nat.reduceMul, Nat.reduceSub, Nat.reduceLeDiff, Nat.reduceEqDiff, Nat.reduceLT, Nat.reduceBEq, ↓reduceIte, Int.reduceLE, Int.reduceLT, Int.reduceToNat, Int.reduceNeg, reduceCtorEq, Int.reduceEq, SF0, SF1, SF2, DCe0, DCe1, DCe2, DDb0, DBc0, DBc1, DCg0]
    exact fin_zero (.tup [.os 0 2 0 (es.length + (p.knots m a).length), .val (.int .i64 (m + p.nodes))]) (.vec 2 (es ++ (p.knots m a).map knotRow)) ⟨rfl, rfl⟩ (by rw [Plan.nodes_leaf hw hc, Plan.knots_leaf hc]; rfl) (by rw [Plan.knots_leaf hc]; simp [OB.ren]) (by simp) (by simp)
  · obtain ⟨x, y, hk, hx, hy, nx, ny⟩ := Plan.two hw hc
    have hnn := Plan.nodes_two hk
    simp (disch := omega) only [SX0, SX1, SX2, SX3, SX4, SX5, SX6, SX7, SX8, SU0, SY0, SY1, Nat.reduceAdd, Nat.reduceMul, Nat.reduceSub, Nat.reduceLeDiff, Nat.reduceEqDiff, Nat.reduceLT, Nat.reduceBEq, ↓reduceIte, Int.reduceLE, Int.reduceLT, Int.reduceToNat, Int.reduceNeg, reduceCtorEq, Int.reduceEq, SF0, SF1, SF2, DCe0, DCe1, DCe2, DDb0, DBc0, DBc1, DCg0]
    refine req (by omega) ?_
    simp (disch := omega) only [SX0, SX1, SX2, SX3, SX4, SX5, SX6, SX7, SX8, SU0, SY0, SY1, Nat.reduceAdd, Nat.reduceMul, Nat.reduceSub, Nat.reduceLeDiff, Nat.reduceEqDiff, Nat.reduceLT, Nat.reduceBEq, ↓reduceIte, Int.reduceLE, Int.reduceLT, Int.reduceToNat, Int.reduceNeg, reduceCtorEq, Int.reduceEq, SF0, SF1, SF2, DCe0, DCe1, DCe2, DDb0, DBc0, DBc1, DCg0, hk]
    have h1 := ih x (m + 1) m (es ++ [[.val (.int .i64 m), .val (.int .i64 a)]]) (by omega) hx (fun e he => by
      rcases List.mem_append.1 he with he | he
      · exact hes e he
      · simp at he; subst he; rfl) (by simp; omega) (by omega)
    rw [List.length_append] at h1
    refine acall_own h1 [0] [0] (by simp only [SX0, SX1, SX2, SX3, SX4, SX5, SX6, SX7, SX8, SU0, SY0, SY1, Nat.reduceAdd, Nat.reduceMul, Nat.reduceSub, Nat.reduceLeDiff, Nat.reduceEqDiff, Nat.reduceLT, Nat.reduceBEq, ↓reduceIte, Int.reduceLE, Int.reduceLT, Int.reduceToNat, Int.reduceNeg, reduceCtorEq, Int.reduceEq, SF0, SF1, SF2, DCe0, DCe1, DCe2, DDb0, DBc0, DBc1, DCg0, SX0]) (by decide) (by decide) (by rfl) (by simp only [SX0, SX1, SX2, SX3, SX4, SX5, SX6, SX7, SX8, SU0, SY0, SY1, Nat.reduceAdd, Nat.reduceMul, Nat.reduceSub, Nat.reduceLeDiff, Nat.reduceEqDiff, Nat.reduceLT, Nat.reduceBEq, ↓reduceIte, Int.reduceLE, Int.reduceLT, Int.reduceToNat, Int.reduceNeg, reduceCtorEq, Int.reduceEq, SF0, SF1, SF2, DCe0, DCe1, DCe2, DDb0, DBc0, DBc1, DCg0, SX0]) ?_
    rintro _ _ ⟨rfl, rfl⟩
    simp (disch := omega) only [SX0, SX1, SX2, SX3, SX4, SX5, SX6, SX7, SX8, SU0, SY0, SY1, Nat.reduceAdd, Nat.reduceMul, Nat.reduceSub, Nat.reduceLeDiff, Nat.reduceEqDiff, Nat.reduceLT, Nat.reduceBEq, ↓reduceIte, Int.reduceLE, Int.reduceLT, Int.reduceToNat, Int.reduceNeg, reduceCtorEq, Int.reduceEq, SF0, SF1, SF2, DCe0, DCe1, DCe2, DDb0, DBc0, DBc1, DCg0, hk]
    have kx := Plan.knots_le x hx (m + 1) m
    have h2 := ih y (m + 1 + x.nodes) m (es ++ [[.val (.int .i64 m), .val (.int .i64 a)]] ++ (x.knots (m + 1) m).map knotRow) (by omega) hy (fun e he => by
      rcases List.mem_append.1 he with he | he
      · rcases List.mem_append.1 he with he | he
        · exact hes e he
        · simp at he; subst he; rfl
      · obtain ⟨q, _, rfl⟩ := List.mem_map.1 he
        rfl) (by simp; omega) (by omega)
    rw [List.length_append, List.length_append, List.length_map] at h2
    refine acall_own h2 [0] [0] (by simp only [SX0, SX1, SX2, SX3, SX4, SX5, SX6, SX7, SX8, SU0, SY0, SY1, Nat.reduceAdd, Nat.reduceMul, Nat.reduceSub, Nat.reduceLeDiff, Nat.reduceEqDiff, Nat.reduceLT, Nat.reduceBEq, ↓reduceIte, Int.reduceLE, Int.reduceLT, Int.reduceToNat, Int.reduceNeg, reduceCtorEq, Int.reduceEq, SF0, SF1, SF2, DCe0, DCe1, DCe2, DDb0, DBc0, DBc1, DCg0, SX0]) (by decide) (by decide) (by rfl) (by simp only [SX0, SX1, SX2, SX3, SX4, SX5, SX6, SX7, SX8, SU0, SY0, SY1, Nat.reduceAdd, Nat.reduceMul, Nat.reduceSub, Nat.reduceLeDiff, Nat.reduceEqDiff, Nat.reduceLT, Nat.reduceBEq, ↓reduceIte, Int.reduceLE, Int.reduceLT, Int.reduceToNat, Int.reduceNeg, reduceCtorEq, Int.reduceEq, SF0, SF1, SF2, DCe0, DCe1, DCe2, DDb0, DBc0, DBc1, DCg0, SX0]) ?_
    rintro _ _ ⟨rfl, rfl⟩
    simp (disch := omega) only [SX0, SX1, SX2, SX3, SX4, SX5, SX6, SX7, SX8, SU0, SY0, SY1, Nat.reduceAdd, Nat.reduceMul, Nat.reduceSub, Nat.reduceLeDiff, Nat.reduceEqDiff, Nat.reduceLT, Nat.reduceBEq, ↓reduceIte, Int.reduceLE, Int.reduceLT, Int.reduceToNat, Int.reduceNeg, reduceCtorEq, Int.reduceEq, SF0, SF1, SF2, DCe0, DCe1, DCe2, DDb0, DBc0, DBc1, DCg0]
    exact fin_zero (.tup [.os 0 2 0 (es.length + (p.knots m a).length), .val (.int .i64 (m + p.nodes))]) (.vec 2 (es ++ (p.knots m a).map knotRow)) ⟨rfl, rfl⟩ (by rw [Plan.knots_cut hc hk, hnn]; simp [AV.ren, renL, nameK]; omega) (by rw [Plan.knots_cut hc hk]; simp [OB.ren, knotRow]) (by simp) (by simp)

theorem e_knotsOf : Enters Try.prog 108 := enters_of Try.func108 (by kernel_rfl) (by kernel_rfl)
theorem knotsOf_c (p : Plan) : ACalls Try.prog 108 [.agg p.cs] [] [] (fun r L => r = .tup [.sl ((if p.wf = true ∧ p.nodes ≤ 255 then p.knots 0 (-1) else []).map knotRow), .val (.bool (decide (p.wf = true ∧ p.nodes ≤ 255)))] ∧ L = []) := by
  refine acalls_tm T_tt Try.func108 rfl e_knotsOf 14 rfl (W8 _ .any .any .any .any .any .any .any [.any, .any, .any, .any, .any, .any, .any]) rfl (rv := [.tmp 2, .tmp 3]) rfl (sx_sound (bl := []) T_tt _ _ _ ?_)
  simp (disch := omega) only [SX0, SX1, SX2, SX3, SX4, SX5, SX6, SX7, SX8, SU0, SY0, SY1, Nat.reduceAdd, Nat.reduceMul, Nat.reduceSub, Nat.reduceLeDiff, Nat.reduceEqDiff, Nat.reduceLT, Nat.reduceBEq, ↓reduceIte, Int.reduceLE, Int.reduceLT, Int.reduceToNat, Int.reduceNeg, reduceCtorEq, Int.reduceEq, SF0, SF1, SF2, DCe0, DCe1, DCe2, DDb0, DBc0, DBc1, DCg0]
  refine acall_one (planSizeI_c p) (by simp [freeL, AV.free, Plan.free]) rfl ?_
  simp (disch := omega) only [SX0, SX1, SX2, SX3, SX4, SX5, SX6, SX7, SX8, SU0, SY0, SY1, Nat.reduceAdd, Nat.reduceMul, Nat.reduceSub, Nat.reduceLeDiff, Nat.reduceEqDiff, Nat.reduceLT, Nat.reduceBEq, ↓reduceIte, Int.reduceLE, Int.reduceLT, Int.reduceToNat, Int.reduceNeg, reduceCtorEq, Int.reduceEq, SF0, SF1, SF2, DCe0, DCe1, DCe2, DDb0, DBc0, DBc1, DCg0]
  refine br_dec (fun h => ?_) (fun h => ?_)
  · simp (disch := omega) only [SX0, SX1, SX2, SX3, SX4, SX5, SX6, SX7, SX8, SU0, SY0, SY1, Nat.reduceAdd, Nat.reduceMul, Nat.reduceSub, Nat.reduceLeDiff, Nat.reduceEqDiff, Nat.reduceLT, Nat.reduceBEq, ↓reduceIte, Int.reduceLE, Int.reduceLT, Int.reduceToNat, Int.reduceNeg, reduceCtorEq, Int.reduceEq, SF0, SF1, SF2, DCe0, DCe1, DCe2, DDb0, DBc0, DBc1, DCg0]
    have hs := Plan.size_neg (p := p) (by omega)
    refine fin_nrm ?_
    simp only [AV.nrm, nrmL]
    exact fin_free rfl ⟨by rw [if_neg hs, decide_eq_false hs]; rfl, rfl⟩
  · have hs := Plan.size_pos (p := p) (by omega)
    have h0 := addKnots_n _ p 0 (-1) [] (Nat.le_refl _) hs.1.1 (by simp) (by have := hs.1.2; simp; omega) (by have := hs.1.2; omega)
    simp only [List.length_nil, Nat.zero_add, List.nil_append, Int.zero_add] at h0
    simp (disch := omega) only [SX0, SX1, SX2, SX3, SX4, SX5, SX6, SX7, SX8, SU0, SY0, SY1, Nat.reduceAdd, Nat.reduceMul, Nat.reduceSub, Nat.reduceLeDiff, Nat.reduceEqDiff, Nat.reduceLT, Nat.reduceBEq, ↓reduceIte, Int.reduceLE, Int.reduceLT, Int.reduceToNat, Int.reduceNeg, reduceCtorEq, Int.reduceEq, SF0, SF1, SF2, DCe0, DCe1, DCe2, DDb0, DBc0, DBc1, DCg0]
    refine acall_nil0 2 (by decide) ?_
    simp (disch := omega) only [SX0, SX1, SX2, SX3, SX4, SX5, SX6, SX7, SX8, SU0, SY0, SY1, Nat.reduceAdd, Nat.reduceMul, Nat.reduceSub, Nat.reduceLeDiff, Nat.reduceEqDiff, Nat.reduceLT, Nat.reduceBEq, ↓reduceIte, Int.reduceLE, Int.reduceLT, Int.reduceToNat, Int.reduceNeg, reduceCtorEq, Int.reduceEq, SF0, SF1, SF2, DCe0, DCe1, DCe2, DDb0, DBc0, DBc1, DCg0]
    refine acall_own h0 [1] [1] (by simp only [SX0, SX1, SX2, SX3, SX4, SX5, SX6, SX7, SX8, SU0, SY0, SY1, Nat.reduceAdd, Nat.reduceMul, Nat.reduceSub, Nat.reduceLeDiff, Nat.reduceEqDiff, Nat.reduceLT, Nat.reduceBEq, ↓reduceIte, Int.reduceLE, Int.reduceLT, Int.reduceToNat, Int.reduceNeg, reduceCtorEq, Int.reduceEq, SF0, SF1, SF2, DCe0, DCe1, DCe2, DDb0, DBc0, DBc1, DCg0, SX0]) (by decide) (by decide) (by rfl) (by simp only [SX0, SX1, SX2, SX3, SX4, SX5, SX6, SX7, SX8, SU0, SY0, SY1, Nat.reduceAdd, Nat.reduceMul, Nat.reduceSub, Nat.reduceLeDiff, Nat.reduceEqDiff, Nat.reduceLT, Nat.reduceBEq, ↓reduceIte, Int.reduceLE, Int.reduceLT, Int.reduceToNat, Int.reduceNeg, reduceCtorEq, Int.reduceEq, SF0, SF1, SF2, DCe0, DCe1, DCe2, DDb0, DBc0, DBc1, DCg0, SX0]) ?_
    rintro _ _ ⟨rfl, rfl⟩
    simp (disch := omega) only [SX0, SX1, SX2, SX3, SX4, SX5, SX6, SX7, SX8, SU0, SY0, SY1, Nat.reduceAdd, Nat.reduceMul, Nat.reduceSub, Nat.reduceLeDiff, Nat.reduceEqDiff, Nat.reduceLT, Nat.reduceBEq, ↓reduceIte, Int.reduceLE, Int.reduceLT, Int.reduceToNat, Int.reduceNeg, reduceCtorEq, Int.reduceEq, SF0, SF1, SF2, DCe0, DCe1, DCe2, DDb0, DBc0, DBc1, DCg0]
    refine fin_frz (r := 1) (k := 2) rfl (by simp) ?_
    simp only [AV.frz, frzL, if_true, Nat.zero_add, true_and, List.length_map, Nat.le_refl, List.drop_zero]
    rw [List.take_of_length_le (by simp)]
    exact fin_free rfl ⟨by rw [if_pos hs.1, decide_eq_true hs.1], rfl⟩

theorem e_findKnot1 : Enters Try.prog 161 := enters_of Try.func161 (by kernel_rfl) (by kernel_rfl)
theorem findKnot1_c (q : Int × Int) (n : Int) : ACalls Try.prog 161 [.agg (knotRow q), .ptr 0 0] [.cells [.val (.int .i64 n)]] [0] (fun r L => r = .val (.bool (decide (q.1 = n))) ∧ L = [.cells [.val (.int .i64 n)]]) := by
  refine acalls_tm T_tt Try.func161 rfl e_findKnot1 6 rfl (W8 _ _ .any .any .any .any .any .any []) rfl (rv := [.tmp 3]) rfl (sx_sound (bl := []) T_tt _ _ _ ?_)
  simp (disch := omega) only [SX0, SX1, SX2, SX3, SX4, SX5, SX6, SX7, SX8, SU0, SY0, SY1, Nat.reduceAdd, Nat.reduceMul, Nat.reduceSub, Nat.reduceLeDiff, Nat.reduceEqDiff, Nat.reduceLT, Nat.reduceBEq, ↓reduceIte, Int.reduceLE, Int.reduceLT, Int.reduceToNat, Int.reduceNeg, reduceCtorEq, Int.reduceEq, SF0, SF1, SF2, DCe0, DCe1, DCe2, DDb0, DBc0, DBc1, DCg0]
  exact fin_zero (.val (.bool (decide (q.1 = n)))) (.cells [.val (.int .i64 n)]) ⟨rfl, rfl⟩ rfl rfl (by simp) (by simp)

theorem e_indexKnot : Enters Try.prog 160 := enters_of Try.func160 (by kernel_rfl) (by kernel_rfl)
theorem indexKnot_c (f : FuncId) (g : Int × Int → Bool) (v : Value) (ks : List (Int × Int)) (hl : ks.length < 2 ^ 40) (h : ∀ q ∈ ks, ACalls Try.prog f [.agg (knotRow q), .ptr 0 0] [.cells [.val v]] [0] (fun r L => r = .val (.bool (g q)) ∧ L = [.cells [.val v]])) :
    ACalls Try.prog 160 [.sl (ks.map knotRow), .fn f [.ptr 0 0]] [.cells [.val v]] [0] (fun r L => r = .val (.int .i64 (ixOf g ks)) ∧ L = [.cells [.val v]]) := by
  refine acalls_tm T_tt Try.func160 rfl e_indexKnot 17 rfl (W8 _ _ .any .any .any .any .any .any (W8 .any .any .any .any .any .any .any .any [.any, .any, .any])) rfl (rv := [.tmp 4]) rfl (sx_sound (bl := []) T_tt _ _ _ ?_)
  simp (disch := omega) only [SX0, SX1, SX2, SX3, SX4, SX5, SX6, SX7, SX8, SU0, SY0, SY1, Nat.reduceAdd, Nat.reduceMul, Nat.reduceSub, Nat.reduceLeDiff, Nat.reduceEqDiff, Nat.reduceLT, Nat.reduceBEq, ↓reduceIte, Int.reduceLE, Int.reduceLT, Int.reduceToNat, Int.reduceNeg, reduceCtorEq, Int.reduceEq, SF0, SF1, SF2, DCe0, DCe1, DCe2, DDb0, DBc0, DBc1, DCg0]
  with_reducible refine awp_loop_h 4 15 (fun (i : Nat) => [(7, .val (.int .i64 ks.length)), (8, .val (.int .i64 i))]) (fun _ => [.cells [.val v]]) (fun i => i ≤ ks.length ∧ ∀ p ∈ ks.take i, g p = false) (fun i => ks.length - i) 0 ⟨Nat.zero_le _, by simp⟩ ?_ (fun i hi => sx_sound (bl := []) T_tt _ _ _ ?_)
  · simp (disch := omega) only [SX0, SX1, SX2, SX3, SX4, SX5, SX6, SX7, SX8, SU0, SY0, SY1, Nat.reduceAdd, Nat.reduceMul, Nat.reduceSub, Nat.reduceLeDiff, Nat.reduceEqDiff, Nat.reduceLT, Nat.reduceBEq, ↓reduceIte, Int.reduceLE, Int.reduceLT, Int.reduceToNat, Int.reduceNeg, reduceCtorEq, Int.reduceEq, SF0, SF1, SF2, DCe0, DCe1, DCe2, DDb0, DBc0, DBc1, DCg0]
    (refine wk_le ?_ ?_ ?_; (focus (simp [W8, leTm, leAV, AV.under, underL]; done)); (focus (simp [leL, OB.under, underL, AV.under]; done)); (focus (simp; done)))
  · simp (disch := omega) only [SX0, SX1, SX2, SX3, SX4, SX5, SX6, SX7, SX8, SU0, SY0, SY1, Nat.reduceAdd, Nat.reduceMul, Nat.reduceSub, Nat.reduceLeDiff, Nat.reduceEqDiff, Nat.reduceLT, Nat.reduceBEq, ↓reduceIte, Int.reduceLE, Int.reduceLT, Int.reduceToNat, Int.reduceNeg, reduceCtorEq, Int.reduceEq, SF0, SF1, SF2, DCe0, DCe1, DCe2, DDb0, DBc0, DBc1, DCg0]
    refine br_dec (fun h1 => ?_) (fun h1 => ?_)
    · obtain ⟨q, hq⟩ := get_lt (l := ks) (i := i) (by omega)
      simp (disch := omega) only [SX0, SX1, SX2, SX3, SX4, SX5, SX6, SX7, SX8, SU0, SY0, SY1, Nat.reduceAdd, Nat.reduceMul, Nat.reduceSub, Nat.reduceLeDiff, Nat.reduceEqDiff, Nat.reduceLT, Nat.reduceBEq, ↓reduceIte, Int.reduceLE, Int.reduceLT, Int.reduceToNat, Int.reduceNeg, reduceCtorEq, Int.reduceEq, SF0, SF1, SF2, DCe0, DCe1, DCe2, DDb0, DBc0, DBc1, DCg0, hq]
      refine acall_cl (h q (List.mem_of_getElem? hq)) [0] [] (by simp only [SX0, SX1, SX2, SX3, SX4, SX5, SX6, SX7, SX8, SU0, SY0, SY1, Nat.reduceAdd, Nat.reduceMul, Nat.reduceSub, Nat.reduceLeDiff, Nat.reduceEqDiff, Nat.reduceLT, Nat.reduceBEq, ↓reduceIte, Int.reduceLE, Int.reduceLT, Int.reduceToNat, Int.reduceNeg, reduceCtorEq, Int.reduceEq, SF0, SF1, SF2, DCe0, DCe1, DCe2, DDb0, DBc0, DBc1, DCg0, SX0]) (by decide) (by decide) (by rfl) (by simp only [SX0, SX1, SX2, SX3, SX4, SX5, SX6, SX7, SX8, SU0, SY0, SY1, Nat.reduceAdd, Nat.reduceMul, Nat.reduceSub, Nat.reduceLeDiff, Nat.reduceEqDiff, Nat.reduceLT, Nat.reduceBEq, ↓reduceIte, Int.reduceLE, Int.reduceLT, Int.reduceToNat, Int.reduceNeg, reduceCtorEq, Int.reduceEq, SF0, SF1, SF2, DCe0, DCe1, DCe2, DDb0, DBc0, DBc1, DCg0, SX0]) ?_
      rintro _ _ ⟨rfl, rfl⟩
      simp (disch := omega) only [SX0, SX1, SX2, SX3, SX4, SX5, SX6, SX7, SX8, SU0, SY0, SY1, Nat.reduceAdd, Nat.reduceMul, Nat.reduceSub, Nat.reduceLeDiff, Nat.reduceEqDiff, Nat.reduceLT, Nat.reduceBEq, ↓reduceIte, Int.reduceLE, Int.reduceLT, Int.reduceToNat, Int.reduceNeg, reduceCtorEq, Int.reduceEq, SF0, SF1, SF2, DCe0, DCe1, DCe2, DDb0, DBc0, DBc1, DCg0]
      refine br_bool (fun h2 => ?_) (fun h2 => ?_)
      · simp (disch := omega) only [SX0, SX1, SX2, SX3, SX4, SX5, SX6, SX7, SX8, SU0, SY0, SY1, Nat.reduceAdd, Nat.reduceMul, Nat.reduceSub, Nat.reduceLeDiff, Nat.reduceEqDiff, Nat.reduceLT, Nat.reduceBEq, ↓reduceIte, Int.reduceLE, Int.reduceLT, Int.reduceToNat, Int.reduceNeg, reduceCtorEq, Int.reduceEq, SF0, SF1, SF2, DCe0, DCe1, DCe2, DDb0, DBc0, DBc1, DCg0]
        exact fin_zero (.val (.int .i64 (ixOf g ks))) (.cells [.val v]) ⟨rfl, rfl⟩ (by rw [ixOf_at hq hi.2 h2]; rfl) rfl (by simp) (by simp)
      · simp (disch := omega) only [SX0, SX1, SX2, SX3, SX4, SX5, SX6, SX7, SX8, SU0, SY0, SY1, Nat.reduceAdd, Nat.reduceMul, Nat.reduceSub, Nat.reduceLeDiff, Nat.reduceEqDiff, Nat.reduceLT, Nat.reduceBEq, ↓reduceIte, Int.reduceLE, Int.reduceLT, Int.reduceToNat, Int.reduceNeg, reduceCtorEq, Int.reduceEq, SF0, SF1, SF2, DCe0, DCe1, DCe2, DDb0, DBc0, DBc1, DCg0]
        refine ⟨i + 1, ⟨by omega, take_next hq hi.2 h2⟩, by omega, ?_⟩
        (refine wk_le ?_ ?_ ?_; (focus (simp [W8, leTm, leAV, AV.under, underL]; done)); (focus (simp [leL, OB.under, underL, AV.under]; done)); (focus (simp; done)))
    · simp (disch := omega) only [SX0, SX1, SX2, SX3, SX4, SX5, SX6, SX7, SX8, SU0, SY0, SY1, Nat.reduceAdd, Nat.reduceMul, Nat.reduceSub, Nat.reduceLeDiff, Nat.reduceEqDiff, Nat.reduceLT, Nat.reduceBEq, ↓reduceIte, Int.reduceLE, Int.reduceLT, Int.reduceToNat, Int.reduceNeg, reduceCtorEq, Int.reduceEq, SF0, SF1, SF2, DCe0, DCe1, DCe2, DDb0, DBc0, DBc1, DCg0]
      exact fin_zero (.val (.int .i64 (ixOf g ks))) (.cells [.val v]) ⟨rfl, rfl⟩ (by rw [ixOf_none (take_all (by omega) hi.2)]; rfl) rfl (by simp) (by simp)

theorem e_findKnot : Enters Try.prog 151 := enters_of Try.func151 (by kernel_rfl) (by kernel_rfl)
theorem findKnot_c (ks : List (Int × Int)) (n : Int) (hl : ks.length < 2 ^ 40) : ACalls Try.prog 151 [.sl (ks.map knotRow), .val (.int .i64 n)] [] [] (fun r L => r = .val (.int .i64 (ixOf (fun q : Int × Int => decide (q.1 = n)) ks)) ∧ L = []) := by
  refine acalls_tm T_tt Try.func151 rfl e_findKnot 6 rfl (W8 _ _ .any .any .any .any .any .any []) rfl (rv := [.tmp 4]) rfl (sx_sound (bl := []) T_tt _ _ _ ?_)
  simp (disch := omega) only [SX0, SX1, SX2, SX3, SX4, SX5, SX6, SX7, SX8, SU0, SY0, SY1, Nat.reduceAdd, Nat.reduceMul, Nat.reduceSub, Nat.reduceLeDiff, Nat.reduceEqDiff, Nat.reduceLT, Nat.reduceBEq, ↓reduceIte, Int.reduceLE, Int.reduceLT, Int.reduceToNat, Int.reduceNeg, reduceCtorEq, Int.reduceEq, SF0, SF1, SF2, DCe0, DCe1, DCe2, DDb0, DBc0, DBc1, DCg0]
  refine acall_own (indexKnot_c _ (fun q => decide (q.1 = n)) (.int .i64 n) ks hl fun q _ => findKnot1_c q n) [0] [] (by simp only [SX0, SX1, SX2, SX3, SX4, SX5, SX6, SX7, SX8, SU0, SY0, SY1, Nat.reduceAdd, Nat.reduceMul, Nat.reduceSub, Nat.reduceLeDiff, Nat.reduceEqDiff, Nat.reduceLT, Nat.reduceBEq, ↓reduceIte, Int.reduceLE, Int.reduceLT, Int.reduceToNat, Int.reduceNeg, reduceCtorEq, Int.reduceEq, SF0, SF1, SF2, DCe0, DCe1, DCe2, DDb0, DBc0, DBc1, DCg0, SX0]) (by decide) (by decide) (by rfl) (by simp only [SX0, SX1, SX2, SX3, SX4, SX5, SX6, SX7, SX8, SU0, SY0, SY1, Nat.reduceAdd, Nat.reduceMul, Nat.reduceSub, Nat.reduceLeDiff, Nat.reduceEqDiff, Nat.reduceLT, Nat.reduceBEq, ↓reduceIte, Int.reduceLE, Int.reduceLT, Int.reduceToNat, Int.reduceNeg, reduceCtorEq, Int.reduceEq, SF0, SF1, SF2, DCe0, DCe1, DCe2, DDb0, DBc0, DBc1, DCg0, SX0]) ?_
  rintro _ _ ⟨rfl, rfl⟩
  simp (disch := omega) only [SX0, SX1, SX2, SX3, SX4, SX5, SX6, SX7, SX8, SU0, SY0, SY1, Nat.reduceAdd, Nat.reduceMul, Nat.reduceSub, Nat.reduceLeDiff, Nat.reduceEqDiff, Nat.reduceLT, Nat.reduceBEq, ↓reduceIte, Int.reduceLE, Int.reduceLT, Int.reduceToNat, Int.reduceNeg, reduceCtorEq, Int.reduceEq, SF0, SF1, SF2, DCe0, DCe1, DCe2, DDb0, DBc0, DBc1, DCg0]
  exact fin_val ⟨rfl, rfl⟩

/-- The number of the cut above a cut. -/
def Plan.above (p : Plan) (n : Int) : Int :=
  if p.wf = true ∧ p.nodes ≤ 255 then
    match (p.knots 0 (-1)).find? fun q => decide (q.1 = n) with
    | some q => q.2
    | none => -2
  else -2

theorem ixOf_find {α : Type} {g : α → Bool} {l : List α} : (ixOf g l = -1 ∧ l.find? g = none) ∨ ∃ i x, ixOf g l = (i : Nat) ∧ l[i]? = some x ∧ l.find? g = some x := by
  unfold ixOf
  cases h : l.findIdx? g with
  | none => exact .inl ⟨rfl, by rw [List.findIdx?_eq_none_iff] at h; rw [List.find?_eq_none]; intro x hx; simp [h x hx]⟩
  | some i =>
    obtain ⟨hi, h1, h2⟩ := List.findIdx?_eq_some_iff_getElem.1 h
    refine .inr ⟨i, l[i], rfl, List.getElem?_eq_getElem hi, ?_⟩
    rw [List.find?_eq_some_iff_getElem]
    exact ⟨h1, i, hi, rfl, fun j hj => by simpa using h2 j hj⟩

end Go.Pc
