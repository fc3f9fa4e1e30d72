/- CutLengths of the program and of the reference. -/
import Derived.Test.YtjeabpbpoomlmaaHc
set_option linter.unusedSimpArgs false
set_option linter.unusedVariables false
namespace Go.Pc
open Go Go.Proofs

/-- The length of a cut. -/
def cutLen (q : Plan × Box) : Option Int := if q.1.op = 2 then some q.2.H else if q.1.op = 3 then some q.2.W else none
def Plan.cutL (p : Plan) (b : Box) : List Int := (p.parts b).filterMap cutLen
def Plan.cutLs (p : Plan) (k : Work) : List Int := (p.vparts k).filterMap cutLen
theorem cutLs_valid {p : Plan} {k : Work} (hv : p.valid k) : p.cutLs k = p.cutL k.sheet := by unfold Plan.cutLs Plan.vparts; rw [if_pos hv]; rfl
theorem cutLs_none {p : Plan} {k : Work} (hv : ¬ p.valid k) : p.cutLs k = [] := by unfold Plan.cutLs Plan.vparts; rw [if_neg hv]; rfl
theorem cutLs_len (p : Plan) (k : Work) : (p.cutLs k).length ≤ 255 := Nat.le_trans (List.length_filterMap_le _ _) (vparts_len p k)
theorem Plan.cutL_leaf {p : Plan} (hc : ¬ p.cut) (b : Box) : p.cutL b = [] := by
  unfold Plan.cutL; rw [Plan.parts_leaf hc]
  unfold Plan.cut at hc
  simp only [List.filterMap_cons, List.filterMap_nil, cutLen]
  rw [if_neg (by omega), if_neg (by omega)]
theorem Plan.cutL_cut {p x y : Plan} (hc : p.cut) (hk : p.ks = [x, y]) (b : Box) : p.cutL b = (if p.op = 2 then b.H else b.W) :: (x.cutL (p.split b).1 ++ y.cutL (p.split b).2) := by
  unfold Plan.cutL; rw [Plan.parts_cut hc hk, List.filterMap_cons, List.filterMap_append]
  have : cutLen (p, b) = some (if p.op = 2 then b.H else b.W) := by
    unfold Plan.cut at hc
    unfold cutLen
    by_cases h : p.op = 2
    · rw [if_pos h, if_pos h]
    · rw [if_neg h, if_pos (by simp only; omega), if_neg h]
  rw [this]

theorem e_cutLengthsI : Enters Try.prog 30 := enters_of Try.func30 (by kernel_rfl) (by kernel_rfl)
set_option maxHeartbeats 1000000 in
theorem cutLengthsI_o (k : Work) (p : Plan) (hk : k.Ps.length < 2 ^ 40) : ACalls Try.prog 30 [.agg k.cs, .agg p.cs] [] [] (fun r L => r = .os 0 1 0 (p.cutLs k).length ∧ L = [.vec 1 (ints (p.cutLs k))]) := by
  refine acalls_tm T_tt Try.func30 rfl e_cutLengthsI 35 rfl (W8 _ _ .any .any .any .any .any .any (W8 .any .any .any .any .any .any .any .any (W8 .any .any .any .any .any .any .any .any (W8 .any .any .any .any .any .any .any .any [.any, .any, .any, .any, .any])))) rfl (rv := [.tmp 4]) rfl (sx_sound (bl := []) T_tt _ _ _ ?_)
  simp (disch := omega) only [SX0, SX1, SX2, SX3, SX4, SX5, SX6, SX7, SX8, SU0, SY0, SY1, Nat.reduceAdd, Nat.reduceMul, Nat.reduceSub, Nat.reduceLeDiff, Nat.reduceEqDiff, Nat.reduceLT, Nat.reduceBEq, ↓reduceIte, Int.reduceLE, Int.reduceLT, Int.reduceToNat, Int.reduceNeg, reduceCtorEq, Int.reduceEq, SF0, SF1, SF2, DHb0, DHb1, DHa0, DCg0, DCe0, DCe1, DCe2, DDb0, DBc0, DBc1]
  refine acall_one (partsOf_c k p hk) (by simp [freeL, AV.free, Plan.free, Work.free]) rfl ?_
  have hl := vparts_len p k
  unfold Plan.cutLs
  unfold Plan.vparts at *
  generalize (if p.valid k then p.parts k.sheet else []) = l at *
  simp (disch := omega) only [SX0, SX1, SX2, SX3, SX4, SX5, SX6, SX7, SX8, SU0, SY0, SY1, Nat.reduceAdd, Nat.reduceMul, Nat.reduceSub, Nat.reduceLeDiff, Nat.reduceEqDiff, Nat.reduceLT, Nat.reduceBEq, ↓reduceIte, Int.reduceLE, Int.reduceLT, Int.reduceToNat, Int.reduceNeg, reduceCtorEq, Int.reduceEq, SF0, SF1, SF2, DHb0, DHb1, DHa0, DCg0, DCe0, DCe1, DCe2, DDb0, DBc0, DBc1]
  refine awp_wk (wk_nil 5 1 (by decide) rfl) ?_
  simp (disch := omega) only [SX0, SX1, SX2, SX3, SX4, SX5, SX6, SX7, SX8, SU0, SY0, SY1, Nat.reduceAdd, Nat.reduceMul, Nat.reduceSub, Nat.reduceLeDiff, Nat.reduceEqDiff, Nat.reduceLT, Nat.reduceBEq, ↓reduceIte, Int.reduceLE, Int.reduceLT, Int.reduceToNat, Int.reduceNeg, reduceCtorEq, Int.reduceEq, SF0, SF1, SF2, DHb0, DHb1, DHa0, DCg0, DCe0, DCe1, DCe2, DDb0, DBc0, DBc1]
  with_reducible refine awp_loop_h 5 31 (fun (i : Nat) => [(5, .os 2 1 0 ((l.take i).filterMap cutLen).length), (10, .sl (l.map partRow)), (11, .val (.int .i64 l.length)), (12, .val (.int .i64 i))]) (fun i => [.cells k.cs, .cells p.cs, .vec 1 (ints ((l.take i).filterMap cutLen))]) (fun i => i ≤ l.length) (fun i => l.length - i) 0 (Nat.zero_le _) ?_ (fun i hi => sx_sound (bl := []) T_tt _ _ _ ?_)
  · simp (disch := omega) only [SX0, SX1, SX2, SX3, SX4, SX5, SX6, SX7, SX8, SU0, SY0, SY1, Nat.reduceAdd, Nat.reduceMul, Nat.reduceSub, Nat.reduceLeDiff, Nat.reduceEqDiff, Nat.reduceLT, Nat.reduceBEq, ↓reduceIte, Int.reduceLE, Int.reduceLT, Int.reduceToNat, Int.reduceNeg, reduceCtorEq, Int.reduceEq, SF0, SF1, SF2, DHb0, DHb1, DHa0, DCg0, DCe0, DCe1, DCe2, DDb0, DBc0, DBc1]
    (refine wk_le ?_ ?_ ?_; (focus (simp [W8, leTm, leAV, AV.under, underL, Work.under, Plan.under, ints]; done)); (focus (simp [leL, OB.under, underL, AV.under, Work.under, Plan.under, ints]; done)); (focus (simp; done)))
  simp (disch := omega) only [SX0, SX1, SX2, SX3, SX4, SX5, SX6, SX7, SX8, SU0, SY0, SY1, Nat.reduceAdd, Nat.reduceMul, Nat.reduceSub, Nat.reduceLeDiff, Nat.reduceEqDiff, Nat.reduceLT, Nat.reduceBEq, ↓reduceIte, Int.reduceLE, Int.reduceLT, Int.reduceToNat, Int.reduceNeg, reduceCtorEq, Int.reduceEq, SF0, SF1, SF2, DHb0, DHb1, DHa0, DCg0, DCe0, DCe1, DCe2, DDb0, DBc0, DBc1]
  refine br_dec (fun h1 => ?_) (fun h1 => ?_)
  · obtain ⟨q, hq⟩ := get_lt (l := l) (i := i) (by omega)
    simp (disch := omega) only [SX0, SX1, SX2, SX3, SX4, SX5, SX6, SX7, SX8, SU0, SY0, SY1, Nat.reduceAdd, Nat.reduceMul, Nat.reduceSub, Nat.reduceLeDiff, Nat.reduceEqDiff, Nat.reduceLT, Nat.reduceBEq, ↓reduceIte, Int.reduceLE, Int.reduceLT, Int.reduceToNat, Int.reduceNeg, reduceCtorEq, Int.reduceEq, SF0, SF1, SF2, DHb0, DHb1, DHa0, DCg0, DCe0, DCe1, DCe2, DDb0, DBc0, DBc1, hq]
    have p7 : (partRow q)[7]? = some (.val (.int .i64 q.2.W)) := by simp [partRow, Plan.cs_eq, Box.cs]
    have p8 : (partRow q)[8]? = some (.val (.int .i64 q.2.H)) := by simp [partRow, Plan.cs_eq, Box.cs]
    have hlt : ((l.take i).filterMap cutLen).length ≤ i := Nat.le_trans (List.length_filterMap_le _ _) (by rw [List.length_take]; omega)
    refine br_dec (fun h2 => ?_) (fun h2 => ?_)
    · have e : (l.take (i + 1)).filterMap cutLen = (l.take i).filterMap cutLen ++ [q.2.H] := by rw [filterMap_take hq]; simp [cutLen, h2]
      simp (disch := omega) only [SX0, SX1, SX2, SX3, SX4, SX5, SX6, SX7, SX8, SU0, SY0, SY1, Nat.reduceAdd, Nat.reduceMul, Nat.reduceSub, Nat.reduceLeDiff, Nat.reduceEqDiff, Nat.reduceLT, Nat.reduceBEq, ↓reduceIte, Int.reduceLE, Int.reduceLT, Int.reduceToNat, Int.reduceNeg, reduceCtorEq, Int.reduceEq, SF0, SF1, SF2, DHb0, DHb1, DHa0, DCg0, DCe0, DCe1, DCe2, DDb0, DBc0, DBc1, p8]
      refine req (by omega) ?_
      simp (disch := omega) only [SX0, SX1, SX2, SX3, SX4, SX5, SX6, SX7, SX8, SU0, SY0, SY1, Nat.reduceAdd, Nat.reduceMul, Nat.reduceSub, Nat.reduceLeDiff, Nat.reduceEqDiff, Nat.reduceLT, Nat.reduceBEq, ↓reduceIte, Int.reduceLE, Int.reduceLT, Int.reduceToNat, Int.reduceNeg, reduceCtorEq, Int.reduceEq, SF0, SF1, SF2, DHb0, DHb1, DHa0, DCg0, DCe0, DCe1, DCe2, DDb0, DBc0, DBc1]
      refine ⟨i + 1, by omega, by omega, ?_⟩
      (refine wk_le ?_ ?_ ?_; (focus (simp [W8, leTm, leAV, AV.under, underL, Work.under, Plan.under, e, ints]; done)); (focus (simp [leL, OB.under, underL, AV.under, Work.under, Plan.under, e, ints]; done)); (focus (simp; done)))
    · simp (disch := omega) only [SX0, SX1, SX2, SX3, SX4, SX5, SX6, SX7, SX8, SU0, SY0, SY1, Nat.reduceAdd, Nat.reduceMul, Nat.reduceSub, Nat.reduceLeDiff, Nat.reduceEqDiff, Nat.reduceLT, Nat.reduceBEq, ↓reduceIte, Int.reduceLE, Int.reduceLT, Int.reduceToNat, Int.reduceNeg, reduceCtorEq, Int.reduceEq, SF0, SF1, SF2, DHb0, DHb1, DHa0, DCg0, DCe0, DCe1, DCe2, DDb0, DBc0, DBc1]
      refine br_dec (fun h3 => ?_) (fun h3 => ?_)
      · have e : (l.take (i + 1)).filterMap cutLen = (l.take i).filterMap cutLen ++ [q.2.W] := by rw [filterMap_take hq]; simp [cutLen, h2, h3]
        simp (disch := omega) only [SX0, SX1, SX2, SX3, SX4, SX5, SX6, SX7, SX8, SU0, SY0, SY1, Nat.reduceAdd, Nat.reduceMul, Nat.reduceSub, Nat.reduceLeDiff, Nat.reduceEqDiff, Nat.reduceLT, Nat.reduceBEq, ↓reduceIte, Int.reduceLE, Int.reduceLT, Int.reduceToNat, Int.reduceNeg, reduceCtorEq, Int.reduceEq, SF0, SF1, SF2, DHb0, DHb1, DHa0, DCg0, DCe0, DCe1, DCe2, DDb0, DBc0, DBc1, p7]
        refine req (by omega) ?_
        simp (disch := omega) only [SX0, SX1, SX2, SX3, SX4, SX5, SX6, SX7, SX8, SU0, SY0, SY1, Nat.reduceAdd, Nat.reduceMul, Nat.reduceSub, Nat.reduceLeDiff, Nat.reduceEqDiff, Nat.reduceLT, Nat.reduceBEq, ↓reduceIte, Int.reduceLE, Int.reduceLT, Int.reduceToNat, Int.reduceNeg, reduceCtorEq, Int.reduceEq, SF0, SF1, SF2, DHb0, DHb1, DHa0, DCg0, DCe0, DCe1, DCe2, DDb0, DBc0, DBc1]
        refine ⟨i + 1, by omega, by omega, ?_⟩
        (refine wk_le ?_ ?_ ?_; (focus (simp [W8, leTm, leAV, AV.under, underL, Work.under, Plan.under, e, ints]; done)); (focus (simp [leL, OB.under, underL, AV.under, Work.under, Plan.under, e, ints]; done)); (focus (simp; done)))
      · have e : (l.take (i + 1)).filterMap cutLen = (l.take i).filterMap cutLen := by rw [filterMap_take hq]; simp [cutLen, h2, h3]
        simp (disch := omega) only [SX0, SX1, SX2, SX3, SX4, SX5, SX6, SX7, SX8, SU0, SY0, SY1, Nat.reduceAdd, Nat.reduceMul, Nat.reduceSub, Nat.reduceLeDiff, Nat.reduceEqDiff, Nat.reduceLT, Nat.reduceBEq, ↓reduceIte, Int.reduceLE, Int.reduceLT, Int.reduceToNat, Int.reduceNeg, reduceCtorEq, Int.reduceEq, SF0, SF1, SF2, DHb0, DHb1, DHa0, DCg0, DCe0, DCe1, DCe2, DDb0, DBc0, DBc1]
        refine ⟨i + 1, by omega, by omega, ?_⟩
        (refine wk_le ?_ ?_ ?_; (focus (simp [W8, leTm, leAV, AV.under, underL, Work.under, Plan.under, e, ints]; done)); (focus (simp [leL, OB.under, underL, AV.under, Work.under, Plan.under, e, ints]; done)); (focus (simp; done)))
  · rw [List.take_of_length_le (by omega)]
    simp (disch := omega) only [SX0, SX1, SX2, SX3, SX4, SX5, SX6, SX7, SX8, SU0, SY0, SY1, Nat.reduceAdd, Nat.reduceMul, Nat.reduceSub, Nat.reduceLeDiff, Nat.reduceEqDiff, Nat.reduceLT, Nat.reduceBEq, ↓reduceIte, Int.reduceLE, Int.reduceLT, Int.reduceToNat, Int.reduceNeg, reduceCtorEq, Int.reduceEq, SF0, SF1, SF2, DHb0, DHb1, DHa0, DCg0, DCe0, DCe1, DCe2, DDb0, DBc0, DBc1]
    exact fin_own rfl ⟨rfl, rfl⟩
theorem cutLengthsI_c (k : Work) (p : Plan) (hk : k.Ps.length < 2 ^ 40) : ACalls Try.prog 30 [.agg k.cs, .agg p.cs] [] [] (fun r L => r = .sl (ints (p.cutLs k)) ∧ L = []) := (cutLengthsI_o k p hk).frozen (by simp [ints])

theorem intRows' {u : List Int} : ∀ c ∈ u.map (fun x => [AV.val (.int .i64 x)]), c.length = 1 ∧ c.all AV.one = true ∧ c.all AV.pure = true := fun c hc => by
  obtain ⟨q, _, rfl⟩ := List.mem_map.1 hc
  exact ⟨rfl, rfl, rfl⟩

theorem e_cutLengths0 : Enters Try.prog 74 := enters_of Try.func74 (by kernel_rfl) (by kernel_rfl)
set_option maxHeartbeats 4000000 in
theorem cutLengths0_n (k : Work) : ∀ (n : Nat) (p : Plan) (b : Box), p.nodes ≤ n → p.wf = true → b.sane → p.fits k b.W b.H = true → p.nodes ≤ 255 →
    ACalls Try.prog 74 [.agg p.cs, .val (.int .i64 b.W), .val (.int .i64 b.H)] [] [] (fun r L => r = .os 0 1 0 (p.cutL b).length ∧ L = [.vec 1 (ints (p.cutL b))]) := by
  intro n
  induction n with
  | zero => intro p b h; have := p.nodes_pos; omega
  | succ n ih =>
  intro p b hn hw hb hf h255
  refine acalls_tm T_tt Try.func74 rfl e_cutLengths0 59 rfl (W8 _ _ _ .any .any .any .any .any (W8 .any .any .any .any .any .any .any .any (W8 .any .any .any .any .any .any .any .any (W8 .any .any .any .any .any .any .any .any (W8 .any .any .any .any .any .any .any .any (W8 .any .any .any .any .any .any .any .any (W8 .any .any .any .any .any .any .any .any [.any, .any, .any, .any, .any, .any]))))))) rfl (rv := [.tmp 6]) rfl (sx_sound (bl := [61]) T_tt _ _ _ ?_)
  simp (disch := omega) only [SX0, SX1, SX2, SX3, SX4, SX5, SX6, SX7, SX8, SU0, SY0, SY1, Nat.reduceAdd, Nat.reduceMul, Nat.reduceSub, Nat.reduceLeDiff, Nat.reduceEqDiff, Nat.reduceLT, Nat.reduceBEq, ↓reduceIte, Int.reduceLE, Int.reduceLT, Int.reduceToNat, Int.reduceNeg, reduceCtorEq, Int.reduceEq, SF0, SF1, SF2, DHb0, DHb1, DHa0, DCg0, DCe0, DCe1, DCe2, DDb0, DBc0, DBc1]
  refine br_dec (fun h2 => ?_) (fun h2 => ?_)
  · have hc : p.cut := .inl h2
    obtain ⟨x, y, hk, hx, hy, nx, ny⟩ := Plan.two hw hc
    obtain ⟨f1, f2, g1, g2, g3⟩ := Plan.fits_cut hc hk hf
    obtain ⟨s1, s2, _⟩ := Plan.split_sane hc hk hb hf
    have hbb := hb
    unfold Box.sane at hbb
    have hat : p.at_ ≤ b.W - 1 := g2 h2
    have hnn := Plan.nodes_two hk
    have i1 := ih x (p.split b).1 (by omega) hx s1 f1 (by omega)
    have i2 := ih y (p.split b).2 (by omega) hy s2 f2 (by omega)
    have ew : (p.split b).1.W = p.at_ ∧ (p.split b).1.H = b.H ∧ (p.split b).2.W = b.W - p.at_ ∧ (p.split b).2.H = b.H := by unfold Plan.split; rw [if_pos h2]; exact ⟨rfl, rfl, rfl, rfl⟩
    rw [ew.1, ew.2.1] at i1
    rw [ew.2.2.1, ew.2.2.2] at i2
    have ep := Plan.cutL_cut hc hk b
    rw [if_pos h2] at ep
    have l1 : (x.cutL (p.split b).1).length ≤ 255 := Nat.le_trans (List.length_filterMap_le _ _) (by rw [Plan.parts_len x hx]; omega)
    have l2 : (y.cutL (p.split b).2).length ≤ 255 := Nat.le_trans (List.length_filterMap_le _ _) (by rw [Plan.parts_len y hy]; omega)
    rw [ep]
    generalize x.cutL (p.split b).1 = u1 at *
    generalize y.cutL (p.split b).2 = u2 at *
    simp (disch := omega) only [SX0, SX1, SX2, SX3, SX4, SX5, SX6, SX7, SX8, SU0, SY0, SY1, Nat.reduceAdd, Nat.reduceMul, Nat.reduceSub, Nat.reduceLeDiff, Nat.reduceEqDiff, Nat.reduceLT, Nat.reduceBEq, ↓reduceIte, Int.reduceLE, Int.reduceLT, Int.reduceToNat, Int.reduceNeg, reduceCtorEq, Int.reduceEq, SF0, SF1, SF2, DHb0, DHb1, DHa0, DCg0, DCe0, DCe1, DCe2, DDb0, DBc0, DBc1]
    refine awp_float (bl := [14]) T_tt mixed [0] [0, 2, 3, 4, 5, 6, 7, 8, 9] [(1, [(0, .f 13)]), (10, [(2, .f 15), (3, .f 16), (4, .f 17), (5, .f 18), (6, .f 19), (7, .f 20), (8, .f 21), (9, .f 22)]), (11, [])] [] (by kernel_rfl) (by kernel_rfl) ?_
    simp (disch := omega) only [SX0, SX1, SX2, SX3, SX4, SX5, SX6, SX7, SX8, SU0, SY0, SY1, Nat.reduceAdd, Nat.reduceMul, Nat.reduceSub, Nat.reduceLeDiff, Nat.reduceEqDiff, Nat.reduceLT, Nat.reduceBEq, ↓reduceIte, Int.reduceLE, Int.reduceLT, Int.reduceToNat, Int.reduceNeg, reduceCtorEq, Int.reduceEq, SF0, SF1, SF2, DHb0, DHb1, DHa0, DCg0, DCe0, DCe1, DCe2, DDb0, DBc0, DBc1, hk]
    refine qc_one (i1.frozen (by simp [ints])) (by simp [freeL, AV.free, Plan.free]) ?_
    simp (disch := omega) only [SX0, SX1, SX2, SX3, SX4, SX5, SX6, SX7, SX8, SU0, SY0, SY1, Nat.reduceAdd, Nat.reduceMul, Nat.reduceSub, Nat.reduceLeDiff, Nat.reduceEqDiff, Nat.reduceLT, Nat.reduceBEq, ↓reduceIte, Int.reduceLE, Int.reduceLT, Int.reduceToNat, Int.reduceNeg, reduceCtorEq, Int.reduceEq, SF0, SF1, SF2, DHb0, DHb1, DHa0, DCg0, DCe0, DCe1, DCe2, DDb0, DBc0, DBc1, hk]
    refine qc_one (i1.frozen (by simp [ints])) (by simp [freeL, AV.free, Plan.free]) ?_
    simp (disch := omega) only [SX0, SX1, SX2, SX3, SX4, SX5, SX6, SX7, SX8, SU0, SY0, SY1, Nat.reduceAdd, Nat.reduceMul, Nat.reduceSub, Nat.reduceLeDiff, Nat.reduceEqDiff, Nat.reduceLT, Nat.reduceBEq, ↓reduceIte, Int.reduceLE, Int.reduceLT, Int.reduceToNat, Int.reduceNeg, reduceCtorEq, Int.reduceEq, SF0, SF1, SF2, DHb0, DHb1, DHa0, DCg0, DCe0, DCe1, DCe2, DDb0, DBc0, DBc1, SX0, hk]
    refine req intRows' ?_
    simp (disch := omega) only [SX0, SX1, SX2, SX3, SX4, SX5, SX6, SX7, SX8, SU0, SY0, SY1, Nat.reduceAdd, Nat.reduceMul, Nat.reduceSub, Nat.reduceLeDiff, Nat.reduceEqDiff, Nat.reduceLT, Nat.reduceBEq, ↓reduceIte, Int.reduceLE, Int.reduceLT, Int.reduceToNat, Int.reduceNeg, reduceCtorEq, Int.reduceEq, SF0, SF1, SF2, DHb0, DHb1, DHa0, DCg0, DCe0, DCe1, DCe2, DDb0, DBc0, DBc1, SX0]
    refine req (by omega) ?_
    simp (disch := omega) only [SX0, SX1, SX2, SX3, SX4, SX5, SX6, SX7, SX8, SU0, SY0, SY1, Nat.reduceAdd, Nat.reduceMul, Nat.reduceSub, Nat.reduceLeDiff, Nat.reduceEqDiff, Nat.reduceLT, Nat.reduceBEq, ↓reduceIte, Int.reduceLE, Int.reduceLT, Int.reduceToNat, Int.reduceNeg, reduceCtorEq, Int.reduceEq, SF0, SF1, SF2, DHb0, DHb1, DHa0, DCg0, DCe0, DCe1, DCe2, DDb0, DBc0, DBc1, SX0]
    refine awp_float (bl := []) T_tt mixed [0] [1, 2, 3, 4, 5, 6, 7, 8, 9, 10] [(0, []), (11, [(1, .f 25), (2, .f 26), (3, .f 27), (4, .f 28), (5, .f 29), (6, .f 30), (7, .f 31), (8, .f 32), (9, .f 33), (10, .f 34)]), (12, [])] [] (by kernel_rfl) (by kernel_rfl) ?_
    simp (disch := omega) only [SX0, SX1, SX2, SX3, SX4, SX5, SX6, SX7, SX8, SU0, SY0, SY1, Nat.reduceAdd, Nat.reduceMul, Nat.reduceSub, Nat.reduceLeDiff, Nat.reduceEqDiff, Nat.reduceLT, Nat.reduceBEq, ↓reduceIte, Int.reduceLE, Int.reduceLT, Int.reduceToNat, Int.reduceNeg, reduceCtorEq, Int.reduceEq, SF0, SF1, SF2, DHb0, DHb1, DHa0, DCg0, DCe0, DCe1, DCe2, DDb0, DBc0, DBc1, hk]
    refine qc_one (i2.frozen (by simp [ints])) (by simp [freeL, AV.free, Plan.free]) ?_
    simp (disch := omega) only [SX0, SX1, SX2, SX3, SX4, SX5, SX6, SX7, SX8, SU0, SY0, SY1, Nat.reduceAdd, Nat.reduceMul, Nat.reduceSub, Nat.reduceLeDiff, Nat.reduceEqDiff, Nat.reduceLT, Nat.reduceBEq, ↓reduceIte, Int.reduceLE, Int.reduceLT, Int.reduceToNat, Int.reduceNeg, reduceCtorEq, Int.reduceEq, SF0, SF1, SF2, DHb0, DHb1, DHa0, DCg0, DCe0, DCe1, DCe2, DDb0, DBc0, DBc1, hk]
    refine qc_one (i2.frozen (by simp [ints])) (by simp [freeL, AV.free, Plan.free]) ?_
    simp (disch := omega) only [SX0, SX1, SX2, SX3, SX4, SX5, SX6, SX7, SX8, SU0, SY0, SY1, Nat.reduceAdd, Nat.reduceMul, Nat.reduceSub, Nat.reduceLeDiff, Nat.reduceEqDiff, Nat.reduceLT, Nat.reduceBEq, ↓reduceIte, Int.reduceLE, Int.reduceLT, Int.reduceToNat, Int.reduceNeg, reduceCtorEq, Int.reduceEq, SF0, SF1, SF2, DHb0, DHb1, DHa0, DCg0, DCe0, DCe1, DCe2, DDb0, DBc0, DBc1]
    refine req intRows' ?_
    simp (disch := omega) only [SX0, SX1, SX2, SX3, SX4, SX5, SX6, SX7, SX8, SU0, SY0, SY1, Nat.reduceAdd, Nat.reduceMul, Nat.reduceSub, Nat.reduceLeDiff, Nat.reduceEqDiff, Nat.reduceLT, Nat.reduceBEq, ↓reduceIte, Int.reduceLE, Int.reduceLT, Int.reduceToNat, Int.reduceNeg, reduceCtorEq, Int.reduceEq, SF0, SF1, SF2, DHb0, DHb1, DHa0, DCg0, DCe0, DCe1, DCe2, DDb0, DBc0, DBc1]
    refine req (by omega) ?_
    simp (disch := omega) only [SX0, SX1, SX2, SX3, SX4, SX5, SX6, SX7, SX8, SU0, SY0, SY1, Nat.reduceAdd, Nat.reduceMul, Nat.reduceSub, Nat.reduceLeDiff, Nat.reduceEqDiff, Nat.reduceLT, Nat.reduceBEq, ↓reduceIte, Int.reduceLE, Int.reduceLT, Int.reduceToNat, Int.reduceNeg, reduceCtorEq, Int.reduceEq, SF0, SF1, SF2, DHb0, DHb1, DHa0, DCg0, DCe0, DCe1, DCe2, DDb0, DBc0, DBc1]
    exact fin_ks [1] (.os 0 1 0 (b.H :: (u1 ++ u2)).length) [.vec 1 (ints (b.H :: (u1 ++ u2)))] ⟨rfl, rfl⟩ (by simp [AV.ren, nameK]; omega) (by simp [keepL, nameK, OB.ren, ints]) (by simp) (by simp) (by simp)
  simp (disch := omega) only [SX0, SX1, SX2, SX3, SX4, SX5, SX6, SX7, SX8, SU0, SY0, SY1, Nat.reduceAdd, Nat.reduceMul, Nat.reduceSub, Nat.reduceLeDiff, Nat.reduceEqDiff, Nat.reduceLT, Nat.reduceBEq, ↓reduceIte, Int.reduceLE, Int.reduceLT, Int.reduceToNat, Int.reduceNeg, reduceCtorEq, Int.reduceEq, SF0, SF1, SF2, DHb0, DHb1, DHa0, DCg0, DCe0, DCe1, DCe2, DDb0, DBc0, DBc1]
  refine br_dec (fun h3 => ?_) (fun h3 => ?_)
  · have hc : p.cut := .inr h3
    obtain ⟨x, y, hk, hx, hy, nx, ny⟩ := Plan.two hw hc
    obtain ⟨f1, f2, g1, g2, g3⟩ := Plan.fits_cut hc hk hf
    obtain ⟨s1, s2, _⟩ := Plan.split_sane hc hk hb hf
    have hbb := hb
    unfold Box.sane at hbb
    have hat : p.at_ ≤ b.H - 1 := g3 (by omega)
    have hnn := Plan.nodes_two hk
    have i1 := ih x (p.split b).1 (by omega) hx s1 f1 (by omega)
    have i2 := ih y (p.split b).2 (by omega) hy s2 f2 (by omega)
    have ew : (p.split b).1.W = b.W ∧ (p.split b).1.H = p.at_ ∧ (p.split b).2.W = b.W ∧ (p.split b).2.H = b.H - p.at_ := by unfold Plan.split; rw [if_neg (by omega)]; exact ⟨rfl, rfl, rfl, rfl⟩
    rw [ew.1, ew.2.1] at i1
    rw [ew.2.2.1, ew.2.2.2] at i2
    have ep := Plan.cutL_cut hc hk b
    rw [if_neg (by omega)] at ep
    have l1 : (x.cutL (p.split b).1).length ≤ 255 := Nat.le_trans (List.length_filterMap_le _ _) (by rw [Plan.parts_len x hx]; omega)
    have l2 : (y.cutL (p.split b).2).length ≤ 255 := Nat.le_trans (List.length_filterMap_le _ _) (by rw [Plan.parts_len y hy]; omega)
    rw [ep]
    generalize x.cutL (p.split b).1 = u1 at *
    generalize y.cutL (p.split b).2 = u2 at *
    simp (disch := omega) only [SX0, SX1, SX2, SX3, SX4, SX5, SX6, SX7, SX8, SU0, SY0, SY1, Nat.reduceAdd, Nat.reduceMul, Nat.reduceSub, Nat.reduceLeDiff, Nat.reduceEqDiff, Nat.reduceLT, Nat.reduceBEq, ↓reduceIte, Int.reduceLE, Int.reduceLT, Int.reduceToNat, Int.reduceNeg, reduceCtorEq, Int.reduceEq, SF0, SF1, SF2, DHb0, DHb1, DHa0, DCg0, DCe0, DCe1, DCe2, DDb0, DBc0, DBc1]
    refine awp_float (bl := [39]) T_tt mixed [0] [0, 2, 3, 4, 5, 6, 7, 8, 9] [(1, [(0, .f 38)]), (10, [(2, .f 40), (3, .f 41), (4, .f 42), (5, .f 43), (6, .f 44), (7, .f 45), (8, .f 46), (9, .f 47)]), (11, [])] [] (by kernel_rfl) (by kernel_rfl) ?_
    simp (disch := omega) only [SX0, SX1, SX2, SX3, SX4, SX5, SX6, SX7, SX8, SU0, SY0, SY1, Nat.reduceAdd, Nat.reduceMul, Nat.reduceSub, Nat.reduceLeDiff, Nat.reduceEqDiff, Nat.reduceLT, Nat.reduceBEq, ↓reduceIte, Int.reduceLE, Int.reduceLT, Int.reduceToNat, Int.reduceNeg, reduceCtorEq, Int.reduceEq, SF0, SF1, SF2, DHb0, DHb1, DHa0, DCg0, DCe0, DCe1, DCe2, DDb0, DBc0, DBc1, hk]
    refine qc_one (i1.frozen (by simp [ints])) (by simp [freeL, AV.free, Plan.free]) ?_
    simp (disch := omega) only [SX0, SX1, SX2, SX3, SX4, SX5, SX6, SX7, SX8, SU0, SY0, SY1, Nat.reduceAdd, Nat.reduceMul, Nat.reduceSub, Nat.reduceLeDiff, Nat.reduceEqDiff, Nat.reduceLT, Nat.reduceBEq, ↓reduceIte, Int.reduceLE, Int.reduceLT, Int.reduceToNat, Int.reduceNeg, reduceCtorEq, Int.reduceEq, SF0, SF1, SF2, DHb0, DHb1, DHa0, DCg0, DCe0, DCe1, DCe2, DDb0, DBc0, DBc1, hk]
    refine qc_one (i1.frozen (by simp [ints])) (by simp [freeL, AV.free, Plan.free]) ?_
    simp (disch := omega) only [SX0, SX1, SX2, SX3, SX4, SX5, SX6, SX7, SX8, SU0, SY0, SY1, Nat.reduceAdd, Nat.reduceMul, Nat.reduceSub, Nat.reduceLeDiff, Nat.reduceEqDiff, Nat.reduceLT, Nat.reduceBEq, ↓reduceIte, Int.reduceLE, Int.reduceLT, Int.reduceToNat, Int.reduceNeg, reduceCtorEq, Int.reduceEq, SF0, SF1, SF2, DHb0, DHb1, DHa0, DCg0, DCe0, DCe1, DCe2, DDb0, DBc0, DBc1, SX0, hk]
    refine req intRows' ?_
    simp (disch := omega) only [SX0, SX1, SX2, SX3, SX4, SX5, SX6, SX7, SX8, SU0, SY0, SY1, Nat.reduceAdd, Nat.reduceMul, Nat.reduceSub, Nat.reduceLeDiff, Nat.reduceEqDiff, Nat.reduceLT, Nat.reduceBEq, ↓reduceIte, Int.reduceLE, Int.reduceLT, Int.reduceToNat, Int.reduceNeg, reduceCtorEq, Int.reduceEq, SF0, SF1, SF2, DHb0, DHb1, DHa0, DCg0, DCe0, DCe1, DCe2, DDb0, DBc0, DBc1, SX0]
    refine req (by omega) ?_
    simp (disch := omega) only [SX0, SX1, SX2, SX3, SX4, SX5, SX6, SX7, SX8, SU0, SY0, SY1, Nat.reduceAdd, Nat.reduceMul, Nat.reduceSub, Nat.reduceLeDiff, Nat.reduceEqDiff, Nat.reduceLT, Nat.reduceBEq, ↓reduceIte, Int.reduceLE, Int.reduceLT, Int.reduceToNat, Int.reduceNeg, reduceCtorEq, Int.reduceEq, SF0, SF1, SF2, DHb0, DHb1, DHa0, DCg0, DCe0, DCe1, DCe2, DDb0, DBc0, DBc1, SX0]
    refine awp_float (bl := []) T_tt mixed [0] [1, 2, 3, 4, 5, 6, 7, 8, 9, 10] [(0, []), (11, [(1, .f 50), (2, .f 51), (3, .f 52), (4, .f 53), (5, .f 54), (6, .f 55), (7, .f 56), (8, .f 57), (9, .f 58), (10, .f 59)]), (12, [])] [] (by kernel_rfl) (by kernel_rfl) ?_
    simp (disch := omega) only [SX0, SX1, SX2, SX3, SX4, SX5, SX6, SX7, SX8, SU0, SY0, SY1, Nat.reduceAdd, Nat.reduceMul, Nat.reduceSub, Nat.reduceLeDiff, Nat.reduceEqDiff, Nat.reduceLT, Nat.reduceBEq, ↓reduceIte, Int.reduceLE, Int.reduceLT, Int.reduceToNat, Int.reduceNeg, reduceCtorEq, Int.reduceEq, SF0, SF1, SF2, DHb0, DHb1, DHa0, DCg0, DCe0, DCe1, DCe2, DDb0, DBc0, DBc1, hk]
    refine qc_one (i2.frozen (by simp [ints])) (by simp [freeL, AV.free, Plan.free]) ?_
    simp (disch := omega) only [SX0, SX1, SX2, SX3, SX4, SX5, SX6, SX7, SX8, SU0, SY0, SY1, Nat.reduceAdd, Nat.reduceMul, Nat.reduceSub, Nat.reduceLeDiff, Nat.reduceEqDiff, Nat.reduceLT, Nat.reduceBEq, ↓reduceIte, Int.reduceLE, Int.reduceLT, Int.reduceToNat, Int.reduceNeg, reduceCtorEq, Int.reduceEq, SF0, SF1, SF2, DHb0, DHb1, DHa0, DCg0, DCe0, DCe1, DCe2, DDb0, DBc0, DBc1, hk]
    refine qc_one (i2.frozen (by simp [ints])) (by simp [freeL, AV.free, Plan.free]) ?_
    simp (disch := omega) only [SX0, SX1, SX2, SX3, SX4, SX5, SX6, SX7, SX8, SU0, SY0, SY1, Nat.reduceAdd, Nat.reduceMul, Nat.reduceSub, Nat.reduceLeDiff, Nat.reduceEqDiff, Nat.reduceLT, Nat.reduceBEq, ↓reduceIte, Int.reduceLE, Int.reduceLT, Int.reduceToNat, Int.reduceNeg, reduceCtorEq, Int.reduceEq, SF0, SF1, SF2, DHb0, DHb1, DHa0, DCg0, DCe0, DCe1, DCe2, DDb0, DBc0, DBc1]
    refine req intRows' ?_
    simp (disch := omega) only [SX0, SX1, SX2, SX3, SX4, SX5, SX6, SX7, SX8, SU0, SY0, SY1, Nat.reduceAdd, Nat.reduceMul, Nat.reduceSub, Nat.reduceLeDiff, Nat.reduceEqDiff, Nat.reduceLT, Nat.reduceBEq, ↓reduceIte, Int.reduceLE, Int.reduceLT, Int.reduceToNat, Int.reduceNeg, reduceCtorEq, Int.reduceEq, SF0, SF1, SF2, DHb0, DHb1, DHa0, DCg0, DCe0, DCe1, DCe2, DDb0, DBc0, DBc1]
    refine req (by omega) ?_
    simp (disch := omega) only [SX0, SX1, SX2, SX3, SX4, SX5, SX6, SX7, SX8, SU0, SY0, SY1, Nat.reduceAdd, Nat.reduceMul, Nat.reduceSub, Nat.reduceLeDiff, Nat.reduceEqDiff, Nat.reduceLT, Nat.reduceBEq, ↓reduceIte, Int.reduceLE, Int.reduceLT, Int.reduceToNat, Int.reduceNeg, reduceCtorEq, Int.reduceEq, SF0, SF1, SF2, DHb0, DHb1, DHa0, DCg0, DCe0, DCe1, DCe2, DDb0, DBc0, DBc1]
    exact fin_ks [1] (.os 0 1 0 (b.W :: (u1 ++ u2)).length) [.vec 1 (ints (b.W :: (u1 ++ u2)))] ⟨rfl, rfl⟩ (by simp [AV.ren, nameK]; omega) (by simp [keepL, nameK, OB.ren, ints]) (by simp) (by simp) (by simp)
  · have hc : ¬ p.cut := by unfold Plan.cut; omega
    rw [Plan.cutL_leaf hc]
    simp (disch := omega) only [SX0, SX1, SX2, SX3, SX4, SX5, SX6, SX7, SX8, SU0, SY0, SY1, Nat.reduceAdd, Nat.reduceMul, Nat.reduceSub, Nat.reduceLeDiff, Nat.reduceEqDiff, Nat.reduceLT, Nat.reduceBEq, ↓reduceIte, Int.reduceLE, Int.reduceLT, Int.reduceToNat, Int.reduceNeg, reduceCtorEq, Int.reduceEq, SF0, SF1, SF2, DHb0, DHb1, DHa0, DCg0, DCe0, DCe1, DCe2, DDb0, DBc0, DBc1]
    exact fin_ks [1] (.os 0 1 0 0) [.vec 1 []] ⟨rfl, rfl⟩ (by simp [AV.ren, nameK]) (by simp [keepL, nameK, OB.ren]) (by simp) (by simp) (by simp)

theorem e_cutLengthsS : Enters Try.prog 29 := enters_of Try.func29 (by kernel_rfl) (by kernel_rfl)
theorem cutLengthsS_c (k : Work) (p : Plan) (hk : k.Ps.length < 2 ^ 40) : ACalls Try.prog 29 [.agg k.cs, .agg p.cs] [] [] (fun r L => r = .sl (ints (p.cutLs k)) ∧ L = []) := by
  refine acalls_tm T_tt Try.func29 rfl e_cutLengthsS 13 rfl (W8 _ _ .any .any .any .any .any .any [.any, .any, .any, .any, .any, .any, .any]) rfl (rv := [.tmp 4]) rfl (sx_sound (bl := []) T_tt _ _ _ ?_)
  simp (disch := omega) only [SX0, SX1, SX2, SX3, SX4, SX5, SX6, SX7, SX8, SU0, SY0, SY1, Nat.reduceAdd, Nat.reduceMul, Nat.reduceSub, Nat.reduceLeDiff, Nat.reduceEqDiff, Nat.reduceLT, Nat.reduceBEq, ↓reduceIte, Int.reduceLE, Int.reduceLT, Int.reduceToNat, Int.reduceNeg, reduceCtorEq, Int.reduceEq, SF0, SF1, SF2, DHb0, DHb1, DHa0, DCg0, DCe0, DCe1, DCe2, DDb0, DBc0, DBc1]
  refine acall_one (validPlanS_c k p hk) (by simp [freeL, AV.free, Plan.free, Work.free]) rfl ?_
  simp (disch := omega) only [SX0, SX1, SX2, SX3, SX4, SX5, SX6, SX7, SX8, SU0, SY0, SY1, Nat.reduceAdd, Nat.reduceMul, Nat.reduceSub, Nat.reduceLeDiff, Nat.reduceEqDiff, Nat.reduceLT, Nat.reduceBEq, ↓reduceIte, Int.reduceLE, Int.reduceLT, Int.reduceToNat, Int.reduceNeg, reduceCtorEq, Int.reduceEq, SF0, SF1, SF2, DHb0, DHb1, DHa0, DCg0, DCe0, DCe1, DCe2, DDb0, DBc0, DBc1]
  refine br_ndec (fun hv => ?_) (fun hv => ?_)
  · simp (disch := omega) only [SX0, SX1, SX2, SX3, SX4, SX5, SX6, SX7, SX8, SU0, SY0, SY1, Nat.reduceAdd, Nat.reduceMul, Nat.reduceSub, Nat.reduceLeDiff, Nat.reduceEqDiff, Nat.reduceLT, Nat.reduceBEq, ↓reduceIte, Int.reduceLE, Int.reduceLT, Int.reduceToNat, Int.reduceNeg, reduceCtorEq, Int.reduceEq, SF0, SF1, SF2, DHb0, DHb1, DHa0, DCg0, DCe0, DCe1, DCe2, DDb0, DBc0, DBc1]
    exact fin_nilrow ⟨by rw [cutLs_none hv]; rfl, rfl⟩
  · have hC := (cutLengths0_n k _ p k.sheet (Nat.le_refl _) hv.2.1.1 (Work.sheet_sane hv.1) hv.2.2 hv.2.1.2).frozen (by simp [ints])
    simp (disch := omega) only [SX0, SX1, SX2, SX3, SX4, SX5, SX6, SX7, SX8, SU0, SY0, SY1, Nat.reduceAdd, Nat.reduceMul, Nat.reduceSub, Nat.reduceLeDiff, Nat.reduceEqDiff, Nat.reduceLT, Nat.reduceBEq, ↓reduceIte, Int.reduceLE, Int.reduceLT, Int.reduceToNat, Int.reduceNeg, reduceCtorEq, Int.reduceEq, SF0, SF1, SF2, DHb0, DHb1, DHa0, DCg0, DCe0, DCe1, DCe2, DDb0, DBc0, DBc1]
    refine acall_one hC (by simp [freeL, AV.free, Plan.free]) rfl ?_
    simp (disch := omega) only [SX0, SX1, SX2, SX3, SX4, SX5, SX6, SX7, SX8, SU0, SY0, SY1, Nat.reduceAdd, Nat.reduceMul, Nat.reduceSub, Nat.reduceLeDiff, Nat.reduceEqDiff, Nat.reduceLT, Nat.reduceBEq, ↓reduceIte, Int.reduceLE, Int.reduceLT, Int.reduceToNat, Int.reduceNeg, reduceCtorEq, Int.reduceEq, SF0, SF1, SF2, DHb0, DHb1, DHa0, DCg0, DCe0, DCe1, DCe2, DDb0, DBc0, DBc1]
    exact fin_free rfl ⟨by rw [cutLs_valid hv], rfl⟩

end Go.Pc
