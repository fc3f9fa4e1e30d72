/- Valid plans; the parts of a plan. -/
import Derived.Test.YtjeabpbpoomlmaaCd
set_option linter.unusedSimpArgs false
set_option linter.unusedVariables false
namespace Go.Pc
open Go Go.Proofs

def Work.sheet (k : Work) : Box := ⟨0, 0, k.W, k.H⟩
/-- A valid plan. -/
def Plan.valid (k : Work) (p : Plan) : Prop := k.ok ∧ (p.wf = true ∧ p.nodes ≤ 255) ∧ p.fits k k.W k.H = true
instance (k : Work) (p : Plan) : Decidable (p.valid k) := inferInstanceAs (Decidable (_ ∧ _))
theorem Work.sheet_sane {k : Work} (h : k.ok) : k.sheet.sane := by
  unfold Work.ok at h
  simp only [Work.sheet, Box.sane]
  omega

theorem e_validPlanS : Enters Try.prog 71 := enters_of Try.func71 (by kernel_rfl) (by kernel_rfl)
theorem validPlanS_c (k : Work) (p : Plan) (hk : k.Ps.length < 2 ^ 40) : ACalls Try.prog 71 [.agg k.cs, .agg p.cs] [] [] (fun r L => r = .val (.bool (decide (p.valid k))) ∧ L = []) := by
  refine acalls_tm T_tt Try.func71 rfl e_validPlanS 19 rfl (W8 _ _ .any .any .any .any .any .any (W8 .any .any .any .any .any .any .any .any [.any, .any, .any, .any, .any])) rfl (rv := [.tmp 4]) rfl (sx_sound (bl := []) T_tt _ _ _ ?_)
  simp (disch := omega) only [SX0, SX1, SX2, SX3, SX4, SX5, SX6, SX7, SX8, SU0, SY0, SY1, Nat.reduceAdd, Nat.reduceMul, Nat.reduceSub, Nat.reduceLeDiff, Nat.reduceEqDiff, Nat.reduceLT, Nat.reduceBEq, ↓reduceIte, Int.reduceLE, Int.reduceLT, Int.reduceToNat, Int.reduceNeg, reduceCtorEq, Int.reduceEq, SF0, SF1, SF2, DCa0, DCa1, DDb0, DBc0, DBa0]
  refine acall_one (validWorkS_c k hk) rfl rfl ?_
  simp (disch := omega) only [SX0, SX1, SX2, SX3, SX4, SX5, SX6, SX7, SX8, SU0, SY0, SY1, Nat.reduceAdd, Nat.reduceMul, Nat.reduceSub, Nat.reduceLeDiff, Nat.reduceEqDiff, Nat.reduceLT, Nat.reduceBEq, ↓reduceIte, Int.reduceLE, Int.reduceLT, Int.reduceToNat, Int.reduceNeg, reduceCtorEq, Int.reduceEq, SF0, SF1, SF2, DCa0, DCa1, DDb0, DBc0, DBa0]
  refine br_dec (fun h1 => ?_) (fun h1 => ?_)
  · simp (disch := omega) only [SX0, SX1, SX2, SX3, SX4, SX5, SX6, SX7, SX8, SU0, SY0, SY1, Nat.reduceAdd, Nat.reduceMul, Nat.reduceSub, Nat.reduceLeDiff, Nat.reduceEqDiff, Nat.reduceLT, Nat.reduceBEq, ↓reduceIte, Int.reduceLE, Int.reduceLT, Int.reduceToNat, Int.reduceNeg, reduceCtorEq, Int.reduceEq, SF0, SF1, SF2, DCa0, DCa1, DDb0, DBc0, DBa0]
    refine acall_one (planSizeS_c p) (by simp [freeL, AV.free, Plan.free]) rfl ?_
    simp (disch := omega) only [SX0, SX1, SX2, SX3, SX4, SX5, SX6, SX7, SX8, SU0, SY0, SY1, Nat.reduceAdd, Nat.reduceMul, Nat.reduceSub, Nat.reduceLeDiff, Nat.reduceEqDiff, Nat.reduceLT, Nat.reduceBEq, ↓reduceIte, Int.reduceLE, Int.reduceLT, Int.reduceToNat, Int.reduceNeg, reduceCtorEq, Int.reduceEq, SF0, SF1, SF2, DCa0, DCa1, DDb0, DBc0, DBa0]
    refine br_dec (fun h2 => ?_) (fun h2 => ?_)
    · have h3 := (Plan.size_pos (p := p) (by omega)).1
      have h4 := h1
      unfold Work.ok at h4
      simp (disch := omega) only [SX0, SX1, SX2, SX3, SX4, SX5, SX6, SX7, SX8, SU0, SY0, SY1, Nat.reduceAdd, Nat.reduceMul, Nat.reduceSub, Nat.reduceLeDiff, Nat.reduceEqDiff, Nat.reduceLT, Nat.reduceBEq, ↓reduceIte, Int.reduceLE, Int.reduceLT, Int.reduceToNat, Int.reduceNeg, reduceCtorEq, Int.reduceEq, SF0, SF1, SF2, DCa0, DCa1, DDb0, DBc0, DBa0]
      refine acall_one (fitsS_c k hk p k.W k.H h3.1 (by omega) (by omega)) (by simp [freeL, AV.free, Plan.free, Work.free]) rfl ?_
      simp (disch := omega) only [SX0, SX1, SX2, SX3, SX4, SX5, SX6, SX7, SX8, SU0, SY0, SY1, Nat.reduceAdd, Nat.reduceMul, Nat.reduceSub, Nat.reduceLeDiff, Nat.reduceEqDiff, Nat.reduceLT, Nat.reduceBEq, ↓reduceIte, Int.reduceLE, Int.reduceLT, Int.reduceToNat, Int.reduceNeg, reduceCtorEq, Int.reduceEq, SF0, SF1, SF2, DCa0, DCa1, DDb0, DBc0, DBa0]
      refine fin_val ⟨?_, rfl⟩
      simp only [Plan.valid, h1, h3, true_and, and_self]
      cases p.fits k k.W k.H <;> rfl
    · simp (disch := omega) only [SX0, SX1, SX2, SX3, SX4, SX5, SX6, SX7, SX8, SU0, SY0, SY1, Nat.reduceAdd, Nat.reduceMul, Nat.reduceSub, Nat.reduceLeDiff, Nat.reduceEqDiff, Nat.reduceLT, Nat.reduceBEq, ↓reduceIte, Int.reduceLE, Int.reduceLT, Int.reduceToNat, Int.reduceNeg, reduceCtorEq, Int.reduceEq, SF0, SF1, SF2, DCa0, DCa1, DDb0, DBc0, DBa0]
      exact fin_val ⟨vF fun hh => by
        have := hh.2.1
        have h5 : p.size = p.nodes := by unfold Plan.size; rw [if_pos this]
        have := p.nodes_pos
        omega, rfl⟩
  · simp (disch := omega) only [SX0, SX1, SX2, SX3, SX4, SX5, SX6, SX7, SX8, SU0, SY0, SY1, Nat.reduceAdd, Nat.reduceMul, Nat.reduceSub, Nat.reduceLeDiff, Nat.reduceEqDiff, Nat.reduceLT, Nat.reduceBEq, ↓reduceIte, Int.reduceLE, Int.reduceLT, Int.reduceToNat, Int.reduceNeg, reduceCtorEq, Int.reduceEq, SF0, SF1, SF2, DCa0, DCa1, DDb0, DBc0, DBa0]
    exact fin_val ⟨vF fun hh => h1 hh.1, rfl⟩

theorem e_sheetOf : Enters Try.prog 110 := enters_of Try.func110 (by kernel_rfl) (by kernel_rfl)
theorem sheetOf_c (k : Work) : ACalls Try.prog 110 [.agg k.cs] [] [] (fun r L => r = .agg k.sheet.cs ∧ L = []) := by
  refine acalls_tm T_tt Try.func110 rfl e_sheetOf 7 rfl (W8 _ .any .any .any .any .any .any .any []) rfl (rv := [.cell 2 84]) rfl (sx_sound (bl := []) T_tt _ _ _ ?_)
  simp (disch := omega) only [SX0, SX1, SX2, SX3, SX4, SX5, SX6, SX7, SX8, SU0, SY0, SY1, Nat.reduceAdd, Nat.reduceMul, Nat.reduceSub, Nat.reduceLeDiff, Nat.reduceEqDiff, Nat.reduceLT, Nat.reduceBEq, ↓reduceIte, Int.reduceLE, Int.reduceLT, Int.reduceToNat, Int.reduceNeg, reduceCtorEq, Int.reduceEq, SF0, SF1, SF2, DCa0, DCa1, DDb0, DBc0, DBa0]
  exact fin_free rfl ⟨rfl, rfl⟩

theorem e_validPlanI : Enters Try.prog 57 := enters_of Try.func57 (by kernel_rfl) (by kernel_rfl)
theorem validPlanI_c (k : Work) (p : Plan) (hk : k.Ps.length < 2 ^ 40) : ACalls Try.prog 57 [.agg k.cs, .agg p.cs] [] [] (fun r L => r = .val (.bool (decide (p.valid k))) ∧ L = []) := by
  refine acalls_tm T_tt Try.func57 rfl e_validPlanI 17 rfl (W8 _ _ .any .any .any .any .any .any (W8 .any .any .any .any .any .any .any .any [.any, .any, .any])) rfl (rv := [.tmp 4]) rfl (sx_sound (bl := []) T_tt _ _ _ ?_)
  simp (disch := omega) only [SX0, SX1, SX2, SX3, SX4, SX5, SX6, SX7, SX8, SU0, SY0, SY1, Nat.reduceAdd, Nat.reduceMul, Nat.reduceSub, Nat.reduceLeDiff, Nat.reduceEqDiff, Nat.reduceLT, Nat.reduceBEq, ↓reduceIte, Int.reduceLE, Int.reduceLT, Int.reduceToNat, Int.reduceNeg, reduceCtorEq, Int.reduceEq, SF0, SF1, SF2, DCa0, DCa1, DDb0, DBc0, DBa0]
  refine awp_drawA T_tt mixed (by decide +kernel) (by kernel_rfl) (by kernel_rfl) ?_
  simp (disch := omega) only [SX0, SX1, SX2, SX3, SX4, SX5, SX6, SX7, SX8, SU0, SY0, SY1, Nat.reduceAdd, Nat.reduceMul, Nat.reduceSub, Nat.reduceLeDiff, Nat.reduceEqDiff, Nat.reduceLT, Nat.reduceBEq, ↓reduceIte, Int.reduceLE, Int.reduceLT, Int.reduceToNat, Int.reduceNeg, reduceCtorEq, Int.reduceEq, SF0, SF1, SF2, DCa0, DCa1, DDb0, DBc0, DBa0]
  refine qc_one (validWorkI_c k hk) rfl ?_
  simp (disch := omega) only [SX0, SX1, SX2, SX3, SX4, SX5, SX6, SX7, SX8, SU0, SY0, SY1, Nat.reduceAdd, Nat.reduceMul, Nat.reduceSub, Nat.reduceLeDiff, Nat.reduceEqDiff, Nat.reduceLT, Nat.reduceBEq, ↓reduceIte, Int.reduceLE, Int.reduceLT, Int.reduceToNat, Int.reduceNeg, reduceCtorEq, Int.reduceEq, SF0, SF1, SF2, DCa0, DCa1, DDb0, DBc0, DBa0]
  refine br_dec (fun h1 => ?_) (fun h1 => ?_)
  · simp (disch := omega) only [SX0, SX1, SX2, SX3, SX4, SX5, SX6, SX7, SX8, SU0, SY0, SY1, Nat.reduceAdd, Nat.reduceMul, Nat.reduceSub, Nat.reduceLeDiff, Nat.reduceEqDiff, Nat.reduceLT, Nat.reduceBEq, ↓reduceIte, Int.reduceLE, Int.reduceLT, Int.reduceToNat, Int.reduceNeg, reduceCtorEq, Int.reduceEq, SF0, SF1, SF2, DCa0, DCa1, DDb0, DBc0, DBa0]
    refine qc_one (planSizeI_c p) (by simp [freeL, AV.free, Plan.free]) ?_
    simp (disch := omega) only [SX0, SX1, SX2, SX3, SX4, SX5, SX6, SX7, SX8, SU0, SY0, SY1, Nat.reduceAdd, Nat.reduceMul, Nat.reduceSub, Nat.reduceLeDiff, Nat.reduceEqDiff, Nat.reduceLT, Nat.reduceBEq, ↓reduceIte, Int.reduceLE, Int.reduceLT, Int.reduceToNat, Int.reduceNeg, reduceCtorEq, Int.reduceEq, SF0, SF1, SF2, DCa0, DCa1, DDb0, DBc0, DBa0]
    refine br_dec (fun h2 => ?_) (fun h2 => ?_)
    · have h3 := (Plan.size_pos (p := p) (by omega)).1
      simp (disch := omega) only [SX0, SX1, SX2, SX3, SX4, SX5, SX6, SX7, SX8, SU0, SY0, SY1, Nat.reduceAdd, Nat.reduceMul, Nat.reduceSub, Nat.reduceLeDiff, Nat.reduceEqDiff, Nat.reduceLT, Nat.reduceBEq, ↓reduceIte, Int.reduceLE, Int.reduceLT, Int.reduceToNat, Int.reduceNeg, reduceCtorEq, Int.reduceEq, SF0, SF1, SF2, DCa0, DCa1, DDb0, DBc0, DBa0]
      refine qc_one (sheetOf_c k) rfl ?_
      simp (disch := omega) only [SX0, SX1, SX2, SX3, SX4, SX5, SX6, SX7, SX8, SU0, SY0, SY1, Nat.reduceAdd, Nat.reduceMul, Nat.reduceSub, Nat.reduceLeDiff, Nat.reduceEqDiff, Nat.reduceLT, Nat.reduceBEq, ↓reduceIte, Int.reduceLE, Int.reduceLT, Int.reduceToNat, Int.reduceNeg, reduceCtorEq, Int.reduceEq, SF0, SF1, SF2, DCa0, DCa1, DDb0, DBc0, DBa0]
      refine qc_one (planFits_n k _ p k.sheet (Nat.le_refl _) h3.1 (Work.sheet_sane h1)) (by simp [freeL, AV.free, Plan.free, Work.free, Box.free]) ?_
      simp (disch := omega) only [SX0, SX1, SX2, SX3, SX4, SX5, SX6, SX7, SX8, SU0, SY0, SY1, Nat.reduceAdd, Nat.reduceMul, Nat.reduceSub, Nat.reduceLeDiff, Nat.reduceEqDiff, Nat.reduceLT, Nat.reduceBEq, ↓reduceIte, Int.reduceLE, Int.reduceLT, Int.reduceToNat, Int.reduceNeg, reduceCtorEq, Int.reduceEq, SF0, SF1, SF2, DCa0, DCa1, DDb0, DBc0, DBa0]
      refine fin_val ⟨?_, rfl⟩
      simp only [Plan.valid, h1, h3, true_and, and_self]
      show AV.val (.bool (p.fits k k.W k.H)) = _
      cases p.fits k k.W k.H <;> rfl
    · simp (disch := omega) only [SX0, SX1, SX2, SX3, SX4, SX5, SX6, SX7, SX8, SU0, SY0, SY1, Nat.reduceAdd, Nat.reduceMul, Nat.reduceSub, Nat.reduceLeDiff, Nat.reduceEqDiff, Nat.reduceLT, Nat.reduceBEq, ↓reduceIte, Int.reduceLE, Int.reduceLT, Int.reduceToNat, Int.reduceNeg, reduceCtorEq, Int.reduceEq, SF0, SF1, SF2, DCa0, DCa1, DDb0, DBc0, DBa0]
      exact fin_val ⟨vF fun hh => by
        have := hh.2.1
        have h5 : p.size = p.nodes := by unfold Plan.size; rw [if_pos this]
        have := p.nodes_pos
        omega, rfl⟩
  · simp (disch := omega) only [SX0, SX1, SX2, SX3, SX4, SX5, SX6, SX7, SX8, SU0, SY0, SY1, Nat.reduceAdd, Nat.reduceMul, Nat.reduceSub, Nat.reduceLeDiff, Nat.reduceEqDiff, Nat.reduceLT, Nat.reduceBEq, ↓reduceIte, Int.reduceLE, Int.reduceLT, Int.reduceToNat, Int.reduceNeg, reduceCtorEq, Int.reduceEq, SF0, SF1, SF2, DCa0, DCa1, DDb0, DBc0, DBa0]
    exact fin_val ⟨vF fun hh => h1 hh.1, rfl⟩

/-- A part and its box, as a row of cells. -/
def partRow (q : Plan × Box) : List AV := q.1.cs ++ q.2.cs
theorem partRow_len (q : Plan × Box) : (partRow q).length = 9 := by simp [partRow, Plan.len, Box.len]

theorem part_len (p : Plan) (a b c d : AV) : (p.cs ++ [a, b, c, d]).length = 9 := by simp [Plan.len]
theorem part_take (p : Plan) (a b c d : AV) : (p.cs ++ [a, b, c, d]).take 5 = p.cs := by rw [List.take_append_of_le_length (by simp [Plan.len]), Plan.take]
theorem part_drop (p : Plan) (a b c d : AV) : (p.cs ++ [a, b, c, d]).drop 9 = [] := by apply List.drop_eq_nil_of_le; simp [Plan.len]
theorem part_row (p : Plan) (b : Box) : p.cs ++ b.cs = partRow (p, b) := rfl
theorem partRow_one (q : Plan × Box) : (partRow q).all AV.one = true := by simp [partRow, Plan.one, Box.one, -List.all_eq_true]
theorem partRow_pure (q : Plan × Box) : (partRow q).all AV.pure = true := by simp [partRow, Plan.pure, Box.pure, -List.all_eq_true]
theorem partRow_drop (q : Plan × Box) : (partRow q).drop 5 = q.2.cs := by rw [partRow, List.drop_append_of_le_length (by simp [Plan.len]), List.drop_of_length_le (by simp [Plan.len])]; rfl
theorem partRow_take (q : Plan × Box) : (partRow q).take 9 = partRow q := List.take_of_length_le (by rw [partRow_len]; omega)
theorem DCe0 : type_of% @part_len ∧ type_of% @part_take ∧ type_of% @part_drop ∧ type_of% @part_row ∧ type_of% @partRow_len ∧ type_of% @partRow_one ∧ type_of% @partRow_pure ∧ type_of% @partRow_take := ⟨@part_len, @part_take, @part_drop, @part_row, @partRow_len, @partRow_one, @partRow_pure, @partRow_take⟩

theorem e_addParts : Enters Try.prog 133 := enters_of Try.func133 (by kernel_rfl) (by kernel_rfl)
set_option maxHeartbeats 4000000 in
theorem addParts_n (k : Work) : ∀ (n : Nat) (p : Plan) (b : Box) (es : List (List AV)), p.nodes ≤ n → p.wf = true → b.sane → p.fits k b.W b.H = true → (∀ e ∈ es, e.length = 9) → es.length + p.nodes ≤ 1000 →
    ACalls Try.prog 133 [.os 0 9 0 es.length, .agg p.cs, .agg b.cs] [.vec 9 es] [] (fun r L => r = .os 0 9 0 (es.length + p.nodes) ∧ L = [.vec 9 (es ++ (p.parts b).map partRow)]) := by
  intro n
  induction n with
  | zero => intro p b es h; have := p.nodes_pos; omega
  | succ n ih =>
  intro p b es hn hw hb hf hes hel
  refine acalls_tm T_tt Try.func133 rfl e_addParts 35 rfl (W8 _ _ _ .any .any .any .any .any (W8 .any .any .any .any .any .any .any .any (W8 .any .any .any .any .any .any .any .any (W8 .any .any .any .any .any .any .any .any [.any, .any, .any, .any, .any, .any])))) rfl (rv := [.tmp 6]) rfl (sx_sound (bl := []) T_tt _ _ _ ?_)
  simp (disch := omega) only [SX0, SX1, SX2, SX3, SX4, SX5, SX6, SX7, SX8, SU0, SY0, SY1, Nat.reduceAdd, Nat.reduceMul, Nat.reduceSub, Nat.reduceLeDiff, Nat.reduceEqDiff, Nat.reduceLT, Nat.reduceBEq, ↓reduceIte, Int.reduceLE, Int.reduceLT, Int.reduceToNat, Int.reduceNeg, reduceCtorEq, Int.reduceEq, SF0, SF1, SF2, DCa0, DCa1, DDb0, DBc0, DBa0, DCe0]
  refine req (by omega) ?_
  simp (disch := omega) only [SX0, SX1, SX2, SX3, SX4, SX5, SX6, SX7, SX8, SU0, SY0, SY1, Nat.reduceAdd, Nat.reduceMul, Nat.reduceSub, Nat.reduceLeDiff, Nat.reduceEqDiff, Nat.reduceLT, Nat.reduceBEq, ↓reduceIte, Int.reduceLE, Int.reduceLT, Int.reduceToNat, Int.reduceNeg, reduceCtorEq, Int.reduceEq, SF0, SF1, SF2, DCa0, DCa1, DDb0, DBc0, DBa0, DCe0]
  refine acall_one (isCutI_c p) (by simp [freeL, AV.free, Plan.free]) rfl ?_
  simp (disch := omega) only [SX0, SX1, SX2, SX3, SX4, SX5, SX6, SX7, SX8, SU0, SY0, SY1, Nat.reduceAdd, Nat.reduceMul, Nat.reduceSub, Nat.reduceLeDiff, Nat.reduceEqDiff, Nat.reduceLT, Nat.reduceBEq, ↓reduceIte, Int.reduceLE, Int.reduceLT, Int.reduceToNat, Int.reduceNeg, reduceCtorEq, Int.reduceEq, SF0, SF1, SF2, DCa0, DCa1, DDb0, DBc0, DBa0, DCe0]
  refine br_dec (fun hc => ?_) (fun hc => ?_)
  · simp (disch := omega) only [SX0, SX1, SX2, SX3, SX4, SX5, SX6, SX7, SX8, SU0, SY0, SY1, Nat.reduceAdd, Nat.reduceMul, Nat.reduceSub, Nat.reduceLeDiff, Nat.reduceEqDiff, Nat.reduceLT, Nat.reduceBEq, ↓reduceIte, Int.reduceLE, Int.reduceLT, Int.reduceToNat, Int.reduceNeg, reduceCtorEq, Int.reduceEq, SF0, SF1, SF2, DCa0, DCa1, DDb0, DBc0, DBa0, DCe0]
    obtain ⟨x, y, hk, hx, hy, nx, ny⟩ := Plan.two hw hc
    obtain ⟨f1, f2, _⟩ := Plan.fits_cut hc hk hf
    obtain ⟨s1, s2, _⟩ := Plan.split_sane hc hk hb hf
    have hat := Plan.fits_cut hc hk hf
    have hbb := hb
    unfold Box.sane at hbb
    have hop : p.op = 2 ∨ p.op ≠ 2 := by omega
    have hnn := Plan.nodes_two hk
    refine acall_one (splitBoxI_c p b (by omega)) (by simp [freeL, AV.free, Plan.free, Box.free]) (by simp [freeL, AV.free, Box.free]) ?_
    simp (disch := omega) only [SX0, SX1, SX2, SX3, SX4, SX5, SX6, SX7, SX8, SU0, SY0, SY1, Nat.reduceAdd, Nat.reduceMul, Nat.reduceSub, Nat.reduceLeDiff, Nat.reduceEqDiff, Nat.reduceLT, Nat.reduceBEq, ↓reduceIte, Int.reduceLE, Int.reduceLT, Int.reduceToNat, Int.reduceNeg, reduceCtorEq, Int.reduceEq, SF0, SF1, SF2, DCa0, DCa1, DDb0, DBc0, DBa0, DCe0, hk]
    refine awp_float (bl := []) T_tt mixed [1, 2, 3, 4] [1, 2, 3, 4, 5] [(0, []), (6, [(1, .f 24), (2, .f 25), (3, .f 26), (4, .f 27), (5, .f 28)]), (7, [])] [] (by kernel_rfl) (by kernel_rfl) ?_
    simp (disch := omega) only [SX0, SX1, SX2, SX3, SX4, SX5, SX6, SX7, SX8, SU0, SY0, SY1, Nat.reduceAdd, Nat.reduceMul, Nat.reduceSub, Nat.reduceLeDiff, Nat.reduceEqDiff, Nat.reduceLT, Nat.reduceBEq, ↓reduceIte, Int.reduceLE, Int.reduceLT, Int.reduceToNat, Int.reduceNeg, reduceCtorEq, Int.reduceEq, SF0, SF1, SF2, DCa0, DCa1, DDb0, DBc0, DBa0, DCe0, hk]
    have h1 := ih x (p.split b).1 (es ++ [partRow (p, b)]) (by omega) hx s1 f1 (fun e he => by
      rcases List.mem_append.1 he with he | he
      · exact hes e he
      · simp at he; subst he; exact partRow_len _) (by simp; omega)
    rw [List.length_append] at h1
    refine acall_own h1 [0] [0] (by simp only [SX0, SX1, SX2, SX3, SX4, SX5, SX6, SX7, SX8, SU0, SY0, SY1, Nat.reduceAdd, Nat.reduceMul, Nat.reduceSub, Nat.reduceLeDiff, Nat.reduceEqDiff, Nat.reduceLT, Nat.reduceBEq, ↓reduceIte, Int.reduceLE, Int.reduceLT, Int.reduceToNat, Int.reduceNeg, reduceCtorEq, Int.reduceEq, SF0, SF1, SF2, DCa0, DCa1, DDb0, DBc0, DBa0, DCe0, SX0]) (by decide) (by decide) (by rfl) (by simp only [SX0, SX1, SX2, SX3, SX4, SX5, SX6, SX7, SX8, SU0, SY0, SY1, Nat.reduceAdd, Nat.reduceMul, Nat.reduceSub, Nat.reduceLeDiff, Nat.reduceEqDiff, Nat.reduceLT, Nat.reduceBEq, ↓reduceIte, Int.reduceLE, Int.reduceLT, Int.reduceToNat, Int.reduceNeg, reduceCtorEq, Int.reduceEq, SF0, SF1, SF2, DCa0, DCa1, DDb0, DBc0, DBa0, DCe0, SX0]) ?_
    rintro _ _ ⟨rfl, rfl⟩
    simp (disch := omega) only [SX0, SX1, SX2, SX3, SX4, SX5, SX6, SX7, SX8, SU0, SY0, SY1, Nat.reduceAdd, Nat.reduceMul, Nat.reduceSub, Nat.reduceLeDiff, Nat.reduceEqDiff, Nat.reduceLT, Nat.reduceBEq, ↓reduceIte, Int.reduceLE, Int.reduceLT, Int.reduceToNat, Int.reduceNeg, reduceCtorEq, Int.reduceEq, SF0, SF1, SF2, DCa0, DCa1, DDb0, DBc0, DBa0, DCe0, hk]
    refine awp_float (bl := []) T_tt mixed [1, 2, 3, 4] [1, 2, 3, 4, 5] [(0, []), (6, [(1, .f 31), (2, .f 32), (3, .f 33), (4, .f 34), (5, .f 35)]), (7, [])] [] (by kernel_rfl) (by kernel_rfl) ?_
    simp (disch := omega) only [SX0, SX1, SX2, SX3, SX4, SX5, SX6, SX7, SX8, SU0, SY0, SY1, Nat.reduceAdd, Nat.reduceMul, Nat.reduceSub, Nat.reduceLeDiff, Nat.reduceEqDiff, Nat.reduceLT, Nat.reduceBEq, ↓reduceIte, Int.reduceLE, Int.reduceLT, Int.reduceToNat, Int.reduceNeg, reduceCtorEq, Int.reduceEq, SF0, SF1, SF2, DCa0, DCa1, DDb0, DBc0, DBa0, DCe0, hk]
    have h2 := ih y (p.split b).2 (es ++ [partRow (p, b)] ++ (x.parts (p.split b).1).map partRow) (by omega) hy s2 f2 (fun e he => by
      rcases List.mem_append.1 he with he | he
      · rcases List.mem_append.1 he with he | he
        · exact hes e he
        · simp at he; subst he; exact partRow_len _
      · obtain ⟨q, _, rfl⟩ := List.mem_map.1 he
        exact partRow_len _) (by simp [Plan.parts_len x hx]; omega)
    rw [List.length_append, List.length_append, List.length_map, Plan.parts_len x hx] at h2
    refine acall_own h2 [0] [0] (by simp only [SX0, SX1, SX2, SX3, SX4, SX5, SX6, SX7, SX8, SU0, SY0, SY1, Nat.reduceAdd, Nat.reduceMul, Nat.reduceSub, Nat.reduceLeDiff, Nat.reduceEqDiff, Nat.reduceLT, Nat.reduceBEq, ↓reduceIte, Int.reduceLE, Int.reduceLT, Int.reduceToNat, Int.reduceNeg, reduceCtorEq, Int.reduceEq, SF0, SF1, SF2, DCa0, DCa1, DDb0, DBc0, DBa0, DCe0, SX0]) (by decide) (by decide) (by rfl) (by simp only [SX0, SX1, SX2, SX3, SX4, SX5, SX6, SX7, SX8, SU0, SY0, SY1, Nat.reduceAdd, Nat.reduceMul, Nat.reduceSub, Nat.reduceLeDiff, Nat.reduceEqDiff, Nat.reduceLT, Nat.reduceBEq, ↓reduceIte, Int.reduceLE, Int.reduceLT, Int.reduceToNat, Int.reduceNeg, reduceCtorEq, Int.reduceEq, SF0, SF1, SF2, DCa0, DCa1, DDb0, DBc0, DBa0, DCe0, SX0]) ?_
    rintro _ _ ⟨rfl, rfl⟩
    simp (disch := omega) only [SX0, SX1, SX2, SX3, SX4, SX5, SX6, SX7, SX8, SU0, SY0, SY1, Nat.reduceAdd, Nat.reduceMul, Nat.reduceSub, Nat.reduceLeDiff, Nat.reduceEqDiff, Nat.reduceLT, Nat.reduceBEq, ↓reduceIte, Int.reduceLE, Int.reduceLT, Int.reduceToNat, Int.reduceNeg, reduceCtorEq, Int.reduceEq, SF0, SF1, SF2, DCa0, DCa1, DDb0, DBc0, DBa0, DCe0]
    exact fin_zero (.os 0 9 0 (es.length + p.nodes)) (.vec 9 (es ++ (p.parts b).map partRow)) ⟨rfl, rfl⟩ (by rw [Plan.nodes_two hk]; simp [AV.ren, nameK]; omega) (by rw [Plan.parts_cut hc hk]; simp [OB.ren]) (by simp) (by simp)
  · simp (disch := omega) only [SX0, SX1, SX2, SX3, SX4, SX5, SX6, SX7, SX8, SU0, SY0, SY1, Nat.reduceAdd, Nat.reduceMul, Nat.reduceSub, Nat.reduceLeDiff, Nat.reduceEqDiff, Nat.reduceLT, Nat.reduceBEq, ↓reduceIte, Int.reduceLE, Int.reduceLT, Int.reduceToNat, Int.reduceNeg, reduceCtorEq, Int.reduceEq, SF0, SF1, SF2, DCa0, DCa1, DDb0, DBc0, DBa0, DCe0]
    exact fin_zero (.os 0 9 0 (es.length + p.nodes)) (.vec 9 (es ++ (p.parts b).map partRow)) ⟨rfl, rfl⟩ (by rw [Plan.nodes_leaf hw hc]; rfl) (by rw [Plan.parts_leaf hc]; rfl) (by simp) (by simp)

theorem e_partsOf : Enters Try.prog 84 := enters_of Try.func84 (by kernel_rfl) (by kernel_rfl)
theorem partsOf_c (k : Work) (p : Plan) (hk : k.Ps.length < 2 ^ 40) : ACalls Try.prog 84 [.agg k.cs, .agg p.cs] [] [] (fun r L => r = .sl ((if p.valid k then p.parts k.sheet else []).map partRow) ∧ L = []) := by
  refine acalls_tm T_tt Try.func84 rfl e_partsOf 11 rfl (W8 _ _ .any .any .any .any .any .any [.any, .any, .any, .any, .any]) rfl (rv := [.tmp 4]) rfl (sx_sound (bl := []) T_tt _ _ _ ?_)
  simp (disch := omega) only [SX0, SX1, SX2, SX3, SX4, SX5, SX6, SX7, SX8, SU0, SY0, SY1, Nat.reduceAdd, Nat.reduceMul, Nat.reduceSub, Nat.reduceLeDiff, Nat.reduceEqDiff, Nat.reduceLT, Nat.reduceBEq, ↓reduceIte, Int.reduceLE, Int.reduceLT, Int.reduceToNat, Int.reduceNeg, reduceCtorEq, Int.reduceEq, SF0, SF1, SF2, DCa0, DCa1, DDb0, DBc0, DBa0, DCe0]
  refine acall_one (validPlanI_c k p hk) (by simp [freeL, AV.free, Plan.free, Work.free]) rfl ?_
  simp (disch := omega) only [SX0, SX1, SX2, SX3, SX4, SX5, SX6, SX7, SX8, SU0, SY0, SY1, Nat.reduceAdd, Nat.reduceMul, Nat.reduceSub, Nat.reduceLeDiff, Nat.reduceEqDiff, Nat.reduceLT, Nat.reduceBEq, ↓reduceIte, Int.reduceLE, Int.reduceLT, Int.reduceToNat, Int.reduceNeg, reduceCtorEq, Int.reduceEq, SF0, SF1, SF2, DCa0, DCa1, DDb0, DBc0, DBa0, DCe0]
  refine br_ndec (fun h => ?_) (fun h => ?_)
  · simp (disch := omega) only [SX0, SX1, SX2, SX3, SX4, SX5, SX6, SX7, SX8, SU0, SY0, SY1, Nat.reduceAdd, Nat.reduceMul, Nat.reduceSub, Nat.reduceLeDiff, Nat.reduceEqDiff, Nat.reduceLT, Nat.reduceBEq, ↓reduceIte, Int.reduceLE, Int.reduceLT, Int.reduceToNat, Int.reduceNeg, reduceCtorEq, Int.reduceEq, SF0, SF1, SF2, DCa0, DCa1, DDb0, DBc0, DBa0, DCe0]
    exact fin_nilrow ⟨by rw [if_neg h]; rfl, rfl⟩
  · simp (disch := omega) only [SX0, SX1, SX2, SX3, SX4, SX5, SX6, SX7, SX8, SU0, SY0, SY1, Nat.reduceAdd, Nat.reduceMul, Nat.reduceSub, Nat.reduceLeDiff, Nat.reduceEqDiff, Nat.reduceLT, Nat.reduceBEq, ↓reduceIte, Int.reduceLE, Int.reduceLT, Int.reduceToNat, Int.reduceNeg, reduceCtorEq, Int.reduceEq, SF0, SF1, SF2, DCa0, DCa1, DDb0, DBc0, DBa0, DCe0]
    have h0 := addParts_n k _ p k.sheet [] (Nat.le_refl _) h.2.1.1 (Work.sheet_sane h.1) h.2.2 (by simp) (by have := h.2.1.2; simp; omega)
    simp only [List.length_nil, Nat.zero_add, List.nil_append] at h0
    refine awp_float (bl := []) T_tt mixed [0, 1] [0, 1, 2] [(3, [(0, .f 9), (1, .f 10), (2, .f 11)]), (4, [])] [] (by kernel_rfl) (by kernel_rfl) ?_
    simp (disch := omega) only [SX0, SX1, SX2, SX3, SX4, SX5, SX6, SX7, SX8, SU0, SY0, SY1, Nat.reduceAdd, Nat.reduceMul, Nat.reduceSub, Nat.reduceLeDiff, Nat.reduceEqDiff, Nat.reduceLT, Nat.reduceBEq, ↓reduceIte, Int.reduceLE, Int.reduceLT, Int.reduceToNat, Int.reduceNeg, reduceCtorEq, Int.reduceEq, SF0, SF1, SF2, DCa0, DCa1, DDb0, DBc0, DBa0, DCe0]
    refine qc_one (sheetOf_c k) rfl ?_
    simp (disch := omega) only [SX0, SX1, SX2, SX3, SX4, SX5, SX6, SX7, SX8, SU0, SY0, SY1, Nat.reduceAdd, Nat.reduceMul, Nat.reduceSub, Nat.reduceLeDiff, Nat.reduceEqDiff, Nat.reduceLT, Nat.reduceBEq, ↓reduceIte, Int.reduceLE, Int.reduceLT, Int.reduceToNat, Int.reduceNeg, reduceCtorEq, Int.reduceEq, SF0, SF1, SF2, DCa0, DCa1, DDb0, DBc0, DBa0, DCe0]
    refine acall_nil0 9 (by decide) ?_
    simp (disch := omega) only [SX0, SX1, SX2, SX3, SX4, SX5, SX6, SX7, SX8, SU0, SY0, SY1, Nat.reduceAdd, Nat.reduceMul, Nat.reduceSub, Nat.reduceLeDiff, Nat.reduceEqDiff, Nat.reduceLT, Nat.reduceBEq, ↓reduceIte, Int.reduceLE, Int.reduceLT, Int.reduceToNat, Int.reduceNeg, reduceCtorEq, Int.reduceEq, SF0, SF1, SF2, DCa0, DCa1, DDb0, DBc0, DBa0, DCe0]
    refine acall_own h0 [2] [2] (by simp only [SX0, SX1, SX2, SX3, SX4, SX5, SX6, SX7, SX8, SU0, SY0, SY1, Nat.reduceAdd, Nat.reduceMul, Nat.reduceSub, Nat.reduceLeDiff, Nat.reduceEqDiff, Nat.reduceLT, Nat.reduceBEq, ↓reduceIte, Int.reduceLE, Int.reduceLT, Int.reduceToNat, Int.reduceNeg, reduceCtorEq, Int.reduceEq, SF0, SF1, SF2, DCa0, DCa1, DDb0, DBc0, DBa0, DCe0, SX0]) (by decide) (by decide) (by rfl) (by simp only [SX0, SX1, SX2, SX3, SX4, SX5, SX6, SX7, SX8, SU0, SY0, SY1, Nat.reduceAdd, Nat.reduceMul, Nat.reduceSub, Nat.reduceLeDiff, Nat.reduceEqDiff, Nat.reduceLT, Nat.reduceBEq, ↓reduceIte, Int.reduceLE, Int.reduceLT, Int.reduceToNat, Int.reduceNeg, reduceCtorEq, Int.reduceEq, SF0, SF1, SF2, DCa0, DCa1, DDb0, DBc0, DBa0, DCe0, SX0]) ?_
    rintro _ _ ⟨rfl, rfl⟩
    simp (disch := omega) only [SX0, SX1, SX2, SX3, SX4, SX5, SX6, SX7, SX8, SU0, SY0, SY1, Nat.reduceAdd, Nat.reduceMul, Nat.reduceSub, Nat.reduceLeDiff, Nat.reduceEqDiff, Nat.reduceLT, Nat.reduceBEq, ↓reduceIte, Int.reduceLE, Int.reduceLT, Int.reduceToNat, Int.reduceNeg, reduceCtorEq, Int.reduceEq, SF0, SF1, SF2, DCa0, DCa1, DDb0, DBc0, DBa0, DCe0]
    exact fin_row rfl (by simp [Plan.parts_len p h.2.1.1]) ⟨by rw [if_pos h], rfl⟩

/-- There is a part with this number. -/
def Plan.hasBox (p : Plan) (k : Work) (n : Int) : Prop := p.valid k ∧ 0 ≤ n ∧ n < p.nodes
instance (p : Plan) (k : Work) (n : Int) : Decidable (p.hasBox k n) := inferInstanceAs (Decidable (_ ∧ _))
/-- Its box. -/
def Plan.boxAt (p : Plan) (k : Work) (n : Int) : Box := if p.hasBox k n then (((p.parts k.sheet)[n.toNat]?).map (·.2)).getD Box.zero else Box.zero
