/- Bounds by areas and by scaled sides: the program and the reference. -/
import Derived.Test.YtkcpcmobmalijaaBsf
import Derived.Test.YtkcpcmobmalijaaSg
set_option linter.unusedSimpArgs false
set_option linter.unusedVariables false
namespace Go.Pc
open Go Go.Proofs

theorem mul_bd {a b A B : Int} (h1 : 0 ≤ a ∧ a ≤ A) (h2 : 0 ≤ b ∧ b ≤ B) : 0 ≤ a * b ∧ a * b ≤ A * B :=
  ⟨Int.mul_nonneg h1.1 h2.1, Int.mul_le_mul h1.2 h2.2 h2.1 (by omega)⟩
theorem e_roundUp : Enters Try.prog 100 := enters_of Try.func100 (by kernel_rfl) (by kernel_rfl)
theorem roundUp_c (a d : Int) (ha : 0 ≤ a ∧ a ≤ 1000000000) (hd : 1 ≤ d ∧ d ≤ 1000000000) : ACalls Try.prog 100 [.val (.int .i64 a), .val (.int .i64 d)] [] [] (fun r L => r = .val (.int .i64 ((a + d - 1).tdiv d)) ∧ L = []) := by
  have h1 : 0 ≤ (a + d - 1).tdiv d ∧ (a + d - 1).tdiv d ≤ 2000000000 := by
    rw [Int.tdiv_eq_ediv_of_nonneg (by omega)]
    have h2 : (a + d - 1) / d * d ≤ a + d - 1 := Int.ediv_mul_le _ (by omega)
    have h3 : 0 ≤ (a + d - 1) / d := Int.ediv_nonneg (by omega) (by omega)
    have h4 : (a + d - 1) / d * 1 ≤ (a + d - 1) / d * d := Int.mul_le_mul_of_nonneg_left hd.1 h3
    omega
  refine acalls_tm T_tt Try.func100 rfl e_roundUp 9 rfl (W8 _ _ .any .any .any .any .any .any [.any, .any, .any]) rfl (rv := [.tmp 4]) rfl (sx_sound (bl := []) T_tt _ _ _ ?_)
  repeat' first | simp (disch := omega) only [SX0, SX1, SX2, SX3, SX4, SX5, SX6, SX7, SX8, SU0, SY0, SY1, Nat.reduceAdd, Nat.reduceMul, Nat.reduceSub, Nat.reduceLeDiff, Nat.reduceEqDiff, Nat.reduceLT, Nat.reduceBEq, ↓reduceIte, Int.reduceLE, Int.reduceLT, Int.reduceToNat, Int.reduceNeg, reduceCtorEq, Int.reduceEq, SF0, SF1, SF2, DHb0, DHb1, DHa0, DCg0, DCe0, DCe1, DCe2, DDb0, DBc0, DBc1, DDe0, DAlh0, DAlv0] | refine req (by omega) ?_ | fail
  exact fin_val ⟨rfl, rfl⟩

theorem e_ceilDiv : Enters Try.prog 101 := enters_of Try.func101 (by kernel_rfl) (by kernel_rfl)
theorem ceilDiv_c (a d : Int) (ha : 0 ≤ a ∧ a ≤ 1000000000) (hd : 1 ≤ d ∧ d ≤ 1000000000) : ACalls Try.prog 101 [.val (.int .i64 a), .val (.int .i64 d)] [] [] (fun r L => r = .val (.int .i64 ((a + d - 1).tdiv d)) ∧ L = []) := by
  have h1 : 0 ≤ (a + d - 1).tdiv d ∧ (a + d - 1).tdiv d ≤ 2000000000 := by
    rw [Int.tdiv_eq_ediv_of_nonneg (by omega)]
    have h2 : (a + d - 1) / d * d ≤ a + d - 1 := Int.ediv_mul_le _ (by omega)
    have h3 : 0 ≤ (a + d - 1) / d := Int.ediv_nonneg (by omega) (by omega)
    have h4 : (a + d - 1) / d * 1 ≤ (a + d - 1) / d * d := Int.mul_le_mul_of_nonneg_left hd.1 h3
    omega
  refine acalls_tm T_tt Try.func101 rfl e_ceilDiv 9 rfl (W8 _ _ .any .any .any .any .any .any [.any, .any, .any]) rfl (rv := [.tmp 4]) rfl (sx_sound (bl := []) T_tt _ _ _ ?_)
  repeat' first | simp (disch := omega) only [SX0, SX1, SX2, SX3, SX4, SX5, SX6, SX7, SX8, SU0, SY0, SY1, Nat.reduceAdd, Nat.reduceMul, Nat.reduceSub, Nat.reduceLeDiff, Nat.reduceEqDiff, Nat.reduceLT, Nat.reduceBEq, ↓reduceIte, Int.reduceLE, Int.reduceLT, Int.reduceToNat, Int.reduceNeg, reduceCtorEq, Int.reduceEq, SF0, SF1, SF2, DHb0, DHb1, DHa0, DCg0, DCe0, DCe1, DCe2, DDb0, DBc0, DBc1, DDe0, DAlh0, DAlv0] | refine req (by omega) ?_ | fail
  exact fin_val ⟨rfl, rfl⟩

/-- The sum over panes. -/
def sumP (f : Pane → Int) (l : List Pane) : Int := (l.map f).sum
theorem sumP_next {f : Pane → Int} {l : List Pane} {i : Nat} {q : Pane} (h : l[i]? = some q) : sumP f (l.take (i + 1)) = sumP f (l.take i) + f q := by
  simp [sumP, List.take_add_one, h]
theorem sumP_bd {f : Pane → Int} {B : Int} (hB : 0 ≤ B) : ∀ (l : List Pane), (∀ q ∈ l, 0 ≤ f q ∧ f q ≤ B) → 0 ≤ sumP f l ∧ sumP f l ≤ B * l.length
  | [], _ => by simp [sumP]
  | q :: l, h => by
    have h1 := sumP_bd hB l fun x hx => h x (by simp [hx])
    have h2 := h q (by simp)
    have e : B * ((l.length + 1 : Nat) : Int) = B * l.length + B := by rw [Int.natCast_add, Int.mul_add]; simp
    rw [List.length_cons, e]
    simp only [sumP, List.map_cons, List.sum_cons] at *
    omega
def arP (q : Pane) : Int := q.W * q.H
def cdiv (a d : Int) : Int := (a + d - 1).tdiv d
theorem arP_bd {k : Work} (h : k.ok) {q : Pane} (hq : q ∈ k.Ps) : 0 ≤ arP q ∧ arP q ≤ 40000 := by
  have := h.2.2.1 q hq
  unfold Pane.ok at this
  exact mul_bd (A := 200) (B := 200) (by omega) (by omega)
theorem sumT_bd {f : Pane → Int} {B : Int} (hB : 0 ≤ B) {k : Work} (h : k.ok) (hf : ∀ q ∈ k.Ps, 0 ≤ f q ∧ f q ≤ B) (i : Nat) : 0 ≤ sumP f (k.Ps.take i) ∧ sumP f (k.Ps.take i) ≤ B * 24 := by
  have h1 := sumP_bd hB (k.Ps.take i) fun q hq => hf q (List.mem_of_mem_take hq)
  have h2 : ((k.Ps.take i).length : Int) ≤ 24 := by
    unfold Work.ok at h
    rw [List.length_take]; omega
  have h3 : B * ((k.Ps.take i).length : Int) ≤ B * 24 := Int.mul_le_mul_of_nonneg_left h2 hB
  omega

def areaB (k : Work) : Int := if k.ok then cdiv (sumP arP k.Ps) (k.W * k.H) else -1

theorem e_areaBoundI : Enters Try.prog 47 := enters_of Try.func47 (by kernel_rfl) (by kernel_rfl)
set_option maxHeartbeats 2000000 in
theorem areaBoundI_c (k : Work) (hk : k.Ps.length < 2 ^ 40) : ACalls Try.prog 47 [.agg k.cs] [] [] (fun r L => r = .val (.int .i64 (areaB k)) ∧ L = []) := by
  unfold areaB
  refine acalls_tm T_tt Try.func47 rfl e_areaBoundI 30 rfl (W8 _ .any .any .any .any .any .any .any (W8 .any .any .any .any .any .any .any .any (W8 .any .any .any .any .any .any .any .any [.any, .any, .any, .any, .any, .any, .any]))) rfl (rv := [.tmp 2]) rfl (sx_sound (bl := []) T_tt _ _ _ ?_)
  simp (disch := omega) only [SX0, SX1, SX2, SX3, SX4, SX5, SX6, SX7, SX8, SU0, SY0, SY1, Nat.reduceAdd, Nat.reduceMul, Nat.reduceSub, Nat.reduceLeDiff, Nat.reduceEqDiff, Nat.reduceLT, Nat.reduceBEq, ↓reduceIte, Int.reduceLE, Int.reduceLT, Int.reduceToNat, Int.reduceNeg, reduceCtorEq, Int.reduceEq, SF0, SF1, SF2, DHb0, DHb1, DHa0, DCg0, DCe0, DCe1, DCe2, DDb0, DBc0, DBc1, DDe0, DAlh0, DAlv0]
  refine acall_one (validWorkI_c k hk) (by simp [freeL, AV.free, Work.free]) rfl ?_
  by_cases hok : k.ok
  · have hkw := hok
    unfold Work.ok at hkw
    have hA := mul_bd (a := k.W) (b := k.H) (A := 200) (B := 200) (by omega) (by omega)
    have hA1 := Int.mul_pos (a := k.W) (b := k.H) (by omega) (by omega)
    have hT := fun i => sumT_bd (f := arP) (by omega) hok (fun q hq => arP_bd hok hq) i
    rw [if_pos hok]
    simp (disch := omega) only [SX0, SX1, SX2, SX3, SX4, SX5, SX6, SX7, SX8, SU0, SY0, SY1, Nat.reduceAdd, Nat.reduceMul, Nat.reduceSub, Nat.reduceLeDiff, Nat.reduceEqDiff, Nat.reduceLT, Nat.reduceBEq, ↓reduceIte, Int.reduceLE, Int.reduceLT, Int.reduceToNat, Int.reduceNeg, reduceCtorEq, Int.reduceEq, SF0, SF1, SF2, DHb0, DHb1, DHa0, DCg0, DCe0, DCe1, DCe2, DDb0, DBc0, DBc1, DDe0, DAlh0, DAlv0, hok, decide_true, Bool.not_true]
    with_reducible refine awp_loop_h (G := Nat) 5 26 (fun i => [(3, .val (.int .i64 (sumP arP (k.Ps.take i)))), (10, .sl (k.Ps.map Pane.cs)), (11, .val (.int .i64 k.Ps.length)), (12, .val (.int .i64 i))]) (fun _ => [.cells k.cs]) (fun i => i ≤ k.Ps.length) (fun i => k.Ps.length - i) 0 (Nat.zero_le _) ?_ (fun i hi => sx_sound (bl := []) T_tt _ _ _ ?_)
    · simp (disch := omega) only [SX0, SX1, SX2, SX3, SX4, SX5, SX6, SX7, SX8, SU0, SY0, SY1, Nat.reduceAdd, Nat.reduceMul, Nat.reduceSub, Nat.reduceLeDiff, Nat.reduceEqDiff, Nat.reduceLT, Nat.reduceBEq, ↓reduceIte, Int.reduceLE, Int.reduceLT, Int.reduceToNat, Int.reduceNeg, reduceCtorEq, Int.reduceEq, SF0, SF1, SF2, DHb0, DHb1, DHa0, DCg0, DCe0, DCe1, DCe2, DDb0, DBc0, DBc1, DDe0, DAlh0, DAlv0]
      (refine wk_le ?_ ?_ ?_; (focus (simp [W8, leTm, leAV, AV.under, underL, Work.under, sumP]; done)); (focus (simp [leL, OB.under, underL, AV.under, Work.under, sumP]; done)); (focus (simp; done)))
    simp (disch := omega) only [SX0, SX1, SX2, SX3, SX4, SX5, SX6, SX7, SX8, SU0, SY0, SY1, Nat.reduceAdd, Nat.reduceMul, Nat.reduceSub, Nat.reduceLeDiff, Nat.reduceEqDiff, Nat.reduceLT, Nat.reduceBEq, ↓reduceIte, Int.reduceLE, Int.reduceLT, Int.reduceToNat, Int.reduceNeg, reduceCtorEq, Int.reduceEq, SF0, SF1, SF2, DHb0, DHb1, DHa0, DCg0, DCe0, DCe1, DCe2, DDb0, DBc0, DBc1, DDe0, DAlh0, DAlv0]
    refine br_dec (fun h1 => ?_) (fun h1 => ?_)
    · obtain ⟨q, hq⟩ := get_lt (l := k.Ps) (i := i) (by omega)
      have hb := arP_bd hok (List.mem_of_getElem? hq)
      have hnx := sumP_next (f := arP) hq
      have hTi := hT i
      have earP : q.W * q.H = arP q := rfl
      repeat' first | simp (disch := omega) only [SX0, SX1, SX2, SX3, SX4, SX5, SX6, SX7, SX8, SU0, SY0, SY1, Nat.reduceAdd, Nat.reduceMul, Nat.reduceSub, Nat.reduceLeDiff, Nat.reduceEqDiff, Nat.reduceLT, Nat.reduceBEq, ↓reduceIte, Int.reduceLE, Int.reduceLT, Int.reduceToNat, Int.reduceNeg, reduceCtorEq, Int.reduceEq, SF0, SF1, SF2, DHb0, DHb1, DHa0, DCg0, DCe0, DCe1, DCe2, DDb0, DBc0, DBc1, DDe0, DAlh0, DAlv0, hq, Pane.cs, earP] | refine req (by omega) ?_ | fail
      refine ⟨i + 1, by omega, by omega, ?_⟩
      (refine wk_le ?_ ?_ ?_; (focus (simp [W8, leTm, leAV, AV.under, underL, Work.under, hnx]; done)); (focus (simp [leL, OB.under, underL, AV.under, Work.under, hnx]; done)); (focus (simp; done)))
    · have e : i = k.Ps.length := by omega
      subst e
      have hTi := hT k.Ps.length
      rw [List.take_length] at hTi ⊢
      repeat' first | simp (disch := omega) only [SX0, SX1, SX2, SX3, SX4, SX5, SX6, SX7, SX8, SU0, SY0, SY1, Nat.reduceAdd, Nat.reduceMul, Nat.reduceSub, Nat.reduceLeDiff, Nat.reduceEqDiff, Nat.reduceLT, Nat.reduceBEq, ↓reduceIte, Int.reduceLE, Int.reduceLT, Int.reduceToNat, Int.reduceNeg, reduceCtorEq, Int.reduceEq, SF0, SF1, SF2, DHb0, DHb1, DHa0, DCg0, DCe0, DCe1, DCe2, DDb0, DBc0, DBc1, DDe0, DAlh0, DAlv0] | refine req (by omega) ?_ | fail
      refine acall_one (roundUp_c _ _ (by omega) (by omega)) rfl rfl ?_
      simp (disch := omega) only [SX0, SX1, SX2, SX3, SX4, SX5, SX6, SX7, SX8, SU0, SY0, SY1, Nat.reduceAdd, Nat.reduceMul, Nat.reduceSub, Nat.reduceLeDiff, Nat.reduceEqDiff, Nat.reduceLT, Nat.reduceBEq, ↓reduceIte, Int.reduceLE, Int.reduceLT, Int.reduceToNat, Int.reduceNeg, reduceCtorEq, Int.reduceEq, SF0, SF1, SF2, DHb0, DHb1, DHa0, DCg0, DCe0, DCe1, DCe2, DDb0, DBc0, DBc1, DDe0, DAlh0, DAlv0]
      exact fin_val ⟨rfl, rfl⟩
  · rw [if_neg hok]
    simp (disch := omega) only [SX0, SX1, SX2, SX3, SX4, SX5, SX6, SX7, SX8, SU0, SY0, SY1, Nat.reduceAdd, Nat.reduceMul, Nat.reduceSub, Nat.reduceLeDiff, Nat.reduceEqDiff, Nat.reduceLT, Nat.reduceBEq, ↓reduceIte, Int.reduceLE, Int.reduceLT, Int.reduceToNat, Int.reduceNeg, reduceCtorEq, Int.reduceEq, SF0, SF1, SF2, DHb0, DHb1, DHa0, DCg0, DCe0, DCe1, DCe2, DDb0, DBc0, DBc1, DDe0, DAlh0, DAlv0, hok, decide_false, Bool.not_false]
    exact fin_val ⟨rfl, rfl⟩

theorem e_areaBoundS : Enters Try.prog 49 := enters_of Try.func49 (by kernel_rfl) (by kernel_rfl)
set_option maxHeartbeats 2000000 in
theorem areaBoundS_c (k : Work) (hk : k.Ps.length < 2 ^ 40) : ACalls Try.prog 49 [.agg k.cs] [] [] (fun r L => r = .val (.int .i64 (areaB k)) ∧ L = []) := by
  unfold areaB
  refine acalls_tm T_tt Try.func49 rfl e_areaBoundS 36 rfl (W8 _ .any .any .any .any .any .any .any (W8 .any .any .any .any .any .any .any .any (W8 .any .any .any .any .any .any .any .any (W8 .any .any .any .any .any .any .any .any [.any, .any, .any, .any, .any])))) rfl (rv := [.tmp 2]) rfl (sx_sound (bl := []) T_tt _ _ _ ?_)
  simp (disch := omega) only [SX0, SX1, SX2, SX3, SX4, SX5, SX6, SX7, SX8, SU0, SY0, SY1, Nat.reduceAdd, Nat.reduceMul, Nat.reduceSub, Nat.reduceLeDiff, Nat.reduceEqDiff, Nat.reduceLT, Nat.reduceBEq, ↓reduceIte, Int.reduceLE, Int.reduceLT, Int.reduceToNat, Int.reduceNeg, reduceCtorEq, Int.reduceEq, SF0, SF1, SF2, DHb0, DHb1, DHa0, DCg0, DCe0, DCe1, DCe2, DDb0, DBc0, DBc1, DDe0, DAlh0, DAlv0]
  refine acall_one (validWorkS_c k hk) (by simp [freeL, AV.free, Work.free]) rfl ?_
  by_cases hok : k.ok
  · have hkw := hok
    unfold Work.ok at hkw
    have hA := mul_bd (a := k.W) (b := k.H) (A := 200) (B := 200) (by omega) (by omega)
    have hA1 := Int.mul_pos (a := k.W) (b := k.H) (by omega) (by omega)
    have hT := fun i => sumT_bd (f := arP) (by omega) hok (fun q hq => arP_bd hok hq) i
    rw [if_pos hok]
    simp (disch := omega) only [SX0, SX1, SX2, SX3, SX4, SX5, SX6, SX7, SX8, SU0, SY0, SY1, Nat.reduceAdd, Nat.reduceMul, Nat.reduceSub, Nat.reduceLeDiff, Nat.reduceEqDiff, Nat.reduceLT, Nat.reduceBEq, ↓reduceIte, Int.reduceLE, Int.reduceLT, Int.reduceToNat, Int.reduceNeg, reduceCtorEq, Int.reduceEq, SF0, SF1, SF2, DHb0, DHb1, DHa0, DCg0, DCe0, DCe1, DCe2, DDb0, DBc0, DBc1, DDe0, DAlh0, DAlv0, hok, decide_true, Bool.not_true]
    with_reducible refine awp_loop_h (G := Nat) 5 32 (fun i => [(3, .val (.int .i64 (sumP arP (k.Ps.take i)))), (4, .val (.int .i64 i))]) (fun _ => [.cells k.cs]) (fun i => i ≤ k.Ps.length) (fun i => k.Ps.length - i) 0 (Nat.zero_le _) ?_ (fun i hi => sx_sound (bl := []) T_tt _ _ _ ?_)
    · simp (disch := omega) only [SX0, SX1, SX2, SX3, SX4, SX5, SX6, SX7, SX8, SU0, SY0, SY1, Nat.reduceAdd, Nat.reduceMul, Nat.reduceSub, Nat.reduceLeDiff, Nat.reduceEqDiff, Nat.reduceLT, Nat.reduceBEq, ↓reduceIte, Int.reduceLE, Int.reduceLT, Int.reduceToNat, Int.reduceNeg, reduceCtorEq, Int.reduceEq, SF0, SF1, SF2, DHb0, DHb1, DHa0, DCg0, DCe0, DCe1, DCe2, DDb0, DBc0, DBc1, DDe0, DAlh0, DAlv0]
      (refine wk_le ?_ ?_ ?_; (focus (simp [W8, leTm, leAV, AV.under, underL, Work.under, sumP]; done)); (focus (simp [leL, OB.under, underL, AV.under, Work.under, sumP]; done)); (focus (simp; done)))
    simp (disch := omega) only [SX0, SX1, SX2, SX3, SX4, SX5, SX6, SX7, SX8, SU0, SY0, SY1, Nat.reduceAdd, Nat.reduceMul, Nat.reduceSub, Nat.reduceLeDiff, Nat.reduceEqDiff, Nat.reduceLT, Nat.reduceBEq, ↓reduceIte, Int.reduceLE, Int.reduceLT, Int.reduceToNat, Int.reduceNeg, reduceCtorEq, Int.reduceEq, SF0, SF1, SF2, DHb0, DHb1, DHa0, DCg0, DCe0, DCe1, DCe2, DDb0, DBc0, DBc1, DDe0, DAlh0, DAlv0]
    refine br_dec (fun h1 => ?_) (fun h1 => ?_)
    · obtain ⟨q, hq⟩ := get_lt (l := k.Ps) (i := i) (by omega)
      have hb := arP_bd hok (List.mem_of_getElem? hq)
      have hnx := sumP_next (f := arP) hq
      have hTi := hT i
      have earP : q.W * q.H = arP q := rfl
      simp (disch := omega) only [SX0, SX1, SX2, SX3, SX4, SX5, SX6, SX7, SX8, SU0, SY0, SY1, Nat.reduceAdd, Nat.reduceMul, Nat.reduceSub, Nat.reduceLeDiff, Nat.reduceEqDiff, Nat.reduceLT, Nat.reduceBEq, ↓reduceIte, Int.reduceLE, Int.reduceLT, Int.reduceToNat, Int.reduceNeg, reduceCtorEq, Int.reduceEq, SF0, SF1, SF2, DHb0, DHb1, DHa0, DCg0, DCe0, DCe1, DCe2, DDb0, DBc0, DBc1, DDe0, DAlh0, DAlv0]
      refine awp_drawA T_tt mixed (by decide +kernel) (by kernel_rfl) (by kernel_rfl) ?_
      repeat' first | simp (disch := omega) only [SX0, SX1, SX2, SX3, SX4, SX5, SX6, SX7, SX8, SU0, SY0, SY1, Nat.reduceAdd, Nat.reduceMul, Nat.reduceSub, Nat.reduceLeDiff, Nat.reduceEqDiff, Nat.reduceLT, Nat.reduceBEq, ↓reduceIte, Int.reduceLE, Int.reduceLT, Int.reduceToNat, Int.reduceNeg, reduceCtorEq, Int.reduceEq, SF0, SF1, SF2, DHb0, DHb1, DHa0, DCg0, DCe0, DCe1, DCe2, DDb0, DBc0, DBc1, DDe0, DAlh0, DAlv0, hq, Pane.cs, earP] | refine req (by omega) ?_ | fail
      refine ⟨i + 1, by omega, by omega, ?_⟩
      (refine wk_le ?_ ?_ ?_; (focus (simp [W8, leTm, leAV, AV.under, underL, Work.under, hnx]; done)); (focus (simp [leL, OB.under, underL, AV.under, Work.under, hnx]; done)); (focus (simp; done)))
    · have e : i = k.Ps.length := by omega
      subst e
      have hTi := hT k.Ps.length
      rw [List.take_length] at hTi ⊢
      repeat' first | simp (disch := omega) only [SX0, SX1, SX2, SX3, SX4, SX5, SX6, SX7, SX8, SU0, SY0, SY1, Nat.reduceAdd, Nat.reduceMul, Nat.reduceSub, Nat.reduceLeDiff, Nat.reduceEqDiff, Nat.reduceLT, Nat.reduceBEq, ↓reduceIte, Int.reduceLE, Int.reduceLT, Int.reduceToNat, Int.reduceNeg, reduceCtorEq, Int.reduceEq, SF0, SF1, SF2, DHb0, DHb1, DHa0, DCg0, DCe0, DCe1, DCe2, DDb0, DBc0, DBc1, DDe0, DAlh0, DAlv0] | refine req (by omega) ?_ | fail
      refine acall_one (ceilDiv_c _ _ (by omega) (by omega)) rfl rfl ?_
      simp (disch := omega) only [SX0, SX1, SX2, SX3, SX4, SX5, SX6, SX7, SX8, SU0, SY0, SY1, Nat.reduceAdd, Nat.reduceMul, Nat.reduceSub, Nat.reduceLeDiff, Nat.reduceEqDiff, Nat.reduceLT, Nat.reduceBEq, ↓reduceIte, Int.reduceLE, Int.reduceLT, Int.reduceToNat, Int.reduceNeg, reduceCtorEq, Int.reduceEq, SF0, SF1, SF2, DHb0, DHb1, DHa0, DCg0, DCe0, DCe1, DCe2, DDb0, DBc0, DBc1, DDe0, DAlh0, DAlv0]
      exact fin_val ⟨rfl, rfl⟩
  · rw [if_neg hok]
    simp (disch := omega) only [SX0, SX1, SX2, SX3, SX4, SX5, SX6, SX7, SX8, SU0, SY0, SY1, Nat.reduceAdd, Nat.reduceMul, Nat.reduceSub, Nat.reduceLeDiff, Nat.reduceEqDiff, Nat.reduceLT, Nat.reduceBEq, ↓reduceIte, Int.reduceLE, Int.reduceLT, Int.reduceToNat, Int.reduceNeg, reduceCtorEq, Int.reduceEq, SF0, SF1, SF2, DHb0, DHb1, DHa0, DCg0, DCe0, DCe1, DCe2, DDb0, DBc0, DBc1, DDe0, DAlh0, DAlv0, hok, decide_false, Bool.not_false]
    exact fin_val ⟨rfl, rfl⟩

end Go.Pc
