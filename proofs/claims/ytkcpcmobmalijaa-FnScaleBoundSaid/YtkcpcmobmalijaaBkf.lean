/- Bounds by areas and by scaled sides: the program and the reference. -/
import Derived.Test.YtkcpcmobmalijaaBsg
set_option linter.unusedSimpArgs false
set_option linter.unusedVariables false
namespace Go.Pc
open Go Go.Proofs

theorem mul_bd {a b A B : Int} (h1 : 0 ≤ a ∧ a ≤ A) (h2 : 0 ≤ b ∧ b ≤ B) : 0 ≤ a * b ∧ a * b ≤ A * B :=
  ⟨Int.mul_nonneg h1.1 h2.1, Int.mul_le_mul h1.2 h2.2 h2.1 (by omega)⟩
/-- A length that is scaled. -/
def scl (n bar x : Int) : Int := if (x * (n + 1)).tmod bar = 0 then n * x else (x * (n + 1)).tdiv bar * bar
theorem scl_bd {n bar x : Int} (hn : 1 ≤ n ∧ n ≤ 6) (hb : 1 ≤ bar) (hx : 0 ≤ x ∧ x ≤ 200) : 0 ≤ scl n bar x ∧ scl n bar x ≤ 1400 := by
  have h1 := mul_bd (a := x) (b := n + 1) (A := 200) (B := 7) hx (by omega)
  have h2 := mul_bd (a := n) (b := x) (A := 6) (B := 200) (by omega) hx
  unfold scl
  split
  · omega
  · rw [Int.tdiv_eq_ediv_of_nonneg h1.1]
    have h3 : x * (n + 1) / bar * bar ≤ x * (n + 1) := Int.ediv_mul_le _ (by omega)
    have h4 : 0 ≤ x * (n + 1) / bar * bar := Int.mul_nonneg (Int.ediv_nonneg h1.1 (by omega)) (by omega)
    omega

theorem e_roundUp : Enters Try.prog 100 := enters_of Try.func100 (by kernel_rfl) (by kernel_rfl)
theorem roundUp_c (a d : Int) (ha : 0 ≤ a ∧ a ≤ 1000000000) (hd : 1 ≤ d ∧ d ≤ 1000000000) : ACalls Try.prog 100 [.val (.int .i64 a), .val (.int .i64 d)] [] [] (fun r L => r = .val (.int .i64 ((a + d - 1).tdiv d)) ∧ L = []) := by
  have h1 : 0 ≤ (a + d - 1).tdiv d ∧ (a + d - 1).tdiv d ≤ 2000000000 := by
    rw [Int.tdiv_eq_ediv_of_nonneg (by omega)]
    have h2 : (a + d - 1) / d * d ≤ a + d - 1 := Int.ediv_mul_le _ (by omega)
    have h3 : 0 ≤ (a + d - 1) / d := Int.ediv_nonneg (by omega) (by omega)
    have h4 : (a + d - 1) / d * 1 ≤ (a + d - 1) / d * d := Int.mul_le_mul_of_nonneg_left hd.1 h3
    omega
  refine acalls_tm T_tt Try.func100 rfl e_roundUp 9 rfl (W8 _ _ .any .any .any .any .any .any [.any, .any, .any]) rfl (rv := [.tmp 4]) rfl (sx_sound (bl := []) T_tt _ _ _ ?_)
  repeat' first | simp (disch := omega) only [SX0, SX1, SX2, SX3, SX4, SX5, SX6, SX7, SX8, SU0, SY0, SY1, Nat.reduceAdd, Nat.reduceMul, Nat.reduceSub, Nat.reduceLeDiff, Nat.reduceEqDiff, Nat.reduceLT, Nat.reduceBEq, ↓reduceIte, Int.reduceLE, Int.reduceLT, Int.reduceToNat, Int.reduceNeg, reduceCtorEq, Int.reduceEq, SF0, SF1, SF2, DHb0, DHb1, DHa0, DCg0, DCe0, DCe1, DCe2, DDb0, DBc0, DBc1, DDe0, DAlh0, DAlv0] | refine req (by omega) ?_ | fail
  exact fin_val ⟨rfl, rfl⟩

theorem e_ceilDiv : Enters Try.prog 101 := enters_of Try.func101 (by kernel_rfl) (by kernel_rfl)
theorem ceilDiv_c (a d : Int) (ha : 0 ≤ a ∧ a ≤ 1000000000) (hd : 1 ≤ d ∧ d ≤ 1000000000) : ACalls Try.prog 101 [.val (.int .i64 a), .val (.int .i64 d)] [] [] (fun r L => r = .val (.int .i64 ((a + d - 1).tdiv d)) ∧ L = []) := by
  have h1 : 0 ≤ (a + d - 1).tdiv d ∧ (a + d - 1).tdiv d ≤ 2000000000 := by
    rw [Int.tdiv_eq_ediv_of_nonneg (by omega)]
    have h2 : (a + d - 1) / d * d ≤ a + d - 1 := Int.ediv_mul_le _ (by omega)
    have h3 : 0 ≤ (a + d - 1) / d := Int.ediv_nonneg (by omega) (by omega)
    have h4 : (a + d - 1) / d * 1 ≤ (a + d - 1) / d * d := Int.mul_le_mul_of_nonneg_left hd.1 h3
    omega
  refine acalls_tm T_tt Try.func101 rfl e_ceilDiv 9 rfl (W8 _ _ .any .any .any .any .any .any [.any, .any, .any]) rfl (rv := [.tmp 4]) rfl (sx_sound (bl := []) T_tt _ _ _ ?_)
  repeat' first | simp (disch := omega) only [SX0, SX1, SX2, SX3, SX4, SX5, SX6, SX7, SX8, SU0, SY0, SY1, Nat.reduceAdd, Nat.reduceMul, Nat.reduceSub, Nat.reduceLeDiff, Nat.reduceEqDiff, Nat.reduceLT, Nat.reduceBEq, ↓reduceIte, Int.reduceLE, Int.reduceLT, Int.reduceToNat, Int.reduceNeg, reduceCtorEq, Int.reduceEq, SF0, SF1, SF2, DHb0, DHb1, DHa0, DCg0, DCe0, DCe1, DCe2, DDb0, DBc0, DBc1, DDe0, DAlh0, DAlv0] | refine req (by omega) ?_ | fail
  exact fin_val ⟨rfl, rfl⟩

/-- The sum over panes. -/
def sumP (f : Pane → Int) (l : List Pane) : Int := (l.map f).sum
theorem sumP_next {f : Pane → Int} {l : List Pane} {i : Nat} {q : Pane} (h : l[i]? = some q) : sumP f (l.take (i + 1)) = sumP f (l.take i) + f q := by
  simp [sumP, List.take_add_one, h]
theorem sumP_bd {f : Pane → Int} {B : Int} (hB : 0 ≤ B) : ∀ (l : List Pane), (∀ q ∈ l, 0 ≤ f q ∧ f q ≤ B) → 0 ≤ sumP f l ∧ sumP f l ≤ B * l.length
  | [], _ => by simp [sumP]
  | q :: l, h => by
    have h1 := sumP_bd hB l fun x hx => h x (by simp [hx])
    have h2 := h q (by simp)
    have e : B * ((l.length + 1 : Nat) : Int) = B * l.length + B := by rw [Int.natCast_add, Int.mul_add]; simp
    rw [List.length_cons, e]
    simp only [sumP, List.map_cons, List.sum_cons] at *
    omega
def sclP (k : Work) (n m : Int) (q : Pane) : Int := scl n k.W q.W * scl m k.H q.H
def cdiv (a d : Int) : Int := (a + d - 1).tdiv d
theorem sumT_bd {f : Pane → Int} {B : Int} (hB : 0 ≤ B) {k : Work} (h : k.ok) (hf : ∀ q ∈ k.Ps, 0 ≤ f q ∧ f q ≤ B) (i : Nat) : 0 ≤ sumP f (k.Ps.take i) ∧ sumP f (k.Ps.take i) ≤ B * 24 := by
  have h1 := sumP_bd hB (k.Ps.take i) fun q hq => hf q (List.mem_of_mem_take hq)
  have h2 : ((k.Ps.take i).length : Int) ≤ 24 := by
    unfold Work.ok at h
    rw [List.length_take]; omega
  have h3 : B * ((k.Ps.take i).length : Int) ≤ B * 24 := Int.mul_le_mul_of_nonneg_left h2 hB
  omega

theorem e_scaleLength : Enters Try.prog 99 := enters_of Try.func99 (by kernel_rfl) (by kernel_rfl)
set_option maxHeartbeats 2000000 in
theorem scaleLength_c (n bar x : Int) (hn : 1 ≤ n ∧ n ≤ 6) (hb : 1 ≤ bar ∧ bar ≤ 200) (hx : 0 ≤ x ∧ x ≤ bar) : ACalls Try.prog 99 [.val (.int .i64 n), .val (.int .i64 bar), .val (.int .i64 x)] [] [] (fun r L => r = .val (.int .i64 (scl n bar x)) ∧ L = []) := by
  have h1 := mul_bd (a := x) (b := n + 1) (A := 200) (B := 7) (by omega) (by omega)
  have h2 := mul_bd (a := n) (b := x) (A := 6) (B := 200) (by omega) (by omega)
  have h3 := scl_bd (n := n) (bar := bar) (x := x) hn hb.1 (by omega)
  have h4 : 0 ≤ (x * (n + 1)).tdiv bar ∧ (x * (n + 1)).tdiv bar ≤ 1400 := by
    rw [Int.tdiv_eq_ediv_of_nonneg h1.1]
    exact ⟨Int.ediv_nonneg h1.1 (by omega), Int.le_trans (Int.ediv_le_self _ h1.1) (by omega)⟩
  unfold scl at h3 ⊢
  refine acalls_tm T_tt Try.func99 rfl e_scaleLength 45 rfl (W8 _ _ _ .any .any .any .any .any (W8 .any .any .any .any .any .any .any .any (W8 .any .any .any .any .any .any .any .any (W8 .any .any .any .any .any .any .any .any (W8 .any .any .any .any .any .any .any .any (W8 .any .any .any .any .any .any .any .any [])))))) rfl (rv := [.tmp 6]) rfl (sx_sound (bl := []) T_tt _ _ _ ?_)
  repeat' first | simp (disch := omega) only [SX0, SX1, SX2, SX3, SX4, SX5, SX6, SX7, SX8, SU0, SY0, SY1, Nat.reduceAdd, Nat.reduceMul, Nat.reduceSub, Nat.reduceLeDiff, Nat.reduceEqDiff, Nat.reduceLT, Nat.reduceBEq, ↓reduceIte, Int.reduceLE, Int.reduceLT, Int.reduceToNat, Int.reduceNeg, reduceCtorEq, Int.reduceEq, SF0, SF1, SF2, DHb0, DHb1, DHa0, DCg0, DCe0, DCe1, DCe2, DDb0, DBc0, DBc1, DDe0, DAlh0, DAlv0] | refine req (by omega) ?_ | (refine br_dec (fun h => absurd h (by omega)) (fun _ => ?_)) | fail
  refine br_dec (fun h5 => ?_) (fun h5 => ?_)
  · rw [if_pos h5] at h3 ⊢
    repeat' first | simp (disch := omega) only [SX0, SX1, SX2, SX3, SX4, SX5, SX6, SX7, SX8, SU0, SY0, SY1, Nat.reduceAdd, Nat.reduceMul, Nat.reduceSub, Nat.reduceLeDiff, Nat.reduceEqDiff, Nat.reduceLT, Nat.reduceBEq, ↓reduceIte, Int.reduceLE, Int.reduceLT, Int.reduceToNat, Int.reduceNeg, reduceCtorEq, Int.reduceEq, SF0, SF1, SF2, DHb0, DHb1, DHa0, DCg0, DCe0, DCe1, DCe2, DDb0, DBc0, DBc1, DDe0, DAlh0, DAlv0] | refine req (by omega) ?_ | fail
    exact fin_val ⟨rfl, rfl⟩
  · rw [if_neg h5] at h3 ⊢
    repeat' first | simp (disch := omega) only [SX0, SX1, SX2, SX3, SX4, SX5, SX6, SX7, SX8, SU0, SY0, SY1, Nat.reduceAdd, Nat.reduceMul, Nat.reduceSub, Nat.reduceLeDiff, Nat.reduceEqDiff, Nat.reduceLT, Nat.reduceBEq, ↓reduceIte, Int.reduceLE, Int.reduceLT, Int.reduceToNat, Int.reduceNeg, reduceCtorEq, Int.reduceEq, SF0, SF1, SF2, DHb0, DHb1, DHa0, DCg0, DCe0, DCe1, DCe2, DDb0, DBc0, DBc1, DDe0, DAlh0, DAlv0] | refine req (by omega) ?_ | fail
    exact fin_val ⟨rfl, rfl⟩

theorem e_scaleS : Enters Try.prog 104 := enters_of Try.func104 (by kernel_rfl) (by kernel_rfl)
set_option maxHeartbeats 2000000 in
theorem scaleS_c (n bar x : Int) (hn : 1 ≤ n ∧ n ≤ 6) (hb : 1 ≤ bar ∧ bar ≤ 200) (hx : 0 ≤ x ∧ x ≤ bar) : ACalls Try.prog 104 [.val (.int .i64 n), .val (.int .i64 bar), .val (.int .i64 x)] [] [] (fun r L => r = .val (.int .i64 (scl n bar x)) ∧ L = []) := by
  have h1 := mul_bd (a := x) (b := n + 1) (A := 200) (B := 7) (by omega) (by omega)
  have h2 := mul_bd (a := n) (b := x) (A := 6) (B := 200) (by omega) (by omega)
  have h3 := scl_bd (n := n) (bar := bar) (x := x) hn hb.1 (by omega)
  have h4 : 0 ≤ (x * (n + 1)).tdiv bar ∧ (x * (n + 1)).tdiv bar ≤ 1400 := by
    rw [Int.tdiv_eq_ediv_of_nonneg h1.1]
    exact ⟨Int.ediv_nonneg h1.1 (by omega), Int.le_trans (Int.ediv_le_self _ h1.1) (by omega)⟩
  unfold scl at h3 ⊢
  have ec : (n + 1) * x = x * (n + 1) := Int.mul_comm _ _
  refine acalls_tm T_tt Try.func104 rfl e_scaleS 22 rfl (W8 _ _ _ .any .any .any .any .any (W8 .any .any .any .any .any .any .any .any (W8 .any .any .any .any .any .any .any .any [.any]))) rfl (rv := [.tmp 6]) rfl (sx_sound (bl := []) T_tt _ _ _ ?_)
  repeat' first | simp (disch := omega) only [SX0, SX1, SX2, SX3, SX4, SX5, SX6, SX7, SX8, SU0, SY0, SY1, Nat.reduceAdd, Nat.reduceMul, Nat.reduceSub, Nat.reduceLeDiff, Nat.reduceEqDiff, Nat.reduceLT, Nat.reduceBEq, ↓reduceIte, Int.reduceLE, Int.reduceLT, Int.reduceToNat, Int.reduceNeg, reduceCtorEq, Int.reduceEq, SF0, SF1, SF2, DHb0, DHb1, DHa0, DCg0, DCe0, DCe1, DCe2, DDb0, DBc0, DBc1, DDe0, DAlh0, DAlv0, ec] | refine req (by omega) ?_ | fail
  refine br_dec (fun h5 => ?_) (fun h5 => ?_)
  · rw [if_pos h5] at h3 ⊢
    repeat' first | simp (disch := omega) only [SX0, SX1, SX2, SX3, SX4, SX5, SX6, SX7, SX8, SU0, SY0, SY1, Nat.reduceAdd, Nat.reduceMul, Nat.reduceSub, Nat.reduceLeDiff, Nat.reduceEqDiff, Nat.reduceLT, Nat.reduceBEq, ↓reduceIte, Int.reduceLE, Int.reduceLT, Int.reduceToNat, Int.reduceNeg, reduceCtorEq, Int.reduceEq, SF0, SF1, SF2, DHb0, DHb1, DHa0, DCg0, DCe0, DCe1, DCe2, DDb0, DBc0, DBc1, DDe0, DAlh0, DAlv0] | refine req (by omega) ?_ | fail
    exact fin_val ⟨rfl, rfl⟩
  · rw [if_neg h5] at h3 ⊢
    repeat' first | simp (disch := omega) only [SX0, SX1, SX2, SX3, SX4, SX5, SX6, SX7, SX8, SU0, SY0, SY1, Nat.reduceAdd, Nat.reduceMul, Nat.reduceSub, Nat.reduceLeDiff, Nat.reduceEqDiff, Nat.reduceLT, Nat.reduceBEq, ↓reduceIte, Int.reduceLE, Int.reduceLT, Int.reduceToNat, Int.reduceNeg, reduceCtorEq, Int.reduceEq, SF0, SF1, SF2, DHb0, DHb1, DHa0, DCg0, DCe0, DCe1, DCe2, DDb0, DBc0, DBc1, DDe0, DAlh0, DAlv0, ec] | refine req (by omega) ?_ | fail
    exact fin_val ⟨rfl, rfl⟩

def scaleOk (k : Work) (n m : Int) : Prop := plainW k ∧ (1 ≤ n ∧ n ≤ 6) ∧ (1 ≤ m ∧ m ≤ 6)
instance (k : Work) (n m : Int) : Decidable (scaleOk k n m) := inferInstanceAs (Decidable (_ ∧ _))
def scaleB (k : Work) (n m : Int) : Int := if scaleOk k n m then cdiv (sumP (sclP k n m) k.Ps) (n * k.W * m * k.H) else -1
theorem sclP_bd {k : Work} {n m : Int} (h : scaleOk k n m) {q : Pane} (hq : q ∈ k.Ps) : 0 ≤ sclP k n m q ∧ sclP k n m q ≤ 1960000 := by
  obtain ⟨h1, h2, h3⟩ := h
  have h4 := h1.1.2.2.1 q hq
  have h5 := h1.2 q hq
  have hkw := h1.1
  unfold Work.ok at hkw
  unfold Pane.ok at h4
  exact mul_bd (A := 1400) (B := 1400) (scl_bd h2 (by omega) (by omega)) (scl_bd h3 (by omega) (by omega))
theorem scaleD {k : Work} {n m : Int} (h : scaleOk k n m) : (0 ≤ n * k.W ∧ n * k.W ≤ 1200) ∧ (0 ≤ n * k.W * m ∧ n * k.W * m ≤ 7200) ∧ (1 ≤ n * k.W * m * k.H ∧ n * k.W * m * k.H ≤ 1440000) := by
  obtain ⟨h1, h2, h3⟩ := h
  have hkw := h1.1
  unfold Work.ok at hkw
  have a1 := mul_bd (a := n) (b := k.W) (A := 6) (B := 200) (by omega) (by omega)
  have a2 := mul_bd (a := n * k.W) (b := m) (A := 1200) (B := 6) (by omega) (by omega)
  have a3 := mul_bd (a := n * k.W * m) (b := k.H) (A := 7200) (B := 200) (by omega) (by omega)
  have p1 := Int.mul_pos (a := n) (b := k.W) (by omega) (by omega)
  have p2 := Int.mul_pos (a := n * k.W) (b := m) (by omega) (by omega)
  have p3 := Int.mul_pos (a := n * k.W * m) (b := k.H) (by omega) (by omega)
  exact ⟨by omega, by omega, by omega⟩

theorem e_scaleBoundI : Enters Try.prog 46 := enters_of Try.func46 (by kernel_rfl) (by kernel_rfl)
set_option maxHeartbeats 4000000 in
theorem scaleBoundI_c (k : Work) (n m : Int) (hk : k.Ps.length < 2 ^ 40) : ACalls Try.prog 46 [.agg k.cs, .val (.int .i64 n), .val (.int .i64 m)] [] [] (fun r L => r = .val (.int .i64 (scaleB k n m)) ∧ L = []) := by
  unfold scaleB
  by_cases hok : scaleOk k n m
  · obtain ⟨hD1, hD2, hD3⟩ := scaleD hok
    have hT := fun i => sumT_bd (f := sclP k n m) (by omega) hok.1.1 (fun q hq => sclP_bd hok hq) i
    have hbd := fun q hq => sclP_bd hok (q := q) hq
    obtain ⟨hp, hn, hm⟩ := id hok
    have hkw := hp.1
    unfold Work.ok at hkw
    rw [if_pos hok]
    refine acalls_tm T_tt Try.func46 rfl e_scaleBoundI 60 rfl (W8 _ _ _ .any .any .any .any .any (W8 .any .any .any .any .any .any .any .any (W8 .any .any .any .any .any .any .any .any (W8 .any .any .any .any .any .any .any .any (W8 .any .any .any .any .any .any .any .any (W8 .any .any .any .any .any .any .any .any (W8 .any .any .any .any .any .any .any .any [.any, .any, .any, .any, .any, .any, .any]))))))) rfl (rv := [.tmp 6]) rfl (sx_sound (bl := []) T_tt _ _ _ ?_)
    simp (disch := omega) only [SX0, SX1, SX2, SX3, SX4, SX5, SX6, SX7, SX8, SU0, SY0, SY1, Nat.reduceAdd, Nat.reduceMul, Nat.reduceSub, Nat.reduceLeDiff, Nat.reduceEqDiff, Nat.reduceLT, Nat.reduceBEq, ↓reduceIte, Int.reduceLE, Int.reduceLT, Int.reduceToNat, Int.reduceNeg, reduceCtorEq, Int.reduceEq, SF0, SF1, SF2, DHb0, DHb1, DHa0, DCg0, DCe0, DCe1, DCe2, DDb0, DBc0, DBc1, DDe0, DAlh0, DAlv0]
    refine acall_one (plainWorkI_c k hk) (by simp [freeL, AV.free, Work.free]) rfl ?_
    rw [decide_eq_true hp]
    repeat' first | simp (disch := omega) only [SX0, SX1, SX2, SX3, SX4, SX5, SX6, SX7, SX8, SU0, SY0, SY1, Nat.reduceAdd, Nat.reduceMul, Nat.reduceSub, Nat.reduceLeDiff, Nat.reduceEqDiff, Nat.reduceLT, Nat.reduceBEq, ↓reduceIte, Int.reduceLE, Int.reduceLT, Int.reduceToNat, Int.reduceNeg, reduceCtorEq, Int.reduceEq, SF0, SF1, SF2, DHb0, DHb1, DHa0, DCg0, DCe0, DCe1, DCe2, DDb0, DBc0, DBc1, DDe0, DAlh0, DAlv0] | refine req (by omega) ?_ | (refine br_dec (fun h => absurd h (by omega)) (fun _ => ?_)) | fail
    with_reducible refine awp_loop_h (G := Nat) 9 54 (fun i => [(7, .val (.int .i64 (sumP (sclP k n m) (k.Ps.take i)))), (30, .sl (k.Ps.map Pane.cs)), (31, .val (.int .i64 k.Ps.length)), (32, .val (.int .i64 i))]) (fun _ => [.cells k.cs]) (fun i => i ≤ k.Ps.length) (fun i => k.Ps.length - i) 0 (Nat.zero_le _) ?_ (fun i hi => sx_sound (bl := []) T_tt _ _ _ ?_)
    · simp (disch := omega) only [SX0, SX1, SX2, SX3, SX4, SX5, SX6, SX7, SX8, SU0, SY0, SY1, Nat.reduceAdd, Nat.reduceMul, Nat.reduceSub, Nat.reduceLeDiff, Nat.reduceEqDiff, Nat.reduceLT, Nat.reduceBEq, ↓reduceIte, Int.reduceLE, Int.reduceLT, Int.reduceToNat, Int.reduceNeg, reduceCtorEq, Int.reduceEq, SF0, SF1, SF2, DHb0, DHb1, DHa0, DCg0, DCe0, DCe1, DCe2, DDb0, DBc0, DBc1, DDe0, DAlh0, DAlv0]
      (refine wk_le ?_ ?_ ?_; (focus (simp [W8, leTm, leAV, AV.under, underL, Work.under, sumP]; done)); (focus (simp [leL, OB.under, underL, AV.under, Work.under, sumP]; done)); (focus (simp; done)))
    simp (disch := omega) only [SX0, SX1, SX2, SX3, SX4, SX5, SX6, SX7, SX8, SU0, SY0, SY1, Nat.reduceAdd, Nat.reduceMul, Nat.reduceSub, Nat.reduceLeDiff, Nat.reduceEqDiff, Nat.reduceLT, Nat.reduceBEq, ↓reduceIte, Int.reduceLE, Int.reduceLT, Int.reduceToNat, Int.reduceNeg, reduceCtorEq, Int.reduceEq, SF0, SF1, SF2, DHb0, DHb1, DHa0, DCg0, DCe0, DCe1, DCe2, DDb0, DBc0, DBc1, DDe0, DAlh0, DAlv0]
    refine br_dec (fun h1 => ?_) (fun h1 => ?_)
    · obtain ⟨q, hq⟩ := get_lt (l := k.Ps) (i := i) (by omega)
      have hb := hbd q (List.mem_of_getElem? hq)
      have hq1 := hp.2 q (List.mem_of_getElem? hq)
      have hq2 := hp.1.2.2.1 q (List.mem_of_getElem? hq)
      unfold Pane.ok at hq2
      have hnx := sumP_next (f := sclP k n m) hq
      have hTi := hT i
      have b1 := scl_bd (n := n) (bar := k.W) (x := q.W) hn (by omega) (by omega)
      have b2 := scl_bd (n := m) (bar := k.H) (x := q.H) hm (by omega) (by omega)
      have earP : scl n k.W q.W * scl m k.H q.H = sclP k n m q := rfl
      repeat' first | simp (disch := omega) only [SX0, SX1, SX2, SX3, SX4, SX5, SX6, SX7, SX8, SU0, SY0, SY1, Nat.reduceAdd, Nat.reduceMul, Nat.reduceSub, Nat.reduceLeDiff, Nat.reduceEqDiff, Nat.reduceLT, Nat.reduceBEq, ↓reduceIte, Int.reduceLE, Int.reduceLT, Int.reduceToNat, Int.reduceNeg, reduceCtorEq, Int.reduceEq, SF0, SF1, SF2, DHb0, DHb1, DHa0, DCg0, DCe0, DCe1, DCe2, DDb0, DBc0, DBc1, DDe0, DAlh0, DAlv0, hq, Pane.cs] | refine req (by omega) ?_ | fail
      refine awp_drawA T_tt mixed (by decide +kernel) (by kernel_rfl) (by kernel_rfl) ?_
      repeat' first | simp (disch := omega) only [SX0, SX1, SX2, SX3, SX4, SX5, SX6, SX7, SX8, SU0, SY0, SY1, Nat.reduceAdd, Nat.reduceMul, Nat.reduceSub, Nat.reduceLeDiff, Nat.reduceEqDiff, Nat.reduceLT, Nat.reduceBEq, ↓reduceIte, Int.reduceLE, Int.reduceLT, Int.reduceToNat, Int.reduceNeg, reduceCtorEq, Int.reduceEq, SF0, SF1, SF2, DHb0, DHb1, DHa0, DCg0, DCe0, DCe1, DCe2, DDb0, DBc0, DBc1, DDe0, DAlh0, DAlv0] | refine req (by omega) ?_ | fail
      refine qc_one (scaleLength_c n k.W q.W hn (by omega) (by omega)) rfl ?_
      repeat' first | simp (disch := omega) only [SX0, SX1, SX2, SX3, SX4, SX5, SX6, SX7, SX8, SU0, SY0, SY1, Nat.reduceAdd, Nat.reduceMul, Nat.reduceSub, Nat.reduceLeDiff, Nat.reduceEqDiff, Nat.reduceLT, Nat.reduceBEq, ↓reduceIte, Int.reduceLE, Int.reduceLT, Int.reduceToNat, Int.reduceNeg, reduceCtorEq, Int.reduceEq, SF0, SF1, SF2, DHb0, DHb1, DHa0, DCg0, DCe0, DCe1, DCe2, DDb0, DBc0, DBc1, DDe0, DAlh0, DAlv0] | refine req (by omega) ?_ | fail
      refine qc_one (scaleLength_c m k.H q.H hm (by omega) (by omega)) rfl ?_
      repeat' first | simp (disch := omega) only [SX0, SX1, SX2, SX3, SX4, SX5, SX6, SX7, SX8, SU0, SY0, SY1, Nat.reduceAdd, Nat.reduceMul, Nat.reduceSub, Nat.reduceLeDiff, Nat.reduceEqDiff, Nat.reduceLT, Nat.reduceBEq, ↓reduceIte, Int.reduceLE, Int.reduceLT, Int.reduceToNat, Int.reduceNeg, reduceCtorEq, Int.reduceEq, SF0, SF1, SF2, DHb0, DHb1, DHa0, DCg0, DCe0, DCe1, DCe2, DDb0, DBc0, DBc1, DDe0, DAlh0, DAlv0, earP] | refine req (by omega) ?_ | fail
      refine ⟨i + 1, by omega, by omega, ?_⟩
      (refine wk_le ?_ ?_ ?_; (focus (simp [W8, leTm, leAV, AV.under, underL, Work.under, hnx]; done)); (focus (simp [leL, OB.under, underL, AV.under, Work.under, hnx]; done)); (focus (simp; done)))
    · have e : i = k.Ps.length := by omega
      subst e
      have hTi := hT k.Ps.length
      rw [List.take_length] at hTi ⊢
      repeat' first | simp (disch := omega) only [SX0, SX1, SX2, SX3, SX4, SX5, SX6, SX7, SX8, SU0, SY0, SY1, Nat.reduceAdd, Nat.reduceMul, Nat.reduceSub, Nat.reduceLeDiff, Nat.reduceEqDiff, Nat.reduceLT, Nat.reduceBEq, ↓reduceIte, Int.reduceLE, Int.reduceLT, Int.reduceToNat, Int.reduceNeg, reduceCtorEq, Int.reduceEq, SF0, SF1, SF2, DHb0, DHb1, DHa0, DCg0, DCe0, DCe1, DCe2, DDb0, DBc0, DBc1, DDe0, DAlh0, DAlv0] | refine req (by omega) ?_ | fail
      refine acall_one (roundUp_c _ _ (by omega) (by omega)) rfl rfl ?_
      simp (disch := omega) only [SX0, SX1, SX2, SX3, SX4, SX5, SX6, SX7, SX8, SU0, SY0, SY1, Nat.reduceAdd, Nat.reduceMul, Nat.reduceSub, Nat.reduceLeDiff, Nat.reduceEqDiff, Nat.reduceLT, Nat.reduceBEq, ↓reduceIte, Int.reduceLE, Int.reduceLT, Int.reduceToNat, Int.reduceNeg, reduceCtorEq, Int.reduceEq, SF0, SF1, SF2, DHb0, DHb1, DHa0, DCg0, DCe0, DCe1, DCe2, DDb0, DBc0, DBc1, DDe0, DAlh0, DAlv0]
      exact fin_val ⟨rfl, rfl⟩
  · rw [if_neg hok]
    refine acalls_tm T_tt Try.func46 rfl e_scaleBoundI 60 rfl (W8 _ _ _ .any .any .any .any .any (W8 .any .any .any .any .any .any .any .any (W8 .any .any .any .any .any .any .any .any (W8 .any .any .any .any .any .any .any .any (W8 .any .any .any .any .any .any .any .any (W8 .any .any .any .any .any .any .any .any (W8 .any .any .any .any .any .any .any .any [.any, .any, .any, .any, .any, .any, .any]))))))) rfl (rv := [.tmp 6]) rfl (sx_sound (bl := []) T_tt _ _ _ ?_)
    simp (disch := omega) only [SX0, SX1, SX2, SX3, SX4, SX5, SX6, SX7, SX8, SU0, SY0, SY1, Nat.reduceAdd, Nat.reduceMul, Nat.reduceSub, Nat.reduceLeDiff, Nat.reduceEqDiff, Nat.reduceLT, Nat.reduceBEq, ↓reduceIte, Int.reduceLE, Int.reduceLT, Int.reduceToNat, Int.reduceNeg, reduceCtorEq, Int.reduceEq, SF0, SF1, SF2, DHb0, DHb1, DHa0, DCg0, DCe0, DCe1, DCe2, DDb0, DBc0, DBc1, DDe0, DAlh0, DAlv0]
    refine acall_one (plainWorkI_c k hk) (by simp [freeL, AV.free, Work.free]) rfl ?_
    by_cases hp : plainW k
    · rw [decide_eq_true hp]
      have hnm : ¬ ((1 ≤ n ∧ n ≤ 6) ∧ (1 ≤ m ∧ m ≤ 6)) := fun h => hok ⟨hp, h⟩
      repeat' first | with_reducible refine fin_val ⟨?_, rfl⟩ | with_reducible refine br_dec (fun hb => ?_) (fun hb => ?_) | with_reducible refine br_ndec (fun hb => ?_) (fun hb => ?_) | with_reducible refine br_bool (fun hb => ?_) (fun hb => ?_) | with_reducible refine pk_dec (fun hb => ?_) (fun hb => ?_) | with_reducible refine pk_ndec (fun hb => ?_) (fun hb => ?_) | with_reducible refine awp_drawA T_tt mixed (by decide +kernel) (by kernel_rfl) (by kernel_rfl) ?_ | simp (disch := omega) only [SX0, SX1, SX2, SX3, SX4, SX5, SX6, SX7, SX8, SU0, SY0, SY1, Nat.reduceAdd, Nat.reduceMul, Nat.reduceSub, Nat.reduceLeDiff, Nat.reduceEqDiff, Nat.reduceLT, Nat.reduceBEq, ↓reduceIte, Int.reduceLE, Int.reduceLT, Int.reduceToNat, Int.reduceNeg, reduceCtorEq, Int.reduceEq, SF0, SF1, SF2, DHb0, DHb1, DHa0, DCg0, DCe0, DCe1, DCe2, DDb0, DBc0, DBc1, DDe0, DAlh0, DAlv0]
      all_goals first | exact absurd ⟨⟨by omega, by omega⟩, ⟨by omega, by omega⟩⟩ hnm | rfl | (exfalso; exact hnm ⟨⟨by omega, by omega⟩, ⟨by omega, by omega⟩⟩)
    · rw [decide_eq_false hp]
      simp (disch := omega) only [SX0, SX1, SX2, SX3, SX4, SX5, SX6, SX7, SX8, SU0, SY0, SY1, Nat.reduceAdd, Nat.reduceMul, Nat.reduceSub, Nat.reduceLeDiff, Nat.reduceEqDiff, Nat.reduceLT, Nat.reduceBEq, ↓reduceIte, Int.reduceLE, Int.reduceLT, Int.reduceToNat, Int.reduceNeg, reduceCtorEq, Int.reduceEq, SF0, SF1, SF2, DHb0, DHb1, DHa0, DCg0, DCe0, DCe1, DCe2, DDb0, DBc0, DBc1, DDe0, DAlh0, DAlv0]
      exact fin_val ⟨rfl, rfl⟩

theorem e_scaleBoundS : Enters Try.prog 51 := enters_of Try.func51 (by kernel_rfl) (by kernel_rfl)
set_option maxHeartbeats 4000000 in
theorem scaleBoundS_c (k : Work) (n m : Int) (hk : k.Ps.length < 2 ^ 40) : ACalls Try.prog 51 [.agg k.cs, .val (.int .i64 n), .val (.int .i64 m)] [] [] (fun r L => r = .val (.int .i64 (scaleB k n m)) ∧ L = []) := by
  unfold scaleB
  by_cases hok : scaleOk k n m
  · obtain ⟨hD1, hD2, hD3⟩ := scaleD hok
    have hT := fun i => sumT_bd (f := sclP k n m) (by omega) hok.1.1 (fun q hq => sclP_bd hok hq) i
    have hbd := fun q hq => sclP_bd hok (q := q) hq
    obtain ⟨hp, hn, hm⟩ := id hok
    have hkw := hp.1
    unfold Work.ok at hkw
    rw [if_pos hok]
    refine acalls_tm T_tt Try.func51 rfl e_scaleBoundS 65 rfl (W8 _ _ _ .any .any .any .any .any (W8 .any .any .any .any .any .any .any .any (W8 .any .any .any .any .any .any .any .any (W8 .any .any .any .any .any .any .any .any (W8 .any .any .any .any .any .any .any .any (W8 .any .any .any .any .any .any .any .any (W8 .any .any .any .any .any .any .any .any (W8 .any .any .any .any .any .any .any .any [.any, .any, .any, .any])))))))) rfl (rv := [.tmp 6]) rfl (sx_sound (bl := []) T_tt _ _ _ ?_)
    simp (disch := omega) only [SX0, SX1, SX2, SX3, SX4, SX5, SX6, SX7, SX8, SU0, SY0, SY1, Nat.reduceAdd, Nat.reduceMul, Nat.reduceSub, Nat.reduceLeDiff, Nat.reduceEqDiff, Nat.reduceLT, Nat.reduceBEq, ↓reduceIte, Int.reduceLE, Int.reduceLT, Int.reduceToNat, Int.reduceNeg, reduceCtorEq, Int.reduceEq, SF0, SF1, SF2, DHb0, DHb1, DHa0, DCg0, DCe0, DCe1, DCe2, DDb0, DBc0, DBc1, DDe0, DAlh0, DAlv0]
    refine acall_one (validWorkS_c k hk) (by simp [freeL, AV.free, Work.free]) rfl ?_
    rw [decide_eq_true hp.1]
    simp (disch := omega) only [SX0, SX1, SX2, SX3, SX4, SX5, SX6, SX7, SX8, SU0, SY0, SY1, Nat.reduceAdd, Nat.reduceMul, Nat.reduceSub, Nat.reduceLeDiff, Nat.reduceEqDiff, Nat.reduceLT, Nat.reduceBEq, ↓reduceIte, Int.reduceLE, Int.reduceLT, Int.reduceToNat, Int.reduceNeg, reduceCtorEq, Int.reduceEq, SF0, SF1, SF2, DHb0, DHb1, DHa0, DCg0, DCe0, DCe1, DCe2, DDb0, DBc0, DBc1, DDe0, DAlh0, DAlv0]
    refine acall_one (fixedS_c k hk) (by simp [freeL, AV.free, Work.free]) rfl ?_
    rw [decide_eq_true (show ∀ q ∈ k.Ps, fitsW k q from hp.2)]
    simp (disch := omega) only [SX0, SX1, SX2, SX3, SX4, SX5, SX6, SX7, SX8, SU0, SY0, SY1, Nat.reduceAdd, Nat.reduceMul, Nat.reduceSub, Nat.reduceLeDiff, Nat.reduceEqDiff, Nat.reduceLT, Nat.reduceBEq, ↓reduceIte, Int.reduceLE, Int.reduceLT, Int.reduceToNat, Int.reduceNeg, reduceCtorEq, Int.reduceEq, SF0, SF1, SF2, DHb0, DHb1, DHa0, DCg0, DCe0, DCe1, DCe2, DDb0, DBc0, DBc1, DDe0, DAlh0, DAlv0]
    refine acall_one (inRange_c _ _ _) rfl rfl ?_
    rw [decide_eq_true hn]
    simp (disch := omega) only [SX0, SX1, SX2, SX3, SX4, SX5, SX6, SX7, SX8, SU0, SY0, SY1, Nat.reduceAdd, Nat.reduceMul, Nat.reduceSub, Nat.reduceLeDiff, Nat.reduceEqDiff, Nat.reduceLT, Nat.reduceBEq, ↓reduceIte, Int.reduceLE, Int.reduceLT, Int.reduceToNat, Int.reduceNeg, reduceCtorEq, Int.reduceEq, SF0, SF1, SF2, DHb0, DHb1, DHa0, DCg0, DCe0, DCe1, DCe2, DDb0, DBc0, DBc1, DDe0, DAlh0, DAlv0]
    refine acall_one (inRange_c _ _ _) rfl rfl ?_
    rw [decide_eq_true hm]
    simp (disch := omega) only [SX0, SX1, SX2, SX3, SX4, SX5, SX6, SX7, SX8, SU0, SY0, SY1, Nat.reduceAdd, Nat.reduceMul, Nat.reduceSub, Nat.reduceLeDiff, Nat.reduceEqDiff, Nat.reduceLT, Nat.reduceBEq, ↓reduceIte, Int.reduceLE, Int.reduceLT, Int.reduceToNat, Int.reduceNeg, reduceCtorEq, Int.reduceEq, SF0, SF1, SF2, DHb0, DHb1, DHa0, DCg0, DCe0, DCe1, DCe2, DDb0, DBc0, DBc1, DDe0, DAlh0, DAlv0]
    with_reducible refine awp_loop_h (G := Nat) 9 59 (fun i => [(7, .val (.int .i64 (sumP (sclP k n m) (k.Ps.take i)))), (8, .val (.int .i64 i))]) (fun _ => [.cells k.cs]) (fun i => i ≤ k.Ps.length) (fun i => k.Ps.length - i) 0 (Nat.zero_le _) ?_ (fun i hi => sx_sound (bl := []) T_tt _ _ _ ?_)
    · simp (disch := omega) only [SX0, SX1, SX2, SX3, SX4, SX5, SX6, SX7, SX8, SU0, SY0, SY1, Nat.reduceAdd, Nat.reduceMul, Nat.reduceSub, Nat.reduceLeDiff, Nat.reduceEqDiff, Nat.reduceLT, Nat.reduceBEq, ↓reduceIte, Int.reduceLE, Int.reduceLT, Int.reduceToNat, Int.reduceNeg, reduceCtorEq, Int.reduceEq, SF0, SF1, SF2, DHb0, DHb1, DHa0, DCg0, DCe0, DCe1, DCe2, DDb0, DBc0, DBc1, DDe0, DAlh0, DAlv0]
      (refine wk_le ?_ ?_ ?_; (focus (simp [W8, leTm, leAV, AV.under, underL, Work.under, sumP]; done)); (focus (simp [leL, OB.under, underL, AV.under, Work.under, sumP]; done)); (focus (simp; done)))
    simp (disch := omega) only [SX0, SX1, SX2, SX3, SX4, SX5, SX6, SX7, SX8, SU0, SY0, SY1, Nat.reduceAdd, Nat.reduceMul, Nat.reduceSub, Nat.reduceLeDiff, Nat.reduceEqDiff, Nat.reduceLT, Nat.reduceBEq, ↓reduceIte, Int.reduceLE, Int.reduceLT, Int.reduceToNat, Int.reduceNeg, reduceCtorEq, Int.reduceEq, SF0, SF1, SF2, DHb0, DHb1, DHa0, DCg0, DCe0, DCe1, DCe2, DDb0, DBc0, DBc1, DDe0, DAlh0, DAlv0]
    refine br_dec (fun h1 => ?_) (fun h1 => ?_)
    · obtain ⟨q, hq⟩ := get_lt (l := k.Ps) (i := i) (by omega)
      have hb := hbd q (List.mem_of_getElem? hq)
      have hq1 := hp.2 q (List.mem_of_getElem? hq)
      have hq2 := hp.1.2.2.1 q (List.mem_of_getElem? hq)
      unfold Pane.ok at hq2
      have hnx := sumP_next (f := sclP k n m) hq
      have hTi := hT i
      have b1 := scl_bd (n := n) (bar := k.W) (x := q.W) hn (by omega) (by omega)
      have b2 := scl_bd (n := m) (bar := k.H) (x := q.H) hm (by omega) (by omega)
      have earP : scl n k.W q.W * scl m k.H q.H = sclP k n m q := rfl
      simp (disch := omega) only [SX0, SX1, SX2, SX3, SX4, SX5, SX6, SX7, SX8, SU0, SY0, SY1, Nat.reduceAdd, Nat.reduceMul, Nat.reduceSub, Nat.reduceLeDiff, Nat.reduceEqDiff, Nat.reduceLT, Nat.reduceBEq, ↓reduceIte, Int.reduceLE, Int.reduceLT, Int.reduceToNat, Int.reduceNeg, reduceCtorEq, Int.reduceEq, SF0, SF1, SF2, DHb0, DHb1, DHa0, DCg0, DCe0, DCe1, DCe2, DDb0, DBc0, DBc1, DDe0, DAlh0, DAlv0]
      refine awp_drawA T_tt mixed (by decide +kernel) (by kernel_rfl) (by kernel_rfl) ?_
      repeat' first | simp (disch := omega) only [SX0, SX1, SX2, SX3, SX4, SX5, SX6, SX7, SX8, SU0, SY0, SY1, Nat.reduceAdd, Nat.reduceMul, Nat.reduceSub, Nat.reduceLeDiff, Nat.reduceEqDiff, Nat.reduceLT, Nat.reduceBEq, ↓reduceIte, Int.reduceLE, Int.reduceLT, Int.reduceToNat, Int.reduceNeg, reduceCtorEq, Int.reduceEq, SF0, SF1, SF2, DHb0, DHb1, DHa0, DCg0, DCe0, DCe1, DCe2, DDb0, DBc0, DBc1, DDe0, DAlh0, DAlv0, hq, Pane.cs] | refine req (by omega) ?_ | fail
      refine qc_one (scaleS_c n k.W q.W hn (by omega) (by omega)) rfl ?_
      repeat' first | simp (disch := omega) only [SX0, SX1, SX2, SX3, SX4, SX5, SX6, SX7, SX8, SU0, SY0, SY1, Nat.reduceAdd, Nat.reduceMul, Nat.reduceSub, Nat.reduceLeDiff, Nat.reduceEqDiff, Nat.reduceLT, Nat.reduceBEq, ↓reduceIte, Int.reduceLE, Int.reduceLT, Int.reduceToNat, Int.reduceNeg, reduceCtorEq, Int.reduceEq, SF0, SF1, SF2, DHb0, DHb1, DHa0, DCg0, DCe0, DCe1, DCe2, DDb0, DBc0, DBc1, DDe0, DAlh0, DAlv0, hq, Pane.cs] | refine req (by omega) ?_ | fail
      refine qc_one (scaleS_c m k.H q.H hm (by omega) (by omega)) rfl ?_
      repeat' first | simp (disch := omega) only [SX0, SX1, SX2, SX3, SX4, SX5, SX6, SX7, SX8, SU0, SY0, SY1, Nat.reduceAdd, Nat.reduceMul, Nat.reduceSub, Nat.reduceLeDiff, Nat.reduceEqDiff, Nat.reduceLT, Nat.reduceBEq, ↓reduceIte, Int.reduceLE, Int.reduceLT, Int.reduceToNat, Int.reduceNeg, reduceCtorEq, Int.reduceEq, SF0, SF1, SF2, DHb0, DHb1, DHa0, DCg0, DCe0, DCe1, DCe2, DDb0, DBc0, DBc1, DDe0, DAlh0, DAlv0, earP] | refine req (by omega) ?_ | fail
      refine ⟨i + 1, by omega, by omega, ?_⟩
      (refine wk_le ?_ ?_ ?_; (focus (simp [W8, leTm, leAV, AV.under, underL, Work.under, hnx]; done)); (focus (simp [leL, OB.under, underL, AV.under, Work.under, hnx]; done)); (focus (simp; done)))
    · have e : i = k.Ps.length := by omega
      subst e
      have hTi := hT k.Ps.length
      rw [List.take_length] at hTi ⊢
      repeat' first | simp (disch := omega) only [SX0, SX1, SX2, SX3, SX4, SX5, SX6, SX7, SX8, SU0, SY0, SY1, Nat.reduceAdd, Nat.reduceMul, Nat.reduceSub, Nat.reduceLeDiff, Nat.reduceEqDiff, Nat.reduceLT, Nat.reduceBEq, ↓reduceIte, Int.reduceLE, Int.reduceLT, Int.reduceToNat, Int.reduceNeg, reduceCtorEq, Int.reduceEq, SF0, SF1, SF2, DHb0, DHb1, DHa0, DCg0, DCe0, DCe1, DCe2, DDb0, DBc0, DBc1, DDe0, DAlh0, DAlv0] | refine req (by omega) ?_ | fail
      refine acall_one (ceilDiv_c _ _ (by omega) (by omega)) rfl rfl ?_
      simp (disch := omega) only [SX0, SX1, SX2, SX3, SX4, SX5, SX6, SX7, SX8, SU0, SY0, SY1, Nat.reduceAdd, Nat.reduceMul, Nat.reduceSub, Nat.reduceLeDiff, Nat.reduceEqDiff, Nat.reduceLT, Nat.reduceBEq, ↓reduceIte, Int.reduceLE, Int.reduceLT, Int.reduceToNat, Int.reduceNeg, reduceCtorEq, Int.reduceEq, SF0, SF1, SF2, DHb0, DHb1, DHa0, DCg0, DCe0, DCe1, DCe2, DDb0, DBc0, DBc1, DDe0, DAlh0, DAlv0]
      exact fin_val ⟨rfl, rfl⟩
  · rw [if_neg hok]
    refine acalls_tm T_tt Try.func51 rfl e_scaleBoundS 65 rfl (W8 _ _ _ .any .any .any .any .any (W8 .any .any .any .any .any .any .any .any (W8 .any .any .any .any .any .any .any .any (W8 .any .any .any .any .any .any .any .any (W8 .any .any .any .any .any .any .any .any (W8 .any .any .any .any .any .any .any .any (W8 .any .any .any .any .any .any .any .any (W8 .any .any .any .any .any .any .any .any [.any, .any, .any, .any])))))))) rfl (rv := [.tmp 6]) rfl (sx_sound (bl := []) T_tt _ _ _ ?_)
    simp (disch := omega) only [SX0, SX1, SX2, SX3, SX4, SX5, SX6, SX7, SX8, SU0, SY0, SY1, Nat.reduceAdd, Nat.reduceMul, Nat.reduceSub, Nat.reduceLeDiff, Nat.reduceEqDiff, Nat.reduceLT, Nat.reduceBEq, ↓reduceIte, Int.reduceLE, Int.reduceLT, Int.reduceToNat, Int.reduceNeg, reduceCtorEq, Int.reduceEq, SF0, SF1, SF2, DHb0, DHb1, DHa0, DCg0, DCe0, DCe1, DCe2, DDb0, DBc0, DBc1, DDe0, DAlh0, DAlv0]
    refine acall_one (validWorkS_c k hk) (by simp [freeL, AV.free, Work.free]) rfl ?_
    by_cases h1 : k.ok
    · rw [decide_eq_true h1]
      simp (disch := omega) only [SX0, SX1, SX2, SX3, SX4, SX5, SX6, SX7, SX8, SU0, SY0, SY1, Nat.reduceAdd, Nat.reduceMul, Nat.reduceSub, Nat.reduceLeDiff, Nat.reduceEqDiff, Nat.reduceLT, Nat.reduceBEq, ↓reduceIte, Int.reduceLE, Int.reduceLT, Int.reduceToNat, Int.reduceNeg, reduceCtorEq, Int.reduceEq, SF0, SF1, SF2, DHb0, DHb1, DHa0, DCg0, DCe0, DCe1, DCe2, DDb0, DBc0, DBc1, DDe0, DAlh0, DAlv0]
      refine acall_one (fixedS_c k hk) (by simp [freeL, AV.free, Work.free]) rfl ?_
      by_cases h2 : ∀ q ∈ k.Ps, fitsW k q
      · rw [decide_eq_true h2]
        simp (disch := omega) only [SX0, SX1, SX2, SX3, SX4, SX5, SX6, SX7, SX8, SU0, SY0, SY1, Nat.reduceAdd, Nat.reduceMul, Nat.reduceSub, Nat.reduceLeDiff, Nat.reduceEqDiff, Nat.reduceLT, Nat.reduceBEq, ↓reduceIte, Int.reduceLE, Int.reduceLT, Int.reduceToNat, Int.reduceNeg, reduceCtorEq, Int.reduceEq, SF0, SF1, SF2, DHb0, DHb1, DHa0, DCg0, DCe0, DCe1, DCe2, DDb0, DBc0, DBc1, DDe0, DAlh0, DAlv0]
        refine acall_one (inRange_c _ _ _) rfl rfl ?_
        by_cases h3 : 1 ≤ n ∧ n ≤ 6
        · rw [decide_eq_true h3]
          simp (disch := omega) only [SX0, SX1, SX2, SX3, SX4, SX5, SX6, SX7, SX8, SU0, SY0, SY1, Nat.reduceAdd, Nat.reduceMul, Nat.reduceSub, Nat.reduceLeDiff, Nat.reduceEqDiff, Nat.reduceLT, Nat.reduceBEq, ↓reduceIte, Int.reduceLE, Int.reduceLT, Int.reduceToNat, Int.reduceNeg, reduceCtorEq, Int.reduceEq, SF0, SF1, SF2, DHb0, DHb1, DHa0, DCg0, DCe0, DCe1, DCe2, DDb0, DBc0, DBc1, DDe0, DAlh0, DAlv0]
          refine acall_one (inRange_c _ _ _) rfl rfl ?_
          rw [decide_eq_false (fun h4 : 1 ≤ m ∧ m ≤ 6 => hok ⟨⟨h1, h2⟩, h3, h4⟩)]
          simp (disch := omega) only [SX0, SX1, SX2, SX3, SX4, SX5, SX6, SX7, SX8, SU0, SY0, SY1, Nat.reduceAdd, Nat.reduceMul, Nat.reduceSub, Nat.reduceLeDiff, Nat.reduceEqDiff, Nat.reduceLT, Nat.reduceBEq, ↓reduceIte, Int.reduceLE, Int.reduceLT, Int.reduceToNat, Int.reduceNeg, reduceCtorEq, Int.reduceEq, SF0, SF1, SF2, DHb0, DHb1, DHa0, DCg0, DCe0, DCe1, DCe2, DDb0, DBc0, DBc1, DDe0, DAlh0, DAlv0]
          exact fin_val ⟨rfl, rfl⟩
        · rw [decide_eq_false h3]
          simp (disch := omega) only [SX0, SX1, SX2, SX3, SX4, SX5, SX6, SX7, SX8, SU0, SY0, SY1, Nat.reduceAdd, Nat.reduceMul, Nat.reduceSub, Nat.reduceLeDiff, Nat.reduceEqDiff, Nat.reduceLT, Nat.reduceBEq, ↓reduceIte, Int.reduceLE, Int.reduceLT, Int.reduceToNat, Int.reduceNeg, reduceCtorEq, Int.reduceEq, SF0, SF1, SF2, DHb0, DHb1, DHa0, DCg0, DCe0, DCe1, DCe2, DDb0, DBc0, DBc1, DDe0, DAlh0, DAlv0]
          exact fin_val ⟨rfl, rfl⟩
      · rw [decide_eq_false h2]
        simp (disch := omega) only [SX0, SX1, SX2, SX3, SX4, SX5, SX6, SX7, SX8, SU0, SY0, SY1, Nat.reduceAdd, Nat.reduceMul, Nat.reduceSub, Nat.reduceLeDiff, Nat.reduceEqDiff, Nat.reduceLT, Nat.reduceBEq, ↓reduceIte, Int.reduceLE, Int.reduceLT, Int.reduceToNat, Int.reduceNeg, reduceCtorEq, Int.reduceEq, SF0, SF1, SF2, DHb0, DHb1, DHa0, DCg0, DCe0, DCe1, DCe2, DDb0, DBc0, DBc1, DDe0, DAlh0, DAlv0]
        exact fin_val ⟨rfl, rfl⟩
    · rw [decide_eq_false h1]
      simp (disch := omega) only [SX0, SX1, SX2, SX3, SX4, SX5, SX6, SX7, SX8, SU0, SY0, SY1, Nat.reduceAdd, Nat.reduceMul, Nat.reduceSub, Nat.reduceLeDiff, Nat.reduceEqDiff, Nat.reduceLT, Nat.reduceBEq, ↓reduceIte, Int.reduceLE, Int.reduceLT, Int.reduceToNat, Int.reduceNeg, reduceCtorEq, Int.reduceEq, SF0, SF1, SF2, DHb0, DHb1, DHa0, DCg0, DCe0, DCe1, DCe2, DDb0, DBc0, DBc1, DDe0, DAlh0, DAlv0]
      exact fin_val ⟨rfl, rfl⟩

end Go.Pc
