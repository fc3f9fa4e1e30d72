/- Turns of panes: what leaves a buffer. -/
import Derived.Test.YtncjnchmmagkkaaQa
import Derived.Test.YtncjnchmmagkkaaJa
set_option linter.unusedSimpArgs false
set_option linter.unusedVariables false
namespace Go.Pc
open Go Go.Proofs

/-- What leaves the buffer, and what stays. -/
def flush (room : Int) : List Int → List Int → List Int × List Int
  | left, [] => (left, [])
  | left, h :: H => if (h = left.length ∧ lined left) ∨ room < ((H.length + 1 : Nat) : Int) then flush room (left ++ [h]) H else (left, h :: H)
/-- The buffer behind the first numbers. -/
def passN (room : Int) : List Int → List Int × List Int
  | l => l.foldl (fun st x => flush room st.1 (insI x st.2)) ([], [])
def passB (l : List Int) (room : Int) : List Int := (passN room l).1 ++ (passN room l).2
theorem flush_perm (room : Int) : ∀ (H left : List Int), ((flush room left H).1 ++ (flush room left H).2).Perm (left ++ H)
  | [], left => by simp [flush]
  | h :: H, left => by
    unfold flush
    split
    · have := flush_perm room H (left ++ [h])
      simpa using this
    · exact .rfl
theorem flush_sorted (room : Int) : ∀ (H left : List Int), H.Pairwise (· ≤ ·) → (flush room left H).2.Pairwise (· ≤ ·)
  | [], left, h => by simp [flush]
  | x :: H, left, h => by
    unfold flush
    split
    · exact flush_sorted room H _ (List.pairwise_cons.1 h).2
    · exact h
theorem passN_next {room : Int} {l : List Int} {i : Nat} {x : Int} (h : l[i]? = some x) : passN room (l.take (i + 1)) = flush room (passN room (l.take i)).1 (insI x (passN room (l.take i)).2) := by
  unfold passN
  rw [List.take_add_one, h, List.foldl_append]
  rfl
theorem passN_perm (room : Int) (l : List Int) : ((passN room l).1 ++ (passN room l).2).Perm l := by
  have : ∀ i, i ≤ l.length → ((passN room (l.take i)).1 ++ (passN room (l.take i)).2).Perm (l.take i) := by
    intro i
    induction i with
    | zero => intro _; simp [passN]
    | succ i ih =>
      intro h
      obtain ⟨x, hx⟩ := get_lt (l := l) (i := i) (by omega)
      rw [passN_next hx]
      refine (flush_perm _ _ _).trans ?_
      rw [List.take_add_one, hx]
      refine ((insI_perm x _).append_left _).trans ?_
      rw [← List.append_assoc]
      exact (ih (by omega)).append_right [x]
  simpa using this l.length (Nat.le_refl _)
theorem passN_sorted (room : Int) (l : List Int) : (passN room l).2.Pairwise (· ≤ ·) := by
  have : ∀ i, i ≤ l.length → (passN room (l.take i)).2.Pairwise (· ≤ ·) := by
    intro i
    induction i with
    | zero => intro _; simp [passN]
    | succ i ih =>
      intro h
      obtain ⟨x, hx⟩ := get_lt (l := l) (i := i) (by omega)
      rw [passN_next hx]
      exact flush_sorted _ _ _ (insI_sorted (ih (by omega)))
  simpa using this l.length (Nat.le_refl _)
theorem passN_len (room : Int) (l : List Int) : (passN room l).1.length + (passN room l).2.length = l.length := by
  have := (passN_perm room l).length_eq
  simpa using this

theorem insI_cons (n x : Int) (l : List Int) : insI n (x :: l) = if x ≤ n then x :: insI n l else n :: x :: l := by
  unfold insI
  by_cases h : x ≤ n <;> simp [h]
theorem insI_all {n : Int} : ∀ {l : List Int}, (∀ x ∈ l, x ≤ n) → insI n l = l ++ [n]
  | [], _ => by simp [insI]
  | x :: l, h => by rw [insI_cons, if_pos (h x (by simp)), insI_all fun y hy => h y (by simp [hy])]; rfl
theorem insI_first {n y : Int} (hy : n < y) : ∀ {l : List Int}, (∀ x ∈ l, x ≤ n) → insI n (l ++ [y]) = (l ++ [n]) ++ [y]
  | [], _ => by rw [List.nil_append, insI_cons, if_neg (by omega)]; rfl
  | x :: l, h => by rw [List.cons_append, insI_cons, if_pos (h x (by simp)), insI_first hy fun y hy => h y (by simp [hy])]; rfl
theorem insI_app {n y : Int} : ∀ {l : List Int}, (∃ x ∈ l, n < x) → insI n (l ++ [y]) = insI n l ++ [y]
  | [], h => by obtain ⟨x, hx, _⟩ := h; cases hx
  | x :: l, h => by
    rw [List.cons_append, insI_cons, insI_cons]
    by_cases hx : x ≤ n
    · rw [if_pos hx, if_pos hx, insI_app (l := l)]
      · rfl
      · obtain ⟨z, hz, h2⟩ := h
        rcases List.mem_cons.1 hz with rfl | hz
        · omega
        · exact ⟨z, hz, h2⟩
    · rw [if_neg hx, if_neg hx]; rfl

theorem e_insertInS : Enters Try.prog 129 := enters_of Try.func129 (by kernel_rfl) (by kernel_rfl)
set_option maxHeartbeats 1000000 in
theorem insertInS_c (l : List Int) (n : Int) (hl : l.length ≤ 1000000) : ACalls Try.prog 129 [.sl (ints l), .val (.int .i64 n)] [] [] (fun r L => r = .sl (ints (insI n l)) ∧ L = []) := by
  refine acalls_tm T_tt Try.func129 rfl e_insertInS 41 rfl (W8 _ _ .any .any .any .any .any .any (W8 .any .any .any .any .any .any .any .any (W8 .any .any .any .any .any .any .any .any (W8 .any .any .any .any .any .any .any .any (W8 .any .any .any .any .any .any .any .any [.any, .any, .any]))))) rfl (rv := [.tmp 4]) rfl (sx_sound (bl := [8]) T_tt _ _ _ ?_)
  simp (disch := omega) only [SX0, SX1, SX2, SX3, SX4, SX5, SX6, SX7, SX8, SU0, SY0, SY1, Nat.reduceAdd, Nat.reduceMul, Nat.reduceSub, Nat.reduceLeDiff, Nat.reduceEqDiff, Nat.reduceLT, Nat.reduceBEq, ↓reduceIte, Int.reduceLE, Int.reduceLT, Int.reduceToNat, Int.reduceNeg, reduceCtorEq, Int.reduceEq, SF0, SF1, SF2, DCg0, DCe0, DCe1, DCe2, DDb0, DBc0, DBc1, DHb0, DHb1, DHa0, DDe0]
  with_reducible refine awp_loop_h (G := List Int × Bool × Nat) 8 35 (fun g => [(5, .os 0 1 0 g.1.length), (6, .val (.bool g.2.1)), (7, .val (.int .i64 g.2.2))]) (fun g => [.vec 1 (ints g.1)]) (fun g => g.2.2 ≤ l.length ∧ g.1.length ≤ g.2.2 + 1 ∧ (g.2.1 = false → g.1 = l.take g.2.2 ∧ ∀ x ∈ l.take g.2.2, x ≤ n) ∧ (g.2.1 = true → g.1 = insI n (l.take g.2.2) ∧ ∃ x ∈ l.take g.2.2, n < x)) (fun g => l.length - g.2.2) ([], false, 0) ⟨by simp, by simp, by simp, by simp⟩ ?_ (fun g hg => ?_)
  · simp (disch := omega) only [SX0, SX1, SX2, SX3, SX4, SX5, SX6, SX7, SX8, SU0, SY0, SY1, Nat.reduceAdd, Nat.reduceMul, Nat.reduceSub, Nat.reduceLeDiff, Nat.reduceEqDiff, Nat.reduceLT, Nat.reduceBEq, ↓reduceIte, Int.reduceLE, Int.reduceLT, Int.reduceToNat, Int.reduceNeg, reduceCtorEq, Int.reduceEq, SF0, SF1, SF2, DCg0, DCe0, DCe1, DCe2, DDb0, DBc0, DBc1, DHb0, DHb1, DHa0, DDe0]
    (refine wk_le ?_ ?_ ?_; (focus (simp [W8, leTm, leAV, AV.under, underL, ints]; done)); (focus (simp [leL, OB.under, underL, AV.under, ints]; done)); (focus (simp; done)))
  obtain ⟨out, d, i⟩ := g
  simp only at hg
  obtain ⟨hi, hlen, hf, ht⟩ := hg
  refine sx_sound (bl := []) T_tt _ _ _ ?_
  simp (disch := omega) only [SX0, SX1, SX2, SX3, SX4, SX5, SX6, SX7, SX8, SU0, SY0, SY1, Nat.reduceAdd, Nat.reduceMul, Nat.reduceSub, Nat.reduceLeDiff, Nat.reduceEqDiff, Nat.reduceLT, Nat.reduceBEq, ↓reduceIte, Int.reduceLE, Int.reduceLT, Int.reduceToNat, Int.reduceNeg, reduceCtorEq, Int.reduceEq, SF0, SF1, SF2, DCg0, DCe0, DCe1, DCe2, DDb0, DBc0, DBc1, DHb0, DHb1, DHa0, DDe0]
  refine br_dec (fun h1 => ?_) (fun h1 => ?_)
  · obtain ⟨x, hx⟩ := get_lt (l := l) (i := i) (by omega)
    have enx : l.take (i + 1) = l.take i ++ [x] := by rw [List.take_add_one, hx]; rfl
    cases d with
    | true =>
      obtain ⟨rfl, hex⟩ := ht rfl
      have e2 := insI_app (y := x) hex
      simp (disch := omega) only [SX0, SX1, SX2, SX3, SX4, SX5, SX6, SX7, SX8, SU0, SY0, SY1, Nat.reduceAdd, Nat.reduceMul, Nat.reduceSub, Nat.reduceLeDiff, Nat.reduceEqDiff, Nat.reduceLT, Nat.reduceBEq, ↓reduceIte, Int.reduceLE, Int.reduceLT, Int.reduceToNat, Int.reduceNeg, reduceCtorEq, Int.reduceEq, SF0, SF1, SF2, DCg0, DCe0, DCe1, DCe2, DDb0, DBc0, DBc1, DHb0, DHb1, DHa0, DDe0, hx]
      refine req (by omega) ?_
      simp (disch := omega) only [SX0, SX1, SX2, SX3, SX4, SX5, SX6, SX7, SX8, SU0, SY0, SY1, Nat.reduceAdd, Nat.reduceMul, Nat.reduceSub, Nat.reduceLeDiff, Nat.reduceEqDiff, Nat.reduceLT, Nat.reduceBEq, ↓reduceIte, Int.reduceLE, Int.reduceLT, Int.reduceToNat, Int.reduceNeg, reduceCtorEq, Int.reduceEq, SF0, SF1, SF2, DCg0, DCe0, DCe1, DCe2, DDb0, DBc0, DBc1, DHb0, DHb1, DHa0, DDe0]
      refine ⟨(insI n (l.take (i + 1)), true, i + 1), ⟨by simp only []; omega, by simp only []; rw [enx, e2, List.length_append]; simp only [List.length_singleton]; omega, by simp, fun _ => ⟨rfl, ?_⟩⟩, by simp only []; omega, ?_⟩
      · obtain ⟨z, hz, h2⟩ := hex
        exact ⟨z, by simp only []; rw [enx]; simp [hz], h2⟩
      have e3 : insI n (l.take (i + 1)) = insI n (l.take i) ++ [x] := by rw [enx, e2]
      (refine wk_le ?_ ?_ ?_; (focus (simp [W8, leTm, leAV, AV.under, underL, ints, e3]; done)); (focus (simp [leL, OB.under, underL, AV.under, ints, e3]; done)); (focus (simp; done)))
    | false =>
      obtain ⟨rfl, hall⟩ := hf rfl
      have hli : (l.take i).length = i := by rw [List.length_take]; omega
      simp (disch := omega) only [SX0, SX1, SX2, SX3, SX4, SX5, SX6, SX7, SX8, SU0, SY0, SY1, Nat.reduceAdd, Nat.reduceMul, Nat.reduceSub, Nat.reduceLeDiff, Nat.reduceEqDiff, Nat.reduceLT, Nat.reduceBEq, ↓reduceIte, Int.reduceLE, Int.reduceLT, Int.reduceToNat, Int.reduceNeg, reduceCtorEq, Int.reduceEq, SF0, SF1, SF2, DCg0, DCe0, DCe1, DCe2, DDb0, DBc0, DBc1, DHb0, DHb1, DHa0, DDe0, hx]
      refine br_dec (fun h2 => ?_) (fun h2 => ?_)
      · have e2 := insI_first h2 hall
        simp (disch := omega) only [SX0, SX1, SX2, SX3, SX4, SX5, SX6, SX7, SX8, SU0, SY0, SY1, Nat.reduceAdd, Nat.reduceMul, Nat.reduceSub, Nat.reduceLeDiff, Nat.reduceEqDiff, Nat.reduceLT, Nat.reduceBEq, ↓reduceIte, Int.reduceLE, Int.reduceLT, Int.reduceToNat, Int.reduceNeg, reduceCtorEq, Int.reduceEq, SF0, SF1, SF2, DCg0, DCe0, DCe1, DCe2, DDb0, DBc0, DBc1, DHb0, DHb1, DHa0, DDe0, hx]
        refine req (by omega) ?_
        simp (disch := omega) only [SX0, SX1, SX2, SX3, SX4, SX5, SX6, SX7, SX8, SU0, SY0, SY1, Nat.reduceAdd, Nat.reduceMul, Nat.reduceSub, Nat.reduceLeDiff, Nat.reduceEqDiff, Nat.reduceLT, Nat.reduceBEq, ↓reduceIte, Int.reduceLE, Int.reduceLT, Int.reduceToNat, Int.reduceNeg, reduceCtorEq, Int.reduceEq, SF0, SF1, SF2, DCg0, DCe0, DCe1, DCe2, DDb0, DBc0, DBc1, DHb0, DHb1, DHa0, DDe0, hx]
        refine req (by simp; omega) ?_
        simp (disch := omega) only [SX0, SX1, SX2, SX3, SX4, SX5, SX6, SX7, SX8, SU0, SY0, SY1, Nat.reduceAdd, Nat.reduceMul, Nat.reduceSub, Nat.reduceLeDiff, Nat.reduceEqDiff, Nat.reduceLT, Nat.reduceBEq, ↓reduceIte, Int.reduceLE, Int.reduceLT, Int.reduceToNat, Int.reduceNeg, reduceCtorEq, Int.reduceEq, SF0, SF1, SF2, DCg0, DCe0, DCe1, DCe2, DDb0, DBc0, DBc1, DHb0, DHb1, DHa0, DDe0]
        refine ⟨(insI n (l.take (i + 1)), true, i + 1), ⟨by simp only []; omega, by simp only []; rw [enx, e2]; simp; omega, by simp, fun _ => ⟨rfl, x, by simp only []; rw [enx]; simp, h2⟩⟩, by simp only []; omega, ?_⟩
        have e3 : insI n (l.take (i + 1)) = (l.take i ++ [n]) ++ [x] := by rw [enx, e2]
        (refine wk_le ?_ ?_ ?_; (focus (simp [W8, leTm, leAV, AV.under, underL, ints, e3]; done)); (focus (simp [leL, OB.under, underL, AV.under, ints, e3]; done)); (focus (simp; done)))
      · simp (disch := omega) only [SX0, SX1, SX2, SX3, SX4, SX5, SX6, SX7, SX8, SU0, SY0, SY1, Nat.reduceAdd, Nat.reduceMul, Nat.reduceSub, Nat.reduceLeDiff, Nat.reduceEqDiff, Nat.reduceLT, Nat.reduceBEq, ↓reduceIte, Int.reduceLE, Int.reduceLT, Int.reduceToNat, Int.reduceNeg, reduceCtorEq, Int.reduceEq, SF0, SF1, SF2, DCg0, DCe0, DCe1, DCe2, DDb0, DBc0, DBc1, DHb0, DHb1, DHa0, DDe0, hx]
        refine req (by omega) ?_
        simp (disch := omega) only [SX0, SX1, SX2, SX3, SX4, SX5, SX6, SX7, SX8, SU0, SY0, SY1, Nat.reduceAdd, Nat.reduceMul, Nat.reduceSub, Nat.reduceLeDiff, Nat.reduceEqDiff, Nat.reduceLT, Nat.reduceBEq, ↓reduceIte, Int.reduceLE, Int.reduceLT, Int.reduceToNat, Int.reduceNeg, reduceCtorEq, Int.reduceEq, SF0, SF1, SF2, DCg0, DCe0, DCe1, DCe2, DDb0, DBc0, DBc1, DHb0, DHb1, DHa0, DDe0]
        refine ⟨(l.take (i + 1), false, i + 1), ⟨by simp only []; omega, by simp only []; rw [List.length_take]; omega, fun _ => ⟨rfl, take_next hx hall (by omega)⟩, by simp⟩, by simp only []; omega, ?_⟩
        (refine wk_le ?_ ?_ ?_; (focus (simp [W8, leTm, leAV, AV.under, underL, ints, enx]; done)); (focus (simp [leL, OB.under, underL, AV.under, ints, enx]; done)); (focus (simp; done)))
  · have hil : i = l.length := by omega
    subst hil
    rw [List.take_length] at hf ht
    cases d with
    | true =>
      obtain ⟨rfl, _⟩ := ht rfl
      simp (disch := omega) only [SX0, SX1, SX2, SX3, SX4, SX5, SX6, SX7, SX8, SU0, SY0, SY1, Nat.reduceAdd, Nat.reduceMul, Nat.reduceSub, Nat.reduceLeDiff, Nat.reduceEqDiff, Nat.reduceLT, Nat.reduceBEq, ↓reduceIte, Int.reduceLE, Int.reduceLT, Int.reduceToNat, Int.reduceNeg, reduceCtorEq, Int.reduceEq, SF0, SF1, SF2, DCg0, DCe0, DCe1, DCe2, DDb0, DBc0, DBc1, DHb0, DHb1, DHa0, DDe0]
      exact fin_row rfl (by simp) ⟨rfl, rfl⟩
    | false =>
      obtain ⟨rfl, hall⟩ := hf rfl
      have e2 := insI_all hall
      simp (disch := omega) only [SX0, SX1, SX2, SX3, SX4, SX5, SX6, SX7, SX8, SU0, SY0, SY1, Nat.reduceAdd, Nat.reduceMul, Nat.reduceSub, Nat.reduceLeDiff, Nat.reduceEqDiff, Nat.reduceLT, Nat.reduceBEq, ↓reduceIte, Int.reduceLE, Int.reduceLT, Int.reduceToNat, Int.reduceNeg, reduceCtorEq, Int.reduceEq, SF0, SF1, SF2, DCg0, DCe0, DCe1, DCe2, DDb0, DBc0, DBc1, DHb0, DHb1, DHa0, DDe0]
      refine req (by omega) ?_
      simp (disch := omega) only [SX0, SX1, SX2, SX3, SX4, SX5, SX6, SX7, SX8, SU0, SY0, SY1, Nat.reduceAdd, Nat.reduceMul, Nat.reduceSub, Nat.reduceLeDiff, Nat.reduceEqDiff, Nat.reduceLT, Nat.reduceBEq, ↓reduceIte, Int.reduceLE, Int.reduceLT, Int.reduceToNat, Int.reduceNeg, reduceCtorEq, Int.reduceEq, SF0, SF1, SF2, DCg0, DCe0, DCe1, DCe2, DDb0, DBc0, DBc1, DHb0, DHb1, DHa0, DDe0]
      rw [e2]
      exact fin_row rfl (by simp) ⟨by simp, rfl⟩

theorem flush_nil (room : Int) (left : List Int) : flush room left [] = (left, []) := by unfold flush; rfl
theorem flush_yes {room : Int} {left H : List Int} {h : Int} (c : (h = left.length ∧ lined left) ∨ room < ((H.length + 1 : Nat) : Int)) : flush room left (h :: H) = flush room (left ++ [h]) H := by rw [flush, if_pos c]
theorem flush_no {room : Int} {left H : List Int} {h : Int} (c : ¬ ((h = left.length ∧ lined left) ∨ room < ((H.length + 1 : Nat) : Int))) : flush room left (h :: H) = (left, h :: H) := by rw [flush, if_neg c]
theorem drop_cons {B : List Int} {j : Nat} {h : Int} (hj : B[j]? = some h) : B.drop j = h :: B.drop (j + 1) := by
  obtain ⟨h1, rfl⟩ := List.getElem?_eq_some_iff.1 hj
  exact List.drop_eq_getElem_cons h1
theorem take_snoc {B : List Int} {j : Nat} {h : Int} (hj : B[j]? = some h) : B.take (j + 1) = B.take j ++ [h] := by rw [List.take_add_one, hj]; rfl

theorem leaving_own {fx : List Nat} {S : List Int} (hS : S.length < 2 ^ 40) {r n : Nat} (hn : n = S.length) {s : AS} (hL : s.L[r]? = some (.vec 1 (S.map fun x => [AV.val (.int .i64 x)]))) {K : AV → AS → Prop} (hK : K (.val (.bool (decide (lined S)))) s) :
    ACall Try.prog fx (.fn 130 []) [.os r 1 0 n] s K := by
  subst hn
  refine acall_borrow hL (v := .bool (decide (lined S))) ?_ hK
  simp only [List.map_cons, List.map_nil, AV.frz, if_true, Nat.zero_add, List.drop_zero, true_and, List.length_map, Nat.le_refl]
  rw [List.take_of_length_le (by simp)]
  exact qcall_one (leavingS_c S hS) rfl
theorem inOrder_own {fx : List Nat} {S : List Int} (hS : S.length < 2 ^ 40) {r n : Nat} (hn : n = S.length) {s : AS} (hL : s.L[r]? = some (.vec 1 (S.map fun x => [AV.val (.int .i64 x)]))) {K : AV → AS → Prop} (hK : K (.val (.bool (decide (lined S)))) s) :
    ACall Try.prog fx (.fn 78 []) [.os r 1 0 n] s K := by
  subst hn
  refine acall_borrow hL (v := .bool (decide (lined S))) ?_ hK
  simp only [List.map_cons, List.map_nil, AV.frz, if_true, Nat.zero_add, List.drop_zero, true_and, List.length_map, Nat.le_refl]
  rw [List.take_of_length_le (by simp)]
  exact qcall_one (inOrderI_c S hS) rfl

theorem e_passBufferS : Enters Try.prog 81 := enters_of Try.func81 (by kernel_rfl) (by kernel_rfl)
set_option maxRecDepth 8000 in
set_option maxHeartbeats 2000000 in
theorem passBufferS0_c (l : List Int) (room : Int) (hl : l.length ≤ 100000) : ACalls Try.prog 81 [.sl (ints l), .val (.int .i64 room)] [] [] (fun r L => r = .sl (ints (passB l room)) ∧ L = []) := by
  refine acalls_tm T_tt Try.func81 rfl e_passBufferS 52 rfl (W8 _ _ .any .any .any .any .any .any (W8 .any .any .any .any .any .any .any .any (W8 .any .any .any .any .any .any .any .any (W8 .any .any .any .any .any .any .any .any (W8 .any .any .any .any .any .any .any .any (W8 .any .any .any .any .any .any .any .any [.any, .any, .any, .any, .any, .any])))))) rfl (rv := [.tmp 4]) rfl (sx_sound (bl := []) T_tt _ _ _ ?_)
  simp (disch := omega) only [SX0, SX1, SX2, SX3, SX4, SX5, SX6, SX7, SX8, SU0, SY0, SY1, Nat.reduceAdd, Nat.reduceMul, Nat.reduceSub, Nat.reduceLeDiff, Nat.reduceEqDiff, Nat.reduceLT, Nat.reduceBEq, ↓reduceIte, Int.reduceLE, Int.reduceLT, Int.reduceToNat, Int.reduceNeg, reduceCtorEq, Int.reduceEq, SF0, SF1, SF2, DCg0, DCe0, DCe1, DCe2, DDb0, DBc0, DBc1, DHb0, DHb1, DHa0, DDe0]
  (refine awp_wk (wk_frz (r := 1) (k := 1) (es := []) rfl (by simp)) ?_; simp only [AS.frz, W8_map, List.map_cons, List.map_nil, AV.frz, OB.frz, frzL, if_true, if_false, Nat.reduceEqDiff, Nat.zero_add, true_and, List.length_map, List.drop_zero, List.set_cons_succ, List.set_cons_zero, Work.frzm, Plan.frzm, Nat.le_refl, List.take_nil])
  with_reducible refine awp_loop_h (G := Nat) 8 46 (fun i => [(5, .os 0 1 0 (passN room (l.take i)).1.length), (6, .sl (ints (passN room (l.take i)).2)), (7, .val (.int .i64 i))]) (fun i => [.vec 1 (ints (passN room (l.take i)).1), .dead]) (fun i => i ≤ l.length) (fun i => l.length - i) 0 (Nat.zero_le _) ?_ (fun i hi => ?_)
  · simp (disch := omega) only [SX0, SX1, SX2, SX3, SX4, SX5, SX6, SX7, SX8, SU0, SY0, SY1, Nat.reduceAdd, Nat.reduceMul, Nat.reduceSub, Nat.reduceLeDiff, Nat.reduceEqDiff, Nat.reduceLT, Nat.reduceBEq, ↓reduceIte, Int.reduceLE, Int.reduceLT, Int.reduceToNat, Int.reduceNeg, reduceCtorEq, Int.reduceEq, SF0, SF1, SF2, DCg0, DCe0, DCe1, DCe2, DDb0, DBc0, DBc1, DHb0, DHb1, DHa0, DDe0]
    (refine wk_le ?_ ?_ ?_; (focus (simp [W8, leTm, leAV, AV.under, underL, ints, passN]; done)); (focus (simp [leL, OB.under, underL, AV.under, ints, passN]; done)); (focus (simp; done)))
  have hlen := passN_len room (l.take i)
  have hli : (l.take i).length ≤ i := by rw [List.length_take]; omega
  have hnx := fun x (hx : l[i]? = some x) => passN_next (room := room) hx
  generalize hst : passN room (l.take i) = st at *
  obtain ⟨left, H⟩ := st
  simp only at hlen hnx
  refine sx_sound (bl := []) T_tt _ _ _ ?_
  simp (disch := omega) only [SX0, SX1, SX2, SX3, SX4, SX5, SX6, SX7, SX8, SU0, SY0, SY1, Nat.reduceAdd, Nat.reduceMul, Nat.reduceSub, Nat.reduceLeDiff, Nat.reduceEqDiff, Nat.reduceLT, Nat.reduceBEq, ↓reduceIte, Int.reduceLE, Int.reduceLT, Int.reduceToNat, Int.reduceNeg, reduceCtorEq, Int.reduceEq, SF0, SF1, SF2, DCg0, DCe0, DCe1, DCe2, DDb0, DBc0, DBc1, DHb0, DHb1, DHa0, DDe0]
  refine br_dec (fun h1 => ?_) (fun h1 => ?_)
  · obtain ⟨x, hx⟩ := get_lt (l := l) (i := i) (by omega)
    have hnx := hnx x hx
    have hB := insI_len x H
    simp (disch := omega) only [SX0, SX1, SX2, SX3, SX4, SX5, SX6, SX7, SX8, SU0, SY0, SY1, Nat.reduceAdd, Nat.reduceMul, Nat.reduceSub, Nat.reduceLeDiff, Nat.reduceEqDiff, Nat.reduceLT, Nat.reduceBEq, ↓reduceIte, Int.reduceLE, Int.reduceLT, Int.reduceToNat, Int.reduceNeg, reduceCtorEq, Int.reduceEq, SF0, SF1, SF2, DCg0, DCe0, DCe1, DCe2, DDb0, DBc0, DBc1, DHb0, DHb1, DHa0, DDe0, hx]
    refine acall_one (insertInS_c H x (by omega)) rfl rfl ?_
    generalize insI x H = B at *
    simp (disch := omega) only [SX0, SX1, SX2, SX3, SX4, SX5, SX6, SX7, SX8, SU0, SY0, SY1, Nat.reduceAdd, Nat.reduceMul, Nat.reduceSub, Nat.reduceLeDiff, Nat.reduceEqDiff, Nat.reduceLT, Nat.reduceBEq, ↓reduceIte, Int.reduceLE, Int.reduceLT, Int.reduceToNat, Int.reduceNeg, reduceCtorEq, Int.reduceEq, SF0, SF1, SF2, DCg0, DCe0, DCe1, DCe2, DDb0, DBc0, DBc1, DHb0, DHb1, DHa0, DDe0]
    with_reducible refine awp_loop_h (G := Nat) 8 46 (fun j => [(5, .os 0 1 0 (left.length + j)), (6, .sl (ints (B.drop j)))]) (fun j => [.vec 1 (ints (left ++ B.take j)), .dead]) (fun j => j ≤ B.length ∧ flush room (left ++ B.take j) (B.drop j) = flush room left B) (fun j => B.length - j) 0 ⟨Nat.zero_le _, by simp⟩ ?_ (fun j hj => ?_)
    · simp (disch := omega) only [SX0, SX1, SX2, SX3, SX4, SX5, SX6, SX7, SX8, SU0, SY0, SY1, Nat.reduceAdd, Nat.reduceMul, Nat.reduceSub, Nat.reduceLeDiff, Nat.reduceEqDiff, Nat.reduceLT, Nat.reduceBEq, ↓reduceIte, Int.reduceLE, Int.reduceLT, Int.reduceToNat, Int.reduceNeg, reduceCtorEq, Int.reduceEq, SF0, SF1, SF2, DCg0, DCe0, DCe1, DCe2, DDb0, DBc0, DBc1, DHb0, DHb1, DHa0, DDe0]
      (refine wk_le ?_ ?_ ?_; (focus (simp [W8, leTm, leAV, AV.under, underL, ints]; done)); (focus (simp [leL, OB.under, underL, AV.under, ints]; done)); (focus (simp; done)))
    obtain ⟨hj, hfl⟩ := hj
    have hlt : (left ++ B.take j).length = left.length + j := by simp; omega
    refine sx_sound (bl := []) T_tt _ _ _ ?_
    simp (disch := omega) only [SX0, SX1, SX2, SX3, SX4, SX5, SX6, SX7, SX8, SU0, SY0, SY1, Nat.reduceAdd, Nat.reduceMul, Nat.reduceSub, Nat.reduceLeDiff, Nat.reduceEqDiff, Nat.reduceLT, Nat.reduceBEq, ↓reduceIte, Int.reduceLE, Int.reduceLT, Int.reduceToNat, Int.reduceNeg, reduceCtorEq, Int.reduceEq, SF0, SF1, SF2, DCg0, DCe0, DCe1, DCe2, DDb0, DBc0, DBc1, DHb0, DHb1, DHa0, DDe0]
    refine br_dec (fun h2 => ?_) (fun h2 => ?_)
    · have hjB : j < B.length := by rw [List.length_drop] at h2; omega
      obtain ⟨h, hh⟩ := get_lt (l := B) (i := j) hjB
      have hdc := drop_cons hh
      have hld : (B.drop (j + 1)).length = B.length - (j + 1) := by simp
      rw [hdc] at hfl
      simp (disch := omega) only [SX0, SX1, SX2, SX3, SX4, SX5, SX6, SX7, SX8, SU0, SY0, SY1, Nat.reduceAdd, Nat.reduceMul, Nat.reduceSub, Nat.reduceLeDiff, Nat.reduceEqDiff, Nat.reduceLT, Nat.reduceBEq, ↓reduceIte, Int.reduceLE, Int.reduceLT, Int.reduceToNat, Int.reduceNeg, reduceCtorEq, Int.reduceEq, SF0, SF1, SF2, DCg0, DCe0, DCe1, DCe2, DDb0, DBc0, DBc1, DHb0, DHb1, DHa0, DDe0, hdc]
      have go : ((h = (left ++ B.take j).length ∧ lined (left ++ B.take j)) ∨ room < (((B.drop (j + 1)).length + 1 : Nat) : Int)) → flush room (left ++ B.take (j + 1)) (B.drop (j + 1)) = flush room left B := fun c => by
        rw [flush_yes c] at hfl
        rw [take_snoc hh, ← List.append_assoc]; exact hfl
      have htt : List.take (B.drop (j + 1)).length (List.map (fun x => [AV.val (.int .i64 x)]) (B.drop (j + 1))) = List.map (fun x => [AV.val (.int .i64 x)]) (B.drop (j + 1)) := List.take_of_length_le (by simp)
      have e4 : left ++ B.take (j + 1) = (left ++ B.take j) ++ [h] := by rw [take_snoc hh, List.append_assoc]
      refine br_dec (fun h3 => ?_) (fun h3 => ?_)
      · simp (disch := omega) only [SX0, SX1, SX2, SX3, SX4, SX5, SX6, SX7, SX8, SU0, SY0, SY1, Nat.reduceAdd, Nat.reduceMul, Nat.reduceSub, Nat.reduceLeDiff, Nat.reduceEqDiff, Nat.reduceLT, Nat.reduceBEq, ↓reduceIte, Int.reduceLE, Int.reduceLT, Int.reduceToNat, Int.reduceNeg, reduceCtorEq, Int.reduceEq, SF0, SF1, SF2, DCg0, DCe0, DCe1, DCe2, DDb0, DBc0, DBc1, DHb0, DHb1, DHa0, DDe0, hdc]
        refine leaving_own (by omega) hlt.symm rfl ?_
        simp (disch := omega) only [SX0, SX1, SX2, SX3, SX4, SX5, SX6, SX7, SX8, SU0, SY0, SY1, Nat.reduceAdd, Nat.reduceMul, Nat.reduceSub, Nat.reduceLeDiff, Nat.reduceEqDiff, Nat.reduceLT, Nat.reduceBEq, ↓reduceIte, Int.reduceLE, Int.reduceLT, Int.reduceToNat, Int.reduceNeg, reduceCtorEq, Int.reduceEq, SF0, SF1, SF2, DCg0, DCe0, DCe1, DCe2, DDb0, DBc0, DBc1, DHb0, DHb1, DHa0, DDe0]
        refine br_dec (fun h4 => ?_) (fun h4 => ?_)
        · simp (disch := omega) only [SX0, SX1, SX2, SX3, SX4, SX5, SX6, SX7, SX8, SU0, SY0, SY1, Nat.reduceAdd, Nat.reduceMul, Nat.reduceSub, Nat.reduceLeDiff, Nat.reduceEqDiff, Nat.reduceLT, Nat.reduceBEq, ↓reduceIte, Int.reduceLE, Int.reduceLT, Int.reduceToNat, Int.reduceNeg, reduceCtorEq, Int.reduceEq, SF0, SF1, SF2, DCg0, DCe0, DCe1, DCe2, DDb0, DBc0, DBc1, DHb0, DHb1, DHa0, DDe0, hdc]
          refine req (by simp; omega) ?_
          simp (disch := omega) only [SX0, SX1, SX2, SX3, SX4, SX5, SX6, SX7, SX8, SU0, SY0, SY1, Nat.reduceAdd, Nat.reduceMul, Nat.reduceSub, Nat.reduceLeDiff, Nat.reduceEqDiff, Nat.reduceLT, Nat.reduceBEq, ↓reduceIte, Int.reduceLE, Int.reduceLT, Int.reduceToNat, Int.reduceNeg, reduceCtorEq, Int.reduceEq, SF0, SF1, SF2, DCg0, DCe0, DCe1, DCe2, DDb0, DBc0, DBc1, DHb0, DHb1, DHa0, DDe0]
          refine req ⟨by omega, fun c hc => by rw [← hc]; rfl⟩ ?_
          simp (disch := omega) only [SX0, SX1, SX2, SX3, SX4, SX5, SX6, SX7, SX8, SU0, SY0, SY1, Nat.reduceAdd, Nat.reduceMul, Nat.reduceSub, Nat.reduceLeDiff, Nat.reduceEqDiff, Nat.reduceLT, Nat.reduceBEq, ↓reduceIte, Int.reduceLE, Int.reduceLT, Int.reduceToNat, Int.reduceNeg, reduceCtorEq, Int.reduceEq, SF0, SF1, SF2, DCg0, DCe0, DCe1, DCe2, DDb0, DBc0, DBc1, DHb0, DHb1, DHa0, DDe0, htt]
          refine ⟨j + 1, ⟨by omega, go (.inl ⟨by omega, h4⟩)⟩, by omega, ?_⟩
          (refine wk_le ?_ ?_ ?_; (focus (simp [W8, leTm, leAV, AV.under, underL, ints, e4, Nat.add_assoc]; done)); (focus (simp [leL, OB.under, underL, AV.under, ints, e4, Nat.add_assoc]; done)); (focus (simp; done)))
        · simp (disch := omega) only [SX0, SX1, SX2, SX3, SX4, SX5, SX6, SX7, SX8, SU0, SY0, SY1, Nat.reduceAdd, Nat.reduceMul, Nat.reduceSub, Nat.reduceLeDiff, Nat.reduceEqDiff, Nat.reduceLT, Nat.reduceBEq, ↓reduceIte, Int.reduceLE, Int.reduceLT, Int.reduceToNat, Int.reduceNeg, reduceCtorEq, Int.reduceEq, SF0, SF1, SF2, DCg0, DCe0, DCe1, DCe2, DDb0, DBc0, DBc1, DHb0, DHb1, DHa0, DDe0, hdc]
          refine br_dec (fun h5 => ?_) (fun h5 => ?_)
          · simp (disch := omega) only [SX0, SX1, SX2, SX3, SX4, SX5, SX6, SX7, SX8, SU0, SY0, SY1, Nat.reduceAdd, Nat.reduceMul, Nat.reduceSub, Nat.reduceLeDiff, Nat.reduceEqDiff, Nat.reduceLT, Nat.reduceBEq, ↓reduceIte, Int.reduceLE, Int.reduceLT, Int.reduceToNat, Int.reduceNeg, reduceCtorEq, Int.reduceEq, SF0, SF1, SF2, DCg0, DCe0, DCe1, DCe2, DDb0, DBc0, DBc1, DHb0, DHb1, DHa0, DDe0, hdc]
            refine req (by simp; omega) ?_
            simp (disch := omega) only [SX0, SX1, SX2, SX3, SX4, SX5, SX6, SX7, SX8, SU0, SY0, SY1, Nat.reduceAdd, Nat.reduceMul, Nat.reduceSub, Nat.reduceLeDiff, Nat.reduceEqDiff, Nat.reduceLT, Nat.reduceBEq, ↓reduceIte, Int.reduceLE, Int.reduceLT, Int.reduceToNat, Int.reduceNeg, reduceCtorEq, Int.reduceEq, SF0, SF1, SF2, DCg0, DCe0, DCe1, DCe2, DDb0, DBc0, DBc1, DHb0, DHb1, DHa0, DDe0]
            refine req ⟨by omega, fun c hc => by rw [← hc]; rfl⟩ ?_
            simp (disch := omega) only [SX0, SX1, SX2, SX3, SX4, SX5, SX6, SX7, SX8, SU0, SY0, SY1, Nat.reduceAdd, Nat.reduceMul, Nat.reduceSub, Nat.reduceLeDiff, Nat.reduceEqDiff, Nat.reduceLT, Nat.reduceBEq, ↓reduceIte, Int.reduceLE, Int.reduceLT, Int.reduceToNat, Int.reduceNeg, reduceCtorEq, Int.reduceEq, SF0, SF1, SF2, DCg0, DCe0, DCe1, DCe2, DDb0, DBc0, DBc1, DHb0, DHb1, DHa0, DDe0, htt]
            refine ⟨j + 1, ⟨by omega, go (.inr (by omega))⟩, by omega, ?_⟩
            (refine wk_le ?_ ?_ ?_; (focus (simp [W8, leTm, leAV, AV.under, underL, ints, e4, Nat.add_assoc]; done)); (focus (simp [leL, OB.under, underL, AV.under, ints, e4, Nat.add_assoc]; done)); (focus (simp; done)))
          · rw [flush_no (by rintro (⟨_, h6⟩ | h6); exact h4 h6; omega)] at hfl
            rw [← hfl] at hnx
            simp (disch := omega) only [SX0, SX1, SX2, SX3, SX4, SX5, SX6, SX7, SX8, SU0, SY0, SY1, Nat.reduceAdd, Nat.reduceMul, Nat.reduceSub, Nat.reduceLeDiff, Nat.reduceEqDiff, Nat.reduceLT, Nat.reduceBEq, ↓reduceIte, Int.reduceLE, Int.reduceLT, Int.reduceToNat, Int.reduceNeg, reduceCtorEq, Int.reduceEq, SF0, SF1, SF2, DCg0, DCe0, DCe1, DCe2, DDb0, DBc0, DBc1, DHb0, DHb1, DHa0, DDe0]
            refine ⟨i + 1, by omega, by omega, ?_⟩
            (refine wk_le ?_ ?_ ?_; (focus (simp [W8, leTm, leAV, AV.under, underL, ints, hnx, hlt, hdc]; done)); (focus (simp [leL, OB.under, underL, AV.under, ints, hnx, hlt, hdc]; done)); (focus (simp; done)))
      · simp (disch := omega) only [SX0, SX1, SX2, SX3, SX4, SX5, SX6, SX7, SX8, SU0, SY0, SY1, Nat.reduceAdd, Nat.reduceMul, Nat.reduceSub, Nat.reduceLeDiff, Nat.reduceEqDiff, Nat.reduceLT, Nat.reduceBEq, ↓reduceIte, Int.reduceLE, Int.reduceLT, Int.reduceToNat, Int.reduceNeg, reduceCtorEq, Int.reduceEq, SF0, SF1, SF2, DCg0, DCe0, DCe1, DCe2, DDb0, DBc0, DBc1, DHb0, DHb1, DHa0, DDe0, hdc]
        refine br_dec (fun h5 => ?_) (fun h5 => ?_)
        · simp (disch := omega) only [SX0, SX1, SX2, SX3, SX4, SX5, SX6, SX7, SX8, SU0, SY0, SY1, Nat.reduceAdd, Nat.reduceMul, Nat.reduceSub, Nat.reduceLeDiff, Nat.reduceEqDiff, Nat.reduceLT, Nat.reduceBEq, ↓reduceIte, Int.reduceLE, Int.reduceLT, Int.reduceToNat, Int.reduceNeg, reduceCtorEq, Int.reduceEq, SF0, SF1, SF2, DCg0, DCe0, DCe1, DCe2, DDb0, DBc0, DBc1, DHb0, DHb1, DHa0, DDe0, hdc]
          refine req (by simp; omega) ?_
          simp (disch := omega) only [SX0, SX1, SX2, SX3, SX4, SX5, SX6, SX7, SX8, SU0, SY0, SY1, Nat.reduceAdd, Nat.reduceMul, Nat.reduceSub, Nat.reduceLeDiff, Nat.reduceEqDiff, Nat.reduceLT, Nat.reduceBEq, ↓reduceIte, Int.reduceLE, Int.reduceLT, Int.reduceToNat, Int.reduceNeg, reduceCtorEq, Int.reduceEq, SF0, SF1, SF2, DCg0, DCe0, DCe1, DCe2, DDb0, DBc0, DBc1, DHb0, DHb1, DHa0, DDe0]
          refine req ⟨by omega, fun c hc => by rw [← hc]; rfl⟩ ?_
          simp (disch := omega) only [SX0, SX1, SX2, SX3, SX4, SX5, SX6, SX7, SX8, SU0, SY0, SY1, Nat.reduceAdd, Nat.reduceMul, Nat.reduceSub, Nat.reduceLeDiff, Nat.reduceEqDiff, Nat.reduceLT, Nat.reduceBEq, ↓reduceIte, Int.reduceLE, Int.reduceLT, Int.reduceToNat, Int.reduceNeg, reduceCtorEq, Int.reduceEq, SF0, SF1, SF2, DCg0, DCe0, DCe1, DCe2, DDb0, DBc0, DBc1, DHb0, DHb1, DHa0, DDe0, htt]
          refine ⟨j + 1, ⟨by omega, go (.inr (by omega))⟩, by omega, ?_⟩
          (refine wk_le ?_ ?_ ?_; (focus (simp [W8, leTm, leAV, AV.under, underL, ints, e4, Nat.add_assoc]; done)); (focus (simp [leL, OB.under, underL, AV.under, ints, e4, Nat.add_assoc]; done)); (focus (simp; done)))
        · rw [flush_no (by rintro (⟨h6, _⟩ | h6) <;> omega)] at hfl
          rw [← hfl] at hnx
          simp (disch := omega) only [SX0, SX1, SX2, SX3, SX4, SX5, SX6, SX7, SX8, SU0, SY0, SY1, Nat.reduceAdd, Nat.reduceMul, Nat.reduceSub, Nat.reduceLeDiff, Nat.reduceEqDiff, Nat.reduceLT, Nat.reduceBEq, ↓reduceIte, Int.reduceLE, Int.reduceLT, Int.reduceToNat, Int.reduceNeg, reduceCtorEq, Int.reduceEq, SF0, SF1, SF2, DCg0, DCe0, DCe1, DCe2, DDb0, DBc0, DBc1, DHb0, DHb1, DHa0, DDe0]
          refine ⟨i + 1, by omega, by omega, ?_⟩
          (refine wk_le ?_ ?_ ?_; (focus (simp [W8, leTm, leAV, AV.under, underL, ints, hnx, hlt, hdc]; done)); (focus (simp [leL, OB.under, underL, AV.under, ints, hnx, hlt, hdc]; done)); (focus (simp; done)))
    · have hjB : j = B.length := by rw [List.length_drop] at h2; omega
      have hdn : B.drop j = [] := List.drop_eq_nil_of_le (by omega)
      have htn : B.take j = B := List.take_of_length_le (by omega)
      rw [hdn, htn, flush_nil] at hfl
      rw [← hfl] at hnx
      simp (disch := omega) only [SX0, SX1, SX2, SX3, SX4, SX5, SX6, SX7, SX8, SU0, SY0, SY1, Nat.reduceAdd, Nat.reduceMul, Nat.reduceSub, Nat.reduceLeDiff, Nat.reduceEqDiff, Nat.reduceLT, Nat.reduceBEq, ↓reduceIte, Int.reduceLE, Int.reduceLT, Int.reduceToNat, Int.reduceNeg, reduceCtorEq, Int.reduceEq, SF0, SF1, SF2, DCg0, DCe0, DCe1, DCe2, DDb0, DBc0, DBc1, DHb0, DHb1, DHa0, DDe0, hdn, htn]
      refine ⟨i + 1, by omega, by omega, ?_⟩
      (refine wk_le ?_ ?_ ?_; (focus (simp [W8, leTm, leAV, AV.under, underL, ints, hnx, hjB]; done)); (focus (simp [leL, OB.under, underL, AV.under, ints, hnx, hjB]; done)); (focus (simp; done)))
  · have hil : i = l.length := by omega
    subst hil
    rw [List.take_length] at hst
    have ep : passB l room = left ++ H := by unfold passB; rw [hst]
    simp (disch := omega) only [SX0, SX1, SX2, SX3, SX4, SX5, SX6, SX7, SX8, SU0, SY0, SY1, Nat.reduceAdd, Nat.reduceMul, Nat.reduceSub, Nat.reduceLeDiff, Nat.reduceEqDiff, Nat.reduceLT, Nat.reduceBEq, ↓reduceIte, Int.reduceLE, Int.reduceLT, Int.reduceToNat, Int.reduceNeg, reduceCtorEq, Int.reduceEq, SF0, SF1, SF2, DCg0, DCe0, DCe1, DCe2, DDb0, DBc0, DBc1, DHb0, DHb1, DHa0, DDe0, ep]
    refine req intRows ?_
    simp (disch := omega) only [SX0, SX1, SX2, SX3, SX4, SX5, SX6, SX7, SX8, SU0, SY0, SY1, Nat.reduceAdd, Nat.reduceMul, Nat.reduceSub, Nat.reduceLeDiff, Nat.reduceEqDiff, Nat.reduceLT, Nat.reduceBEq, ↓reduceIte, Int.reduceLE, Int.reduceLT, Int.reduceToNat, Int.reduceNeg, reduceCtorEq, Int.reduceEq, SF0, SF1, SF2, DCg0, DCe0, DCe1, DCe2, DDb0, DBc0, DBc1, DHb0, DHb1, DHa0, DDe0]
    refine req (by omega) ?_
    simp (disch := omega) only [SX0, SX1, SX2, SX3, SX4, SX5, SX6, SX7, SX8, SU0, SY0, SY1, Nat.reduceAdd, Nat.reduceMul, Nat.reduceSub, Nat.reduceLeDiff, Nat.reduceEqDiff, Nat.reduceLT, Nat.reduceBEq, ↓reduceIte, Int.reduceLE, Int.reduceLT, Int.reduceToNat, Int.reduceNeg, reduceCtorEq, Int.reduceEq, SF0, SF1, SF2, DCg0, DCe0, DCe1, DCe2, DDb0, DBc0, DBc1, DHb0, DHb1, DHa0, DDe0]
    exact fin_row rfl (by simp) ⟨by simp, rfl⟩

end Go.Pc
