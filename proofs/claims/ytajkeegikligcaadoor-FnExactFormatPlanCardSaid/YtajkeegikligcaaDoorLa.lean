/- What the exact laws do with works and plans: they measure, copy and compare them. -/
import Derived.Test.YtajkeegikligcaaDoorRy
set_option linter.unusedSimpArgs false
set_option linter.unusedVariables false
namespace Go.Pc
open Go Go.Proofs

/-- A row that is filled from its start. -/
def fillR (es : List (List AV)) (z : List AV) (i : Nat) : List (List AV) := es.take i ++ List.replicate (es.length - i) z
theorem fillR_len (es : List (List AV)) (z : List AV) (i : Nat) : (fillR es z i).length = es.length := by simp [fillR]; omega
theorem fillR_zero (es : List (List AV)) (z : List AV) : fillR es z 0 = List.replicate es.length z := by simp [fillR]
theorem fillR_full (es : List (List AV)) (z : List AV) {i : Nat} (h : es.length ≤ i) : fillR es z i = es := by
  unfold fillR; rw [List.take_of_length_le h, show es.length - i = 0 by omega]; simp
theorem fillR_get {es : List (List AV)} {z : List AV} {i : Nat} (h : i < es.length) : (fillR es z i)[i]? = some z := by
  unfold fillR
  rw [List.getElem?_append_right (by simp; omega)]
  rw [show i - (es.take i).length = 0 by simp; omega, List.getElem?_replicate, if_pos (by omega)]
theorem fillR_set {es : List (List AV)} {z : List AV} {i : Nat} {x : List AV} (h : es[i]? = some x) : (fillR es z i).set i x = fillR es z (i + 1) := by
  have hl := (List.getElem?_eq_some_iff.1 h).1
  unfold fillR
  have e : es.length - i = (es.length - (i + 1)) + 1 := by omega
  rw [e, List.replicate_succ, List.set_append_right _ _ (by simp; omega), List.take_add_one, h]
  rw [show i - (es.take i).length = 0 by simp; omega]
  simp

theorem Plan.zero_len : Plan.nodesL [] = 0 := rfl
theorem nodesL_take {l : List Plan} {i : Nat} {q : Plan} (h : l[i]? = some q) : Plan.nodesL (l.take (i + 1)) = Plan.nodesL (l.take i) + q.nodes := by
  rw [Plan.nodesL_sum, Plan.nodesL_sum, List.take_add_one, h]; simp
theorem nodesL_ge {l : List Plan} {i : Nat} (h : i ≤ l.length) : Plan.nodesL (l.take i) + (l.length - i) ≤ Plan.nodesL l := by
  have e : l = l.take i ++ l.drop i := (List.take_append_drop i l).symm
  have h1 : ∀ m : List Plan, m.length ≤ Plan.nodesL m := fun m => by
    induction m with
    | nil => simp
    | cons q m ih => have := q.nodes_pos; simp [Plan.nodesL]; omega
  have h2 := h1 (l.drop i)
  have h3 : Plan.nodesL l = Plan.nodesL (l.take i) + Plan.nodesL (l.drop i) := by
    rw [Plan.nodesL_sum, Plan.nodesL_sum, Plan.nodesL_sum, ← List.sum_append, ← List.map_append, List.take_append_drop]
  rw [List.length_drop] at h2
  omega

/-- What is left of a room. -/
def leftOf (n : Nat) (left : Int) : Int := if (n : Int) ≤ left then left - n else -1

theorem e_szPlanS : Enters Tryd.prog 20 := enters_of Tryd.func20 (by kernel_rfl) (by kernel_rfl)
set_option maxHeartbeats 1000000 in
theorem szPlanS_of (ks : List Plan) (left : Int) (hl : ks.length ≤ 9223372036854775807) (h : 0 ≤ left ∧ left ≤ 1048576)
    (H : ∀ q ∈ ks, ∀ left : Int, 0 ≤ left ∧ left ≤ 1048576 → ACalls Tryd.prog 6 [.agg q.cs, .val (.int .i64 left)] [] [] (fun r L => r = .val (.int .i64 (leftOf (q.nodes - 1) left)) ∧ L = [])) :
    ACalls Tryd.prog 20 [.sl (ks.map Plan.cs), .val (.int .i64 left)] [] [] (fun r L => r = .val (.int .i64 (leftOf (Plan.nodesL ks) left)) ∧ L = []) := by
  have hg0 := nodesL_ge (l := ks) (i := 0) (Nat.zero_le _)
  simp only [List.take_zero, Plan.zero_len] at hg0
  refine acalls_tm T_tt Tryd.func20 rfl e_szPlanS 25 rfl (W8 _ _ .any .any .any .any .any .any (W8 .any .any .any .any .any .any .any .any (W8 .any .any .any .any .any .any .any .any [.any, .any, .any]))) rfl (rv := [.tmp 4]) rfl (sx_sound (bl := []) T_tt _ _ _ ?_)
  simp (disch := omega) only [SX0, SX1, SX2, SX3, SX4, SX5, SX6, SX7, SX8, SU0, SY0, SY1, Nat.reduceAdd, Nat.reduceMul, Nat.reduceSub, Nat.reduceLeDiff, Nat.reduceEqDiff, Nat.reduceLT, Nat.reduceBEq, ↓reduceIte, Int.reduceLE, Int.reduceLT, Int.reduceToNat, Int.reduceNeg, reduceCtorEq, Int.reduceEq, SF0, SF1, SF2, DCg0, DCe0, DCe1, DCe2, DDb0, DBc0, DBc1]
  refine br_dec (fun h1 => ?_) (fun h1 => ?_)
  · simp (disch := omega) only [SX0, SX1, SX2, SX3, SX4, SX5, SX6, SX7, SX8, SU0, SY0, SY1, Nat.reduceAdd, Nat.reduceMul, Nat.reduceSub, Nat.reduceLeDiff, Nat.reduceEqDiff, Nat.reduceLT, Nat.reduceBEq, ↓reduceIte, Int.reduceLE, Int.reduceLT, Int.reduceToNat, Int.reduceNeg, reduceCtorEq, Int.reduceEq, SF0, SF1, SF2, DCg0, DCe0, DCe1, DCe2, DDb0, DBc0, DBc1]
    exact fin_val ⟨by unfold leftOf; rw [if_neg (by omega)], rfl⟩
  simp (disch := omega) only [SX0, SX1, SX2, SX3, SX4, SX5, SX6, SX7, SX8, SU0, SY0, SY1, Nat.reduceAdd, Nat.reduceMul, Nat.reduceSub, Nat.reduceLeDiff, Nat.reduceEqDiff, Nat.reduceLT, Nat.reduceBEq, ↓reduceIte, Int.reduceLE, Int.reduceLT, Int.reduceToNat, Int.reduceNeg, reduceCtorEq, Int.reduceEq, SF0, SF1, SF2, DCg0, DCe0, DCe1, DCe2, DDb0, DBc0, DBc1]
  with_reducible refine awp_loop_h 1 26 (fun (i : Nat) => [(1, .val (.int .i64 (left - Plan.nodesL (ks.take i) - (ks.length - i)))), (4, .val (.int .i64 0)), (5, .val (.int .i64 i))]) (fun i => []) (fun i => i ≤ ks.length ∧ 0 ≤ left - Plan.nodesL (ks.take i) - (ks.length - i)) (fun i => ks.length - i) 0 ⟨Nat.zero_le _, by simp [Plan.zero_len]; omega⟩ ?_ (fun i hi => sx_sound (bl := []) T_tt _ _ _ ?_)
  · simp (disch := omega) only [SX0, SX1, SX2, SX3, SX4, SX5, SX6, SX7, SX8, SU0, SY0, SY1, Nat.reduceAdd, Nat.reduceMul, Nat.reduceSub, Nat.reduceLeDiff, Nat.reduceEqDiff, Nat.reduceLT, Nat.reduceBEq, ↓reduceIte, Int.reduceLE, Int.reduceLT, Int.reduceToNat, Int.reduceNeg, reduceCtorEq, Int.reduceEq, SF0, SF1, SF2, DCg0, DCe0, DCe1, DCe2, DDb0, DBc0, DBc1]
    (refine wk_le ?_ ?_ ?_; (focus (simp [W8, leTm, leAV, AV.under, underL, Plan.zero_len]; done)); (focus (simp [leL, OB.under, underL, AV.under, Plan.zero_len]; done)); (focus (simp; done)))
  simp (disch := omega) only [SX0, SX1, SX2, SX3, SX4, SX5, SX6, SX7, SX8, SU0, SY0, SY1, Nat.reduceAdd, Nat.reduceMul, Nat.reduceSub, Nat.reduceLeDiff, Nat.reduceEqDiff, Nat.reduceLT, Nat.reduceBEq, ↓reduceIte, Int.reduceLE, Int.reduceLT, Int.reduceToNat, Int.reduceNeg, reduceCtorEq, Int.reduceEq, SF0, SF1, SF2, DCg0, DCe0, DCe1, DCe2, DDb0, DBc0, DBc1]
  refine br_dec (fun h2 => ?_) (fun h2 => ?_)
  · obtain ⟨q, hq⟩ := get_lt (l := ks) (i := i) (by omega)
    have hp := q.nodes_pos
    have hn := nodesL_take hq
    have hg := nodesL_ge (l := ks) (i := i + 1) (by omega)
    simp (disch := omega) only [SX0, SX1, SX2, SX3, SX4, SX5, SX6, SX7, SX8, SU0, SY0, SY1, Nat.reduceAdd, Nat.reduceMul, Nat.reduceSub, Nat.reduceLeDiff, Nat.reduceEqDiff, Nat.reduceLT, Nat.reduceBEq, ↓reduceIte, Int.reduceLE, Int.reduceLT, Int.reduceToNat, Int.reduceNeg, reduceCtorEq, Int.reduceEq, SF0, SF1, SF2, DCg0, DCe0, DCe1, DCe2, DDb0, DBc0, DBc1, hq]
    refine acall_one (H q (List.mem_of_getElem? hq) _ ⟨hi.2, by omega⟩) (by simp [freeL, AV.free, Plan.free]) rfl ?_
    simp (disch := omega) only [SX0, SX1, SX2, SX3, SX4, SX5, SX6, SX7, SX8, SU0, SY0, SY1, Nat.reduceAdd, Nat.reduceMul, Nat.reduceSub, Nat.reduceLeDiff, Nat.reduceEqDiff, Nat.reduceLT, Nat.reduceBEq, ↓reduceIte, Int.reduceLE, Int.reduceLT, Int.reduceToNat, Int.reduceNeg, reduceCtorEq, Int.reduceEq, SF0, SF1, SF2, DCg0, DCe0, DCe1, DCe2, DDb0, DBc0, DBc1]
    refine br_dec (fun h3 => ?_) (fun h3 => ?_)
    · simp (disch := omega) only [SX0, SX1, SX2, SX3, SX4, SX5, SX6, SX7, SX8, SU0, SY0, SY1, Nat.reduceAdd, Nat.reduceMul, Nat.reduceSub, Nat.reduceLeDiff, Nat.reduceEqDiff, Nat.reduceLT, Nat.reduceBEq, ↓reduceIte, Int.reduceLE, Int.reduceLT, Int.reduceToNat, Int.reduceNeg, reduceCtorEq, Int.reduceEq, SF0, SF1, SF2, DCg0, DCe0, DCe1, DCe2, DDb0, DBc0, DBc1]
      exact fin_val ⟨by unfold leftOf at *; split at h3 <;> (rw [if_neg (by omega)]), rfl⟩
    · simp (disch := omega) only [SX0, SX1, SX2, SX3, SX4, SX5, SX6, SX7, SX8, SU0, SY0, SY1, Nat.reduceAdd, Nat.reduceMul, Nat.reduceSub, Nat.reduceLeDiff, Nat.reduceEqDiff, Nat.reduceLT, Nat.reduceBEq, ↓reduceIte, Int.reduceLE, Int.reduceLT, Int.reduceToNat, Int.reduceNeg, reduceCtorEq, Int.reduceEq, SF0, SF1, SF2, DCg0, DCe0, DCe1, DCe2, DDb0, DBc0, DBc1]
      have hle : ((q.nodes - 1 : Nat) : Int) ≤ left - Plan.nodesL (ks.take i) - (ks.length - i) := by
        unfold leftOf at h3; split at h3
        · assumption
        · omega
      have e : leftOf (q.nodes - 1) (left - Plan.nodesL (ks.take i) - (ks.length - i)) = left - Plan.nodesL (ks.take (i + 1)) - (ks.length - ((i + 1 : Nat) : Int)) := by
        unfold leftOf; rw [if_pos hle]; omega
      rw [e]
      refine ⟨i + 1, ⟨by omega, by omega⟩, by omega, ?_⟩
      (refine wk_le ?_ ?_ ?_; (focus (simp [W8, leTm, leAV, AV.under, underL]; done)); (focus (simp [leL, OB.under, underL, AV.under]; done)); (focus (simp; done)))
  · have hi2 := hi.2
    rw [List.take_of_length_le (by omega)] at hi2
    rw [List.take_of_length_le (by omega)]
    simp (disch := omega) only [SX0, SX1, SX2, SX3, SX4, SX5, SX6, SX7, SX8, SU0, SY0, SY1, Nat.reduceAdd, Nat.reduceMul, Nat.reduceSub, Nat.reduceLeDiff, Nat.reduceEqDiff, Nat.reduceLT, Nat.reduceBEq, ↓reduceIte, Int.reduceLE, Int.reduceLT, Int.reduceToNat, Int.reduceNeg, reduceCtorEq, Int.reduceEq, SF0, SF1, SF2, DCg0, DCe0, DCe1, DCe2, DDb0, DBc0, DBc1]
    exact fin_val ⟨by unfold leftOf; rw [if_pos (by omega), show left - Plan.nodesL ks - (ks.length - i) = left - Plan.nodesL ks by omega], rfl⟩

theorem e_szPlan : Enters Tryd.prog 6 := enters_of Tryd.func6 (by kernel_rfl) (by kernel_rfl)
theorem szPlan_n : ∀ (n : Nat) (p : Plan) (left : Int), p.nodes ≤ n → p.Lens → 0 ≤ left ∧ left ≤ 1048576 → ACalls Tryd.prog 6 [.agg p.cs, .val (.int .i64 left)] [] [] (fun r L => r = .val (.int .i64 (leftOf (p.nodes - 1) left)) ∧ L = []) := by
  intro n
  induction n with
  | zero => intro p left h; have := p.nodes_pos; omega
  | succ n ih =>
  intro p left hn hL h
  obtain ⟨hl, hk⟩ := (Plan.lens_iff p).1 hL
  have S := szPlanS_of p.ks left hl h fun q hq left hle => ih q left (by have := Plan.nodes_kid hq; omega) (hk q hq) hle
  have e : p.nodes - 1 = Plan.nodesL p.ks := by have := p.nodes_eq; omega
  refine acalls_tm T_tt Tryd.func6 rfl e_szPlan 10 rfl (W8 _ _ .any .any .any .any .any .any [.any, .any, .any, .any]) rfl (rv := [.tmp 4]) rfl (sx_sound (bl := []) T_tt _ _ _ ?_)
  simp (disch := omega) only [SX0, SX1, SX2, SX3, SX4, SX5, SX6, SX7, SX8, SU0, SY0, SY1, Nat.reduceAdd, Nat.reduceMul, Nat.reduceSub, Nat.reduceLeDiff, Nat.reduceEqDiff, Nat.reduceLT, Nat.reduceBEq, ↓reduceIte, Int.reduceLE, Int.reduceLT, Int.reduceToNat, Int.reduceNeg, reduceCtorEq, Int.reduceEq, SF0, SF1, SF2, DCg0, DCe0, DCe1, DCe2, DDb0, DBc0, DBc1]
  refine acall_one S rfl rfl ?_
  rw [e]
  simp (disch := omega) only [SX0, SX1, SX2, SX3, SX4, SX5, SX6, SX7, SX8, SU0, SY0, SY1, Nat.reduceAdd, Nat.reduceMul, Nat.reduceSub, Nat.reduceLeDiff, Nat.reduceEqDiff, Nat.reduceLT, Nat.reduceBEq, ↓reduceIte, Int.reduceLE, Int.reduceLT, Int.reduceToNat, Int.reduceNeg, reduceCtorEq, Int.reduceEq, SF0, SF1, SF2, DCg0, DCe0, DCe1, DCe2, DDb0, DBc0, DBc1]
  refine br_dec (fun h1 => ?_) (fun h1 => ?_)
  · simp (disch := omega) only [SX0, SX1, SX2, SX3, SX4, SX5, SX6, SX7, SX8, SU0, SY0, SY1, Nat.reduceAdd, Nat.reduceMul, Nat.reduceSub, Nat.reduceLeDiff, Nat.reduceEqDiff, Nat.reduceLT, Nat.reduceBEq, ↓reduceIte, Int.reduceLE, Int.reduceLT, Int.reduceToNat, Int.reduceNeg, reduceCtorEq, Int.reduceEq, SF0, SF1, SF2, DCg0, DCe0, DCe1, DCe2, DDb0, DBc0, DBc1]
    exact fin_val ⟨by unfold leftOf at *; split at h1 <;> simp_all <;> omega, rfl⟩
  · simp (disch := omega) only [SX0, SX1, SX2, SX3, SX4, SX5, SX6, SX7, SX8, SU0, SY0, SY1, Nat.reduceAdd, Nat.reduceMul, Nat.reduceSub, Nat.reduceLeDiff, Nat.reduceEqDiff, Nat.reduceLT, Nat.reduceBEq, ↓reduceIte, Int.reduceLE, Int.reduceLT, Int.reduceToNat, Int.reduceNeg, reduceCtorEq, Int.reduceEq, SF0, SF1, SF2, DCg0, DCe0, DCe1, DCe2, DDb0, DBc0, DBc1]
    exact fin_val ⟨rfl, rfl⟩

def zPane : List AV := [.val (.int .i64 0), .val (.int .i64 0), .val (.bool false), .val (.int .i64 0)]
def zPlan : List AV := [.val (.int .i64 0), .val (.int .i64 0), .val (.int .i64 0), .val (.bool false), .val (.slice none 0 0)]

theorem zPane_len : zPane.length = 4 := rfl
theorem zPlan_len : zPlan.length = 5 := rfl
theorem zPane_drop : zPane.drop 4 = [] := rfl
theorem zPlan_drop : zPlan.drop 5 = [] := rfl
theorem DLa0 : type_of% @zPane_len ∧ type_of% @zPlan_len ∧ type_of% @zPane_drop ∧ type_of% @zPlan_drop := ⟨@zPane_len, @zPlan_len, @zPane_drop, @zPlan_drop⟩

theorem e_toPlanS : Enters Tryd.prog 24 := enters_of Tryd.func24 (by kernel_rfl) (by kernel_rfl)
set_option maxHeartbeats 1000000 in
theorem toPlanS_of (l : List Plan) (hl : l.length ≤ 1048576) (H : ∀ q ∈ l, ACalls Tryd.prog 8 [.agg q.cs] [] [] (fun r L => r = .agg q.cs ∧ L = [])) : ACalls Tryd.prog 24 [.sl (l.map Plan.cs)] [] [] (fun r L => r = .sl (l.map Plan.cs) ∧ L = []) := by
  refine acalls_tm T_tt Tryd.func24 rfl e_toPlanS 22 rfl (W8 _ .any .any .any .any .any .any .any (W8 .any .any .any .any .any .any .any .any [.any, .any, .any, .any, .any, .any, .any])) rfl (rv := [.tmp 2]) rfl (sx_sound (bl := []) T_tt _ _ _ ?_)
  simp (disch := omega) only [SX0, SX1, SX2, SX3, SX4, SX5, SX6, SX7, SX8, SU0, SY0, SY1, Nat.reduceAdd, Nat.reduceMul, Nat.reduceSub, Nat.reduceLeDiff, Nat.reduceEqDiff, Nat.reduceLT, Nat.reduceBEq, ↓reduceIte, Int.reduceLE, Int.reduceLT, Int.reduceToNat, Int.reduceNeg, reduceCtorEq, Int.reduceEq, SF0, SF1, SF2, DCg0, DCe0, DCe1, DCe2, DDb0, DBc0, DBc1, DLa0]
  refine req (by omega) ?_
  simp (disch := omega) only [SX0, SX1, SX2, SX3, SX4, SX5, SX6, SX7, SX8, SU0, SY0, SY1, Nat.reduceAdd, Nat.reduceMul, Nat.reduceSub, Nat.reduceLeDiff, Nat.reduceEqDiff, Nat.reduceLT, Nat.reduceBEq, ↓reduceIte, Int.reduceLE, Int.reduceLT, Int.reduceToNat, Int.reduceNeg, reduceCtorEq, Int.reduceEq, SF0, SF1, SF2, DCg0, DCe0, DCe1, DCe2, DDb0, DBc0, DBc1, DLa0]
  with_reducible refine awp_loop_h 3 20 (fun (i : Nat) => [(3, .os 0 5 0 l.length), (4, .val (.int .i64 i))]) (fun i => [.vec 5 (fillR (l.map Plan.cs) zPlan i)]) (fun i => i ≤ l.length) (fun i => l.length - i) 0 (Nat.zero_le _) ?_ (fun i hi => sx_sound (bl := []) T_tt _ _ _ ?_)
  · simp (disch := omega) only [SX0, SX1, SX2, SX3, SX4, SX5, SX6, SX7, SX8, SU0, SY0, SY1, Nat.reduceAdd, Nat.reduceMul, Nat.reduceSub, Nat.reduceLeDiff, Nat.reduceEqDiff, Nat.reduceLT, Nat.reduceBEq, ↓reduceIte, Int.reduceLE, Int.reduceLT, Int.reduceToNat, Int.reduceNeg, reduceCtorEq, Int.reduceEq, SF0, SF1, SF2, DCg0, DCe0, DCe1, DCe2, DDb0, DBc0, DBc1, DLa0]
    (refine wk_le ?_ ?_ ?_; (focus (simp [W8, leTm, leAV, AV.under, underL, fillR_zero, zPlan]; done)); (focus (simp [leL, OB.under, underL, AV.under, fillR_zero, zPlan]; done)); (focus (simp; done)))
  simp (disch := omega) only [SX0, SX1, SX2, SX3, SX4, SX5, SX6, SX7, SX8, SU0, SY0, SY1, Nat.reduceAdd, Nat.reduceMul, Nat.reduceSub, Nat.reduceLeDiff, Nat.reduceEqDiff, Nat.reduceLT, Nat.reduceBEq, ↓reduceIte, Int.reduceLE, Int.reduceLT, Int.reduceToNat, Int.reduceNeg, reduceCtorEq, Int.reduceEq, SF0, SF1, SF2, DCg0, DCe0, DCe1, DCe2, DDb0, DBc0, DBc1, DLa0]
  refine br_dec (fun h1 => ?_) (fun h1 => ?_)
  · obtain ⟨q, hq⟩ := get_lt (l := l) (i := i) (by omega)
    have hlt : i < (l.map Plan.cs).length := by simp; omega
    have hs := fillR_set (z := zPlan) (show (l.map Plan.cs)[i]? = some q.cs by simp [hq])
    have hg := fillR_get (z := zPlan) hlt
    have h2t : ((i : Int) < (l.length : Int)) = True := eq_true h1
    simp (disch := omega) only [SX0, SX1, SX2, SX3, SX4, SX5, SX6, SX7, SX8, SU0, SY0, SY1, Nat.reduceAdd, Nat.reduceMul, Nat.reduceSub, Nat.reduceLeDiff, Nat.reduceEqDiff, Nat.reduceLT, Nat.reduceBEq, ↓reduceIte, Int.reduceLE, Int.reduceLT, Int.reduceToNat, Int.reduceNeg, reduceCtorEq, Int.reduceEq, SF0, SF1, SF2, DCg0, DCe0, DCe1, DCe2, DDb0, DBc0, DBc1, DLa0, hq]
    refine acall_one (H q (List.mem_of_getElem? hq)) (by simp [freeL, AV.free, Plan.free]) (by simp [freeL, AV.free, Plan.free]) ?_
    simp (disch := omega) only [SX0, SX1, SX2, SX3, SX4, SX5, SX6, SX7, SX8, SU0, SY0, SY1, Nat.reduceAdd, Nat.reduceMul, Nat.reduceSub, Nat.reduceLeDiff, Nat.reduceEqDiff, Nat.reduceLT, Nat.reduceBEq, ↓reduceIte, Int.reduceLE, Int.reduceLT, Int.reduceToNat, Int.reduceNeg, reduceCtorEq, Int.reduceEq, SF0, SF1, SF2, DCg0, DCe0, DCe1, DCe2, DDb0, DBc0, DBc1, DLa0, hq, hg, h2t]
    refine ⟨i + 1, by omega, by omega, ?_⟩
    (refine wk_le ?_ ?_ ?_; (focus (simp [W8, leTm, leAV, AV.under, underL, hs]; done)); (focus (simp [leL, OB.under, underL, AV.under, hs]; done)); (focus (simp; done)))
  · simp (disch := omega) only [SX0, SX1, SX2, SX3, SX4, SX5, SX6, SX7, SX8, SU0, SY0, SY1, Nat.reduceAdd, Nat.reduceMul, Nat.reduceSub, Nat.reduceLeDiff, Nat.reduceEqDiff, Nat.reduceLT, Nat.reduceBEq, ↓reduceIte, Int.reduceLE, Int.reduceLT, Int.reduceToNat, Int.reduceNeg, reduceCtorEq, Int.reduceEq, SF0, SF1, SF2, DCg0, DCe0, DCe1, DCe2, DDb0, DBc0, DBc1, DLa0]
    exact fin_row rfl (by simp [fillR_len]) ⟨by rw [fillR_full _ _ (by simp; omega)], rfl⟩

theorem e_toPlan : Enters Tryd.prog 8 := enters_of Tryd.func8 (by kernel_rfl) (by kernel_rfl)
theorem toPlan_n : ∀ (n : Nat) (p : Plan), p.nodes ≤ n → p.nodes ≤ 1048577 → ACalls Tryd.prog 8 [.agg p.cs] [] [] (fun r L => r = .agg p.cs ∧ L = []) := by
  intro n
  induction n with
  | zero => intro p h; have := p.nodes_pos; omega
  | succ n ih =>
  intro p hn h
  have hg := nodesL_ge (l := p.ks) (i := 0) (Nat.zero_le _)
  have he := p.nodes_eq
  simp only [List.take_zero, Plan.zero_len] at hg
  have S := toPlanS_of p.ks (by omega) fun q hq => ih q (by have := Plan.nodes_kid hq; omega) (by have := Plan.nodes_kid hq; omega)
  refine acalls_tm T_tt Tryd.func8 rfl e_toPlan 20 rfl (W8 _ .any .any .any .any .any .any .any (W8 .any .any .any .any .any .any .any .any [.any, .any, .any, .any, .any])) rfl (rv := [.cell 2 29]) rfl (sx_sound (bl := []) T_tt _ _ _ ?_)
  simp (disch := omega) only [SX0, SX1, SX2, SX3, SX4, SX5, SX6, SX7, SX8, SU0, SY0, SY1, Nat.reduceAdd, Nat.reduceMul, Nat.reduceSub, Nat.reduceLeDiff, Nat.reduceEqDiff, Nat.reduceLT, Nat.reduceBEq, ↓reduceIte, Int.reduceLE, Int.reduceLT, Int.reduceToNat, Int.reduceNeg, reduceCtorEq, Int.reduceEq, SF0, SF1, SF2, DCg0, DCe0, DCe1, DCe2, DDb0, DBc0, DBc1, DLa0]
  refine acall_one S rfl rfl ?_
  simp (disch := omega) only [SX0, SX1, SX2, SX3, SX4, SX5, SX6, SX7, SX8, SU0, SY0, SY1, Nat.reduceAdd, Nat.reduceMul, Nat.reduceSub, Nat.reduceLeDiff, Nat.reduceEqDiff, Nat.reduceLT, Nat.reduceBEq, ↓reduceIte, Int.reduceLE, Int.reduceLT, Int.reduceToNat, Int.reduceNeg, reduceCtorEq, Int.reduceEq, SF0, SF1, SF2, DCg0, DCe0, DCe1, DCe2, DDb0, DBc0, DBc1, DLa0]
  exact fin_free rfl ⟨by rw [Plan.cs_eq], rfl⟩

theorem e_eqPlanS : Enters Tryd.prog 29 := enters_of Tryd.func29 (by kernel_rfl) (by kernel_rfl)
set_option maxHeartbeats 1000000 in
theorem eqPlanS_of (l : List Plan) (hl : l.length < 2 ^ 40) (H : ∀ q ∈ l, ACalls Tryd.prog 10 [.agg q.cs, .agg q.cs] [] [] (fun r L => r = .val (.bool true) ∧ L = [])) : ACalls Tryd.prog 29 [.sl (l.map Plan.cs), .sl (l.map Plan.cs)] [] [] (fun r L => r = .val (.bool true) ∧ L = []) := by
  refine acalls_tm T_tt Tryd.func29 rfl e_eqPlanS 25 rfl (W8 _ _ .any .any .any .any .any .any (W8 .any .any .any .any .any .any .any .any (W8 .any .any .any .any .any .any .any .any [.any, .any, .any]))) rfl (rv := [.tmp 4]) rfl (sx_sound (bl := []) T_tt _ _ _ ?_)
  simp (disch := omega) only [SX0, SX1, SX2, SX3, SX4, SX5, SX6, SX7, SX8, SU0, SY0, SY1, Nat.reduceAdd, Nat.reduceMul, Nat.reduceSub, Nat.reduceLeDiff, Nat.reduceEqDiff, Nat.reduceLT, Nat.reduceBEq, ↓reduceIte, Int.reduceLE, Int.reduceLT, Int.reduceToNat, Int.reduceNeg, reduceCtorEq, Int.reduceEq, SF0, SF1, SF2, DCg0, DCe0, DCe1, DCe2, DDb0, DBc0, DBc1, DLa0]
  with_reducible refine awp_loop_h 5 22 (fun (i : Nat) => [(5, .val (.int .i64 i))]) (fun i => []) (fun i => i ≤ l.length) (fun i => l.length - i) 0 (Nat.zero_le _) ?_ (fun i hi => sx_sound (bl := []) T_tt _ _ _ ?_)
  · simp (disch := omega) only [SX0, SX1, SX2, SX3, SX4, SX5, SX6, SX7, SX8, SU0, SY0, SY1, Nat.reduceAdd, Nat.reduceMul, Nat.reduceSub, Nat.reduceLeDiff, Nat.reduceEqDiff, Nat.reduceLT, Nat.reduceBEq, ↓reduceIte, Int.reduceLE, Int.reduceLT, Int.reduceToNat, Int.reduceNeg, reduceCtorEq, Int.reduceEq, SF0, SF1, SF2, DCg0, DCe0, DCe1, DCe2, DDb0, DBc0, DBc1, DLa0]
    (refine wk_le ?_ ?_ ?_; (focus (simp [W8, leTm, leAV, AV.under, underL]; done)); (focus (simp [leL, OB.under, underL, AV.under]; done)); (focus (simp; done)))
  simp (disch := omega) only [SX0, SX1, SX2, SX3, SX4, SX5, SX6, SX7, SX8, SU0, SY0, SY1, Nat.reduceAdd, Nat.reduceMul, Nat.reduceSub, Nat.reduceLeDiff, Nat.reduceEqDiff, Nat.reduceLT, Nat.reduceBEq, ↓reduceIte, Int.reduceLE, Int.reduceLT, Int.reduceToNat, Int.reduceNeg, reduceCtorEq, Int.reduceEq, SF0, SF1, SF2, DCg0, DCe0, DCe1, DCe2, DDb0, DBc0, DBc1, DLa0]
  refine br_dec (fun h1 => ?_) (fun h1 => ?_)
  · obtain ⟨q, hq⟩ := get_lt (l := l) (i := i) (by omega)
    simp (disch := omega) only [SX0, SX1, SX2, SX3, SX4, SX5, SX6, SX7, SX8, SU0, SY0, SY1, Nat.reduceAdd, Nat.reduceMul, Nat.reduceSub, Nat.reduceLeDiff, Nat.reduceEqDiff, Nat.reduceLT, Nat.reduceBEq, ↓reduceIte, Int.reduceLE, Int.reduceLT, Int.reduceToNat, Int.reduceNeg, reduceCtorEq, Int.reduceEq, SF0, SF1, SF2, DCg0, DCe0, DCe1, DCe2, DDb0, DBc0, DBc1, DLa0]
    refine awp_drawA T_tt mixed (by decide +kernel) (by kernel_rfl) (by kernel_rfl) ?_
    simp (disch := omega) only [SX0, SX1, SX2, SX3, SX4, SX5, SX6, SX7, SX8, SU0, SY0, SY1, Nat.reduceAdd, Nat.reduceMul, Nat.reduceSub, Nat.reduceLeDiff, Nat.reduceEqDiff, Nat.reduceLT, Nat.reduceBEq, ↓reduceIte, Int.reduceLE, Int.reduceLT, Int.reduceToNat, Int.reduceNeg, reduceCtorEq, Int.reduceEq, SF0, SF1, SF2, DCg0, DCe0, DCe1, DCe2, DDb0, DBc0, DBc1, DLa0, hq]
    refine qc_one (H q (List.mem_of_getElem? hq)) (by simp [freeL, AV.free, Plan.free]) ?_
    simp (disch := omega) only [SX0, SX1, SX2, SX3, SX4, SX5, SX6, SX7, SX8, SU0, SY0, SY1, Nat.reduceAdd, Nat.reduceMul, Nat.reduceSub, Nat.reduceLeDiff, Nat.reduceEqDiff, Nat.reduceLT, Nat.reduceBEq, ↓reduceIte, Int.reduceLE, Int.reduceLT, Int.reduceToNat, Int.reduceNeg, reduceCtorEq, Int.reduceEq, SF0, SF1, SF2, DCg0, DCe0, DCe1, DCe2, DDb0, DBc0, DBc1, DLa0]
    refine ⟨i + 1, by omega, by omega, ?_⟩
    (refine wk_le ?_ ?_ ?_; (focus (simp [W8, leTm, leAV, AV.under, underL]; done)); (focus (simp [leL, OB.under, underL, AV.under]; done)); (focus (simp; done)))
  · simp (disch := omega) only [SX0, SX1, SX2, SX3, SX4, SX5, SX6, SX7, SX8, SU0, SY0, SY1, Nat.reduceAdd, Nat.reduceMul, Nat.reduceSub, Nat.reduceLeDiff, Nat.reduceEqDiff, Nat.reduceLT, Nat.reduceBEq, ↓reduceIte, Int.reduceLE, Int.reduceLT, Int.reduceToNat, Int.reduceNeg, reduceCtorEq, Int.reduceEq, SF0, SF1, SF2, DCg0, DCe0, DCe1, DCe2, DDb0, DBc0, DBc1, DLa0]
    exact fin_val ⟨rfl, rfl⟩

theorem e_eqPlan : Enters Tryd.prog 10 := enters_of Tryd.func10 (by kernel_rfl) (by kernel_rfl)
theorem eqPlan_n : ∀ (n : Nat) (p : Plan), p.nodes ≤ n → p.nodes ≤ 1048577 → ACalls Tryd.prog 10 [.agg p.cs, .agg p.cs] [] [] (fun r L => r = .val (.bool true) ∧ L = []) := by
  intro n
  induction n with
  | zero => intro p h; have := p.nodes_pos; omega
  | succ n ih =>
  intro p hn h
  have hg := nodesL_ge (l := p.ks) (i := 0) (Nat.zero_le _)
  have he := p.nodes_eq
  simp only [List.take_zero, Plan.zero_len] at hg
  have S := eqPlanS_of p.ks (by omega) fun q hq => ih q (by have := Plan.nodes_kid hq; omega) (by have := Plan.nodes_kid hq; omega)
  refine acalls_tm T_tt Tryd.func10 rfl e_eqPlan 29 rfl (W8 _ _ .any .any .any .any .any .any (W8 .any .any .any .any .any .any .any .any (W8 .any .any .any .any .any .any .any .any [.any, .any, .any, .any, .any, .any, .any]))) rfl (rv := [.tmp 4]) rfl (sx_sound (bl := []) T_tt _ _ _ ?_)
  simp (disch := omega) only [SX0, SX1, SX2, SX3, SX4, SX5, SX6, SX7, SX8, SU0, SY0, SY1, Nat.reduceAdd, Nat.reduceMul, Nat.reduceSub, Nat.reduceLeDiff, Nat.reduceEqDiff, Nat.reduceLT, Nat.reduceBEq, ↓reduceIte, Int.reduceLE, Int.reduceLT, Int.reduceToNat, Int.reduceNeg, reduceCtorEq, Int.reduceEq, SF0, SF1, SF2, DCg0, DCe0, DCe1, DCe2, DDb0, DBc0, DBc1, DLa0]
  refine acall_one S rfl rfl ?_
  simp (disch := omega) only [SX0, SX1, SX2, SX3, SX4, SX5, SX6, SX7, SX8, SU0, SY0, SY1, Nat.reduceAdd, Nat.reduceMul, Nat.reduceSub, Nat.reduceLeDiff, Nat.reduceEqDiff, Nat.reduceLT, Nat.reduceBEq, ↓reduceIte, Int.reduceLE, Int.reduceLT, Int.reduceToNat, Int.reduceNeg, reduceCtorEq, Int.reduceEq, SF0, SF1, SF2, DCg0, DCe0, DCe1, DCe2, DDb0, DBc0, DBc1, DLa0]
  exact fin_val ⟨rfl, rfl⟩

theorem toPlan_c (p : Plan) (h : p.nodes ≤ 1048577) : ACalls Tryd.prog 8 [.agg p.cs] [] [] (fun r L => r = .agg p.cs ∧ L = []) := toPlan_n _ p (Nat.le_refl _) h

theorem eqPlan_c (p : Plan) (h : p.nodes ≤ 1048577) : ACalls Tryd.prog 10 [.agg p.cs, .agg p.cs] [] [] (fun r L => r = .val (.bool true) ∧ L = []) := eqPlan_n _ p (Nat.le_refl _) h

theorem szPlan_c (p : Plan) (left : Int) (hL : p.Lens) (h : 0 ≤ left ∧ left ≤ 1048576) : ACalls Tryd.prog 6 [.agg p.cs, .val (.int .i64 left)] [] [] (fun r L => r = .val (.int .i64 (leftOf (p.nodes - 1) left)) ∧ L = []) := szPlan_n _ p left (Nat.le_refl _) hL h

theorem leftOf_pos {n : Nat} {left : Int} (h : ¬ leftOf n left < 0) : (n : Int) ≤ left ∧ leftOf n left = left - n := by
  unfold leftOf at *; split at h
  · rename_i hh; exact ⟨hh, by rw [if_pos hh]⟩
  · omega

end Go.Pc
