/- ParseOrder of the program and of the reference, for all texts: the law, in worlds of the shape that every call begins in. -/
import Derived.Test.YtajkeegikligcaaDoorCrf
set_option linter.unusedSimpArgs false
set_option linter.unusedVariables false
namespace Go.Pc
open Go Go.Proofs Go.Lib

/-- Rows of which the first ones are marked. -/
def mixR {α : Type} (m l : List α) (i : Nat) : List α := m.take i ++ l.drop i
theorem mixR_len {α : Type} {m l : List α} (h : m.length = l.length) (i : Nat) : (mixR m l i).length = l.length := by simp [mixR]; omega
theorem mixR_zero {α : Type} (m l : List α) : mixR m l 0 = l := by simp [mixR]
theorem mixR_full {α : Type} {m l : List α} (h : m.length = l.length) {i : Nat} (hi : l.length ≤ i) : mixR m l i = m := by simp [mixR, List.take_of_length_le (show m.length ≤ i by omega), List.drop_of_length_le hi]
theorem mixR_get {α : Type} {m l : List α} (h : m.length = l.length) (i : Nat) : (mixR m l i)[i]? = l[i]? := by
  unfold mixR
  by_cases hi : i ≤ l.length
  · rw [List.getElem?_append_right (by simp; omega)]
    simp; congr 1; omega
  · rw [List.getElem?_eq_none (by simp; omega), List.getElem?_eq_none (by omega)]
theorem mixR_set {α : Type} {m l : List α} (h : m.length = l.length) {i : Nat} {x : α} (hx : m[i]? = some x) : (mixR m l i).set i x = mixR m l (i + 1) := by
  have hi := (List.getElem?_eq_some_iff.1 hx).1
  unfold mixR
  have e : l.drop i = l[i] :: l.drop (i + 1) := (List.drop_eq_getElem_cons (by omega))
  have e2 : ∀ y : α, (y :: l.drop (i + 1)).set 0 x = x :: l.drop (i + 1) := fun y => rfl
  rw [e, List.set_append_right _ _ (by simp; omega), List.take_add_one, hx, show i - (m.take i).length = 0 by simp; omega, e2]
  simp

def marks {α : Type} (f : Int → α) (c : Nat) (n : Nat) (k : Int) : List α := (List.range n).map fun (i : Nat) => f (k + c * (i : Int))
theorem marks_len {α : Type} (f : Int → α) (c n : Nat) (k : Int) : (marks f c n k).length = n := by simp [marks]
theorem marks_get {α : Type} (f : Int → α) (c : Nat) {n i : Nat} (k : Int) (h : i < n) : (marks f c n k)[i]? = some (f (k + c * i)) := by simp [marks, h]

def Ln.mk' (k : Int) : Ln := ⟨⟨k, k + 1, decide ((k + 1 + 1).tmod 3 = 0), k + 1 + 1 + 1⟩, k + 1 + 1 + 1 + 1⟩

theorem e_markLineS : Enters Tryd.prog 18 := enters_of Tryd.func18 (by kernel_rfl) (by kernel_rfl)
set_option maxRecDepth 8000 in
set_option maxHeartbeats 2000000 in
theorem markLineS_o (l : List Ln) (hl : l.length ≤ 1048576) (k : Int) (hk : 0 ≤ k ∧ k ≤ 1125899906842624) : ACalls Tryd.prog 18 [.os 0 5 0 l.length, .val (.int .i64 k)] [.vec 5 (l.map Ln.cs)] [0] (fun r L => r = .val (.int .i64 (k + 5 * l.length)) ∧ L = [.vec 5 ((marks Ln.mk' 5 l.length k).map Ln.cs)]) := by
  have hm : (marks Ln.mk' 5 l.length k).length = l.length := marks_len _ _ _ _
  refine acalls_tm T_tt Tryd.func18 rfl e_markLineS 52 rfl (W8 _ _ .any .any .any .any .any .any (W8 .any .any .any .any .any .any .any .any (W8 .any .any .any .any .any .any .any .any (W8 .any .any .any .any .any .any .any .any (W8 .any .any .any .any .any .any .any .any (W8 .any .any .any .any .any .any .any .any [.any, .any, .any, .any, .any, .any])))))) rfl (rv := [.tmp 4]) rfl (sx_sound (bl := []) T_tt _ _ _ ?_)
  simp (disch := omega) only [SX0, SX1, SX2, SX3, SX4, SX5, SX6, SX7, SX8, SU0, SY0, SY1, Nat.reduceAdd, Nat.reduceMul, Nat.reduceSub, Nat.reduceLeDiff, Nat.reduceEqDiff, Nat.reduceLT, Nat.reduceBEq, ↓reduceIte, Int.reduceLE, Int.reduceLT, Int.reduceToNat, Int.reduceNeg, reduceCtorEq, Int.reduceEq, SF0, SF1, SF2, DCrd0, DCqa0, DCqa1, DCqa2, DCe0, DCe1, DCe2, DDb0, DBc0, DBc1, DLa0, DCg0, DCqk0, DCpd0, DCrk0, DAlh0]
  with_reducible refine awp_loop_h 6 (54 - 6) (fun (i : Nat) => [(1, .val (.int .i64 (k + 5 * i))), (5, .val (.int .i64 i))]) (fun i => [.vec 5 (mixR ((marks Ln.mk' 5 l.length k).map Ln.cs) (l.map Ln.cs) i)]) (fun i => i ≤ l.length) (fun i => l.length - i) 0 (Nat.zero_le _) ?_ (fun i hi => sx_sound (bl := []) T_tt _ _ _ ?_)
  · simp (disch := omega) only [SX0, SX1, SX2, SX3, SX4, SX5, SX6, SX7, SX8, SU0, SY0, SY1, Nat.reduceAdd, Nat.reduceMul, Nat.reduceSub, Nat.reduceLeDiff, Nat.reduceEqDiff, Nat.reduceLT, Nat.reduceBEq, ↓reduceIte, Int.reduceLE, Int.reduceLT, Int.reduceToNat, Int.reduceNeg, reduceCtorEq, Int.reduceEq, SF0, SF1, SF2, DCrd0, DCqa0, DCqa1, DCqa2, DCe0, DCe1, DCe2, DDb0, DBc0, DBc1, DLa0, DCg0, DCqk0, DCpd0, DCrk0, DAlh0]
    (refine wk_le ?_ ?_ ?_; (focus (simp [W8, leTm, leAV, AV.under, underL, mixR_zero]; done)); (focus (simp [leL, OB.under, underL, AV.under, mixR_zero]; done)); (focus (simp; done)))
  simp (disch := omega) only [SX0, SX1, SX2, SX3, SX4, SX5, SX6, SX7, SX8, SU0, SY0, SY1, Nat.reduceAdd, Nat.reduceMul, Nat.reduceSub, Nat.reduceLeDiff, Nat.reduceEqDiff, Nat.reduceLT, Nat.reduceBEq, ↓reduceIte, Int.reduceLE, Int.reduceLT, Int.reduceToNat, Int.reduceNeg, reduceCtorEq, Int.reduceEq, SF0, SF1, SF2, DCrd0, DCqa0, DCqa1, DCqa2, DCe0, DCe1, DCe2, DDb0, DBc0, DBc1, DLa0, DCg0, DCqk0, DCpd0, DCrk0, DAlh0]
  refine br_dec (fun h1 => ?_) (fun h1 => ?_)
  · obtain ⟨q, hq⟩ := get_lt (l := l) (i := i) (by omega)
    have hg : (mixR ((marks Ln.mk' 5 l.length k).map Ln.cs) (l.map Ln.cs) i)[i]? = some [.val (.int .i64 q.P.W), .val (.int .i64 q.P.H), .val (.bool q.P.Tu), .val (.int .i64 q.P.Ki), .val (.int .i64 q.N)] := by rw [mixR_get (by simp [hm])]; simp [hq, Ln.cs]
    have hset : ∀ x : List AV, ((mixR ((marks Ln.mk' 5 l.length k).map Ln.cs) (l.map Ln.cs) i).set i x)[i]? = some x := fun x => List.getElem?_set_self (by rw [mixR_len (by simp [hm])]; simp; omega)
    have hnext := mixR_set (m := ((marks Ln.mk' 5 l.length k).map Ln.cs)) (l := (l.map Ln.cs)) (by simp [hm]) (i := i) (x := Ln.cs (Ln.mk' (k + 5 * i))) (by rw [List.getElem?_map, marks_get _ _ _ (by omega)]; rfl)
    simp only [Ln.mk', Ln.cs] at hnext
    have h2t : ((i : Int) < (l.length : Int)) = True := eq_true h1
    have e : (k + 5 * (i : Int) + 1 + 1 + 1 + 1 + 1 : Int) = k + 5 * ((i + 1 : Nat) : Int) := by omega
    simp (disch := omega) only [SX0, SX1, SX2, SX3, SX4, SX5, SX6, SX7, SX8, SU0, SY0, SY1, Nat.reduceAdd, Nat.reduceMul, Nat.reduceSub, Nat.reduceLeDiff, Nat.reduceEqDiff, Nat.reduceLT, Nat.reduceBEq, ↓reduceIte, Int.reduceLE, Int.reduceLT, Int.reduceToNat, Int.reduceNeg, reduceCtorEq, Int.reduceEq, SF0, SF1, SF2, DCrd0, DCqa0, DCqa1, DCqa2, DCe0, DCe1, DCe2, DDb0, DBc0, DBc1, DLa0, DCg0, DCqk0, DCpd0, DCrk0, DAlh0, hg, hset, List.set_set, h2t]
    refine ⟨i + 1, by omega, by omega, ?_⟩
    (refine wk_le ?_ ?_ ?_; (focus (simp [W8, leTm, leAV, AV.under, underL, Ln.mk', Ln.cs, hnext, e]; done)); (focus (simp [leL, OB.under, underL, AV.under, Ln.mk', Ln.cs, hnext, e]; done)); (focus (simp; done)))
  · have hf : mixR ((marks Ln.mk' 5 l.length k).map Ln.cs) (l.map Ln.cs) i = ((marks Ln.mk' 5 l.length k).map Ln.cs) := mixR_full (by simp [hm]) (by simp; omega)
    have hi : i = l.length := by omega
    rw [hf]
    simp (disch := omega) only [SX0, SX1, SX2, SX3, SX4, SX5, SX6, SX7, SX8, SU0, SY0, SY1, Nat.reduceAdd, Nat.reduceMul, Nat.reduceSub, Nat.reduceLeDiff, Nat.reduceEqDiff, Nat.reduceLT, Nat.reduceBEq, ↓reduceIte, Int.reduceLE, Int.reduceLT, Int.reduceToNat, Int.reduceNeg, reduceCtorEq, Int.reduceEq, SF0, SF1, SF2, DCrd0, DCqa0, DCqa1, DCqa2, DCe0, DCe1, DCe2, DDb0, DBc0, DBc1, DLa0, DCg0, DCqk0, DCpd0, DCrk0, DAlh0]
    exact fin_zero (.val (.int .i64 (k + 5 * i))) (.vec 5 ((marks Ln.mk' 5 l.length k).map Ln.cs)) ⟨by rw [hi], rfl⟩ rfl rfl (by simp) (by simp)

theorem e_heldLineS : Enters Tryd.prog 19 := enters_of Tryd.func19 (by kernel_rfl) (by kernel_rfl)
set_option maxRecDepth 8000 in
set_option maxHeartbeats 2000000 in
theorem heldLineS_c (n : Nat) (hl : n ≤ 1048576) (k : Int) (hk : 0 ≤ k ∧ k ≤ 1125899906842624) : ACalls Tryd.prog 19 [.sl ((marks Ln.mk' 5 n k).map Ln.cs), .val (.int .i64 k)] [] [] (fun r L => r = .val (.int .i64 (k + 5 * n)) ∧ L = []) := by
  have hm : (marks Ln.mk' 5 n k).length = n := marks_len _ _ _ _
  refine acalls_tm T_tt Tryd.func19 rfl e_heldLineS 62 rfl (W8 _ _ .any .any .any .any .any .any (W8 .any .any .any .any .any .any .any .any (W8 .any .any .any .any .any .any .any .any (W8 .any .any .any .any .any .any .any .any (W8 .any .any .any .any .any .any .any .any (W8 .any .any .any .any .any .any .any .any (W8 .any .any .any .any .any .any .any .any (W8 .any .any .any .any .any .any .any .any [])))))))) rfl (rv := [.tmp 4]) rfl (sx_sound (bl := []) T_tt _ _ _ ?_)
  simp (disch := omega) only [SX0, SX1, SX2, SX3, SX4, SX5, SX6, SX7, SX8, SU0, SY0, SY1, Nat.reduceAdd, Nat.reduceMul, Nat.reduceSub, Nat.reduceLeDiff, Nat.reduceEqDiff, Nat.reduceLT, Nat.reduceBEq, ↓reduceIte, Int.reduceLE, Int.reduceLT, Int.reduceToNat, Int.reduceNeg, reduceCtorEq, Int.reduceEq, SF0, SF1, SF2, DCrd0, DCqa0, DCqa1, DCqa2, DCe0, DCe1, DCe2, DDb0, DBc0, DBc1, DLa0, DCg0, DCqk0, DCpd0, DCrk0, DAlh0]
  with_reducible refine awp_loop_h 6 (64 - 6) (fun (i : Nat) => [(1, .val (.int .i64 (k + 5 * i))), (5, .val (.int .i64 i))]) (fun i => []) (fun i => i ≤ n) (fun i => n - i) 0 (Nat.zero_le _) ?_ (fun i hi => sx_sound (bl := []) T_tt _ _ _ ?_)
  · simp (disch := omega) only [SX0, SX1, SX2, SX3, SX4, SX5, SX6, SX7, SX8, SU0, SY0, SY1, Nat.reduceAdd, Nat.reduceMul, Nat.reduceSub, Nat.reduceLeDiff, Nat.reduceEqDiff, Nat.reduceLT, Nat.reduceBEq, ↓reduceIte, Int.reduceLE, Int.reduceLT, Int.reduceToNat, Int.reduceNeg, reduceCtorEq, Int.reduceEq, SF0, SF1, SF2, DCrd0, DCqa0, DCqa1, DCqa2, DCe0, DCe1, DCe2, DDb0, DBc0, DBc1, DLa0, DCg0, DCqk0, DCpd0, DCrk0, DAlh0]
    (refine wk_le ?_ ?_ ?_; (focus (simp [W8, leTm, leAV, AV.under, underL]; done)); (focus (simp [leL, OB.under, underL, AV.under]; done)); (focus (simp; done)))
  simp (disch := omega) only [SX0, SX1, SX2, SX3, SX4, SX5, SX6, SX7, SX8, SU0, SY0, SY1, Nat.reduceAdd, Nat.reduceMul, Nat.reduceSub, Nat.reduceLeDiff, Nat.reduceEqDiff, Nat.reduceLT, Nat.reduceBEq, ↓reduceIte, Int.reduceLE, Int.reduceLT, Int.reduceToNat, Int.reduceNeg, reduceCtorEq, Int.reduceEq, SF0, SF1, SF2, DCrd0, DCqa0, DCqa1, DCqa2, DCe0, DCe1, DCe2, DDb0, DBc0, DBc1, DLa0, DCg0, DCqk0, DCpd0, DCrk0, DAlh0, hm]
  refine br_dec (fun h1 => ?_) (fun h1 => ?_)
  · have hg : ((marks Ln.mk' 5 n k).map Ln.cs)[i]? = some (Ln.cs (Ln.mk' (k + 5 * i))) := by rw [List.getElem?_map, marks_get _ _ _ (by omega)]; rfl
    have h2t : ((i : Int) < (n : Int)) = True := eq_true h1
    have e : (k + 5 * (i : Int) + 1 + 1 + 1 + 1 + 1 : Int) = k + 5 * ((i + 1 : Nat) : Int) := by omega
    simp only [Ln.mk', Ln.cs] at hg
    simp (disch := omega) only [SX0, SX1, SX2, SX3, SX4, SX5, SX6, SX7, SX8, SU0, SY0, SY1, Nat.reduceAdd, Nat.reduceMul, Nat.reduceSub, Nat.reduceLeDiff, Nat.reduceEqDiff, Nat.reduceLT, Nat.reduceBEq, ↓reduceIte, Int.reduceLE, Int.reduceLT, Int.reduceToNat, Int.reduceNeg, reduceCtorEq, Int.reduceEq, SF0, SF1, SF2, DCrd0, DCqa0, DCqa1, DCqa2, DCe0, DCe1, DCe2, DDb0, DBc0, DBc1, DLa0, DCg0, DCqk0, DCpd0, DCrk0, DAlh0, hg, h2t, hm, Ln.mk', Ln.cs]
    refine ⟨i + 1, by omega, by omega, ?_⟩
    (refine wk_le ?_ ?_ ?_; (focus (simp [W8, leTm, leAV, AV.under, underL, e]; done)); (focus (simp [leL, OB.under, underL, AV.under, e]; done)); (focus (simp; done)))
  · have hi : i = n := by omega
    simp (disch := omega) only [SX0, SX1, SX2, SX3, SX4, SX5, SX6, SX7, SX8, SU0, SY0, SY1, Nat.reduceAdd, Nat.reduceMul, Nat.reduceSub, Nat.reduceLeDiff, Nat.reduceEqDiff, Nat.reduceLT, Nat.reduceBEq, ↓reduceIte, Int.reduceLE, Int.reduceLT, Int.reduceToNat, Int.reduceNeg, reduceCtorEq, Int.reduceEq, SF0, SF1, SF2, DCrd0, DCqa0, DCqa1, DCqa2, DCe0, DCe1, DCe2, DDb0, DBc0, DBc1, DLa0, DCg0, DCqk0, DCpd0, DCrk0, DAlh0]
    exact fin_val ⟨by rw [hi], rfl⟩

set_option maxRecDepth 8000 in
set_option maxHeartbeats 4000000 in
theorem fnExactParseOrder_k (s : List UInt8) : ∀ (ρ : Env) (w : World) (vs : Array Value), KShp ρ w → HR w ρ [] → vs.size = 1 → (∀ (i : Nat) v x, vs[i]? = some v → [AV.val (.string (strB s))][i]? = some x → VR w ρ v x) →
    Calls Tryd.prog 5 vs w (fun e w' => ∃ v' res L' ρ', e = .returned v' ∧ (res = .val (.bool true) ∧ L' = []) ∧ ([] : List OB).length ≤ L'.length ∧ VR w' ρ' v' res ∧ HR w' ρ' L' ∧ St [] ρ w ρ' w') := by
  have S := KShp.stays
  have H := KShp.shrinks
  refine callsK_intro (args := [.val (.string (strB s))]) (L0 := []) (R := fun r L => r = .val (.bool true) ∧ L = []) T_tt Tryd.func5 rfl 65 rfl (rv := [.tmp 2]) rfl (W8 _ .any .any .any .any .any .any .any (W8 .any .any .any .any .any .any .any .any (W8 .any .any .any .any .any .any .any .any (W8 .any .any .any .any .any .any .any .any (W8 .any .any .any .any .any .any .any .any (W8 .any .any .any .any .any .any .any .any (W8 .any .any .any .any .any .any .any .any (W8 .any .any .any .any .any .any .any .any [.any, .any])))))))) rfl ?_
  refine awpK_seq S (sx_sound (bl := []) T_tt _ _ _ ?_)
  simp (disch := omega) only [SX0, SX1, SX2, SX3, SX4, SX5, SX6, SX7, SX8, SU0, SY0, SY1, Nat.reduceAdd, Nat.reduceMul, Nat.reduceSub, Nat.reduceLeDiff, Nat.reduceEqDiff, Nat.reduceLT, Nat.reduceBEq, ↓reduceIte, Int.reduceLE, Int.reduceLT, Int.reduceToNat, Int.reduceNeg, reduceCtorEq, Int.reduceEq, SF0, SF1, SF2, DCrd0, DCqa0, DCqa1, DCqa2, DCe0, DCe1, DCe2, DDb0, DBc0, DBc1, DLa0, DCg0, DCqk0, DCpd0, DCrk0, DAlh0]
  refine kthen_n (awpK_seq S (sx_sound (bl := []) T_tt _ _ _ ?_))
  simp (disch := omega) only [SX0, SX1, SX2, SX3, SX4, SX5, SX6, SX7, SX8, SU0, SY0, SY1, Nat.reduceAdd, Nat.reduceMul, Nat.reduceSub, Nat.reduceLeDiff, Nat.reduceEqDiff, Nat.reduceLT, Nat.reduceBEq, ↓reduceIte, Int.reduceLE, Int.reduceLT, Int.reduceToNat, Int.reduceNeg, reduceCtorEq, Int.reduceEq, SF0, SF1, SF2, DCrd0, DCqa0, DCqa1, DCqa2, DCe0, DCe1, DCe2, DDb0, DBc0, DBc1, DLa0, DCg0, DCqk0, DCpd0, DCrk0, DAlh0, strB_size]
  refine br_dec (fun h1 => ?_) (fun h1 => ?_)
  · simp (disch := omega) only [SX0, SX1, SX2, SX3, SX4, SX5, SX6, SX7, SX8, SU0, SY0, SY1, Nat.reduceAdd, Nat.reduceMul, Nat.reduceSub, Nat.reduceLeDiff, Nat.reduceEqDiff, Nat.reduceLT, Nat.reduceBEq, ↓reduceIte, Int.reduceLE, Int.reduceLT, Int.reduceToNat, Int.reduceNeg, reduceCtorEq, Int.reduceEq, SF0, SF1, SF2, DCrd0, DCqa0, DCqa1, DCqa2, DCe0, DCe1, DCe2, DDb0, DBc0, DBc1, DLa0, DCg0, DCqk0, DCpd0, DCrk0, DAlh0]
    exact fin_val ⟨rfl, rfl⟩
  have hs : s.length ≤ 1048576 := by omega
  have US := parseOrderS_c s hs
  have PO := parseOrder_k s hs
  simp (disch := omega) only [SX0, SX1, SX2, SX3, SX4, SX5, SX6, SX7, SX8, SU0, SY0, SY1, Nat.reduceAdd, Nat.reduceMul, Nat.reduceSub, Nat.reduceLeDiff, Nat.reduceEqDiff, Nat.reduceLT, Nat.reduceBEq, ↓reduceIte, Int.reduceLE, Int.reduceLT, Int.reduceToNat, Int.reduceNeg, reduceCtorEq, Int.reduceEq, SF0, SF1, SF2, DCrd0, DCqa0, DCqa1, DCqa2, DCe0, DCe1, DCe2, DDb0, DBc0, DBc1, DLa0, DCg0, DCqk0, DCpd0, DCrk0, DAlh0]
  refine kthen_n (awpK_seq S (sx_sound (bl := []) T_tt _ _ _ ?_))
  simp (disch := omega) only [SX0, SX1, SX2, SX3, SX4, SX5, SX6, SX7, SX8, SU0, SY0, SY1, Nat.reduceAdd, Nat.reduceMul, Nat.reduceSub, Nat.reduceLeDiff, Nat.reduceEqDiff, Nat.reduceLT, Nat.reduceBEq, ↓reduceIte, Int.reduceLE, Int.reduceLT, Int.reduceToNat, Int.reduceNeg, reduceCtorEq, Int.reduceEq, SF0, SF1, SF2, DCrd0, DCqa0, DCqa1, DCqa2, DCe0, DCe1, DCe2, DDb0, DBc0, DBc1, DLa0, DCg0, DCqk0, DCpd0, DCrk0, DAlh0]
  cases ho : ordOf s with
  | some ls =>
    have hok := (ordOf_ok ho).2.2.1
    have EQ := eqLineS_c ls (by omega)
    have HE := heldLineS_c ls.length (by omega) 1 (by omega)
    rw [ho, ordR_some] at US
    rw [ho] at PO
    refine acall_one US rfl rfl ?_
    simp (disch := omega) only [SX0, SX1, SX2, SX3, SX4, SX5, SX6, SX7, SX8, SU0, SY0, SY1, Nat.reduceAdd, Nat.reduceMul, Nat.reduceSub, Nat.reduceLeDiff, Nat.reduceEqDiff, Nat.reduceLT, Nat.reduceBEq, ↓reduceIte, Int.reduceLE, Int.reduceLT, Int.reduceToNat, Int.reduceNeg, reduceCtorEq, Int.reduceEq, SF0, SF1, SF2, DCrd0, DCqa0, DCqa1, DCqa2, DCe0, DCe1, DCe2, DDb0, DBc0, DBc1, DLa0, DCg0, DCqk0, DCpd0, DCrk0, DAlh0]
    refine kthen_n (awpK_seqK S (awpK_region (bl := []) S T_tt 1 ?_))
    simp (disch := omega) only [SX0, SX1, SX2, SX3, SX4, SX5, SX6, SX7, SX8, SU0, SY0, SY1, Nat.reduceAdd, Nat.reduceMul, Nat.reduceSub, Nat.reduceLeDiff, Nat.reduceEqDiff, Nat.reduceLT, Nat.reduceBEq, ↓reduceIte, Int.reduceLE, Int.reduceLT, Int.reduceToNat, Int.reduceNeg, reduceCtorEq, Int.reduceEq, SF0, SF1, SF2, DCrd0, DCqa0, DCqa1, DCqa2, DCe0, DCe1, DCe2, DDb0, DBc0, DBc1, DLa0, DCg0, DCqk0, DCpd0, DCrk0, DAlh0]
    refine ⟨_, _, _, _, _, rfl, rfl, rfl, ?_⟩
    simp (disch := omega) only [SX0, SX1, SX2, SX3, SX4, SX5, SX6, SX7, SX8, SU0, SY0, SY1, Nat.reduceAdd, Nat.reduceMul, Nat.reduceSub, Nat.reduceLeDiff, Nat.reduceEqDiff, Nat.reduceLT, Nat.reduceBEq, ↓reduceIte, Int.reduceLE, Int.reduceLT, Int.reduceToNat, Int.reduceNeg, reduceCtorEq, Int.reduceEq, SF0, SF1, SF2, DCrd0, DCqa0, DCqa1, DCqa2, DCe0, DCe1, DCe2, DDb0, DBc0, DBc1, DLa0, DCg0, DCqk0, DCpd0, DCrk0, DAlh0]
    refine kcall_own H PO [] [] (by simp only [SX0, SX1, SX2, SX3, SX4, SX5, SX6, SX7, SX8, SU0, SY0, SY1, Nat.reduceAdd, Nat.reduceMul, Nat.reduceSub, Nat.reduceLeDiff, Nat.reduceEqDiff, Nat.reduceLT, Nat.reduceBEq, ↓reduceIte, Int.reduceLE, Int.reduceLT, Int.reduceToNat, Int.reduceNeg, reduceCtorEq, Int.reduceEq, SF0, SF1, SF2, DCrd0, DCqa0, DCqa1, DCqa2, DCe0, DCe1, DCe2, DDb0, DBc0, DBc1, DLa0, DCg0, DCqk0, DCpd0, DCrk0, DAlh0, SX0]) (by decide) (by decide) (by rfl) (by simp only [SX0, SX1, SX2, SX3, SX4, SX5, SX6, SX7, SX8, SU0, SY0, SY1, Nat.reduceAdd, Nat.reduceMul, Nat.reduceSub, Nat.reduceLeDiff, Nat.reduceEqDiff, Nat.reduceLT, Nat.reduceBEq, ↓reduceIte, Int.reduceLE, Int.reduceLT, Int.reduceToNat, Int.reduceNeg, reduceCtorEq, Int.reduceEq, SF0, SF1, SF2, DCrd0, DCqa0, DCqa1, DCqa2, DCe0, DCe1, DCe2, DDb0, DBc0, DBc1, DLa0, DCg0, DCqk0, DCpd0, DCrk0, DAlh0, SX0]) ?_
    rintro _ _ ⟨rfl, rfl⟩
    simp (disch := omega) only [SX0, SX1, SX2, SX3, SX4, SX5, SX6, SX7, SX8, SU0, SY0, SY1, Nat.reduceAdd, Nat.reduceMul, Nat.reduceSub, Nat.reduceLeDiff, Nat.reduceEqDiff, Nat.reduceLT, Nat.reduceBEq, ↓reduceIte, Int.reduceLE, Int.reduceLT, Int.reduceToNat, Int.reduceNeg, reduceCtorEq, Int.reduceEq, SF0, SF1, SF2, DCrd0, DCqa0, DCqa1, DCqa2, DCe0, DCe1, DCe2, DDb0, DBc0, DBc1, DLa0, DCg0, DCqk0, DCpd0, DCrk0, DAlh0]
    refine kthen_n (awpK_seq S (sx_sound (bl := []) T_tt _ _ _ ?_))
    simp (disch := omega) only [SX0, SX1, SX2, SX3, SX4, SX5, SX6, SX7, SX8, SU0, SY0, SY1, Nat.reduceAdd, Nat.reduceMul, Nat.reduceSub, Nat.reduceLeDiff, Nat.reduceEqDiff, Nat.reduceLT, Nat.reduceBEq, ↓reduceIte, Int.reduceLE, Int.reduceLT, Int.reduceToNat, Int.reduceNeg, reduceCtorEq, Int.reduceEq, SF0, SF1, SF2, DCrd0, DCqa0, DCqa1, DCqa2, DCe0, DCe1, DCe2, DDb0, DBc0, DBc1, DLa0, DCg0, DCqk0, DCpd0, DCrk0, DAlh0]
    refine acall_tell EQ (by exact ⟨.row 0 5 ls.length _ rfl (by simp), .free _ rfl, trivial⟩) ?_
    simp (disch := omega) only [SX0, SX1, SX2, SX3, SX4, SX5, SX6, SX7, SX8, SU0, SY0, SY1, Nat.reduceAdd, Nat.reduceMul, Nat.reduceSub, Nat.reduceLeDiff, Nat.reduceEqDiff, Nat.reduceLT, Nat.reduceBEq, ↓reduceIte, Int.reduceLE, Int.reduceLT, Int.reduceToNat, Int.reduceNeg, reduceCtorEq, Int.reduceEq, SF0, SF1, SF2, DCrd0, DCqa0, DCqa1, DCqa2, DCe0, DCe1, DCe2, DDb0, DBc0, DBc1, DLa0, DCg0, DCqk0, DCpd0, DCrk0, DAlh0]
    refine kthen_n (awpK_seq S (sx_sound (bl := []) T_tt _ _ _ ?_))
    simp (disch := omega) only [SX0, SX1, SX2, SX3, SX4, SX5, SX6, SX7, SX8, SU0, SY0, SY1, Nat.reduceAdd, Nat.reduceMul, Nat.reduceSub, Nat.reduceLeDiff, Nat.reduceEqDiff, Nat.reduceLT, Nat.reduceBEq, ↓reduceIte, Int.reduceLE, Int.reduceLT, Int.reduceToNat, Int.reduceNeg, reduceCtorEq, Int.reduceEq, SF0, SF1, SF2, DCrd0, DCqa0, DCqa1, DCqa2, DCe0, DCe1, DCe2, DDb0, DBc0, DBc1, DLa0, DCg0, DCqk0, DCpd0, DCrk0, DAlh0]
    refine kthen_n (awpK_seq S (sx_sound (bl := []) T_tt _ _ _ ?_))
    simp (disch := omega) only [SX0, SX1, SX2, SX3, SX4, SX5, SX6, SX7, SX8, SU0, SY0, SY1, Nat.reduceAdd, Nat.reduceMul, Nat.reduceSub, Nat.reduceLeDiff, Nat.reduceEqDiff, Nat.reduceLT, Nat.reduceBEq, ↓reduceIte, Int.reduceLE, Int.reduceLT, Int.reduceToNat, Int.reduceNeg, reduceCtorEq, Int.reduceEq, SF0, SF1, SF2, DCrd0, DCqa0, DCqa1, DCqa2, DCe0, DCe1, DCe2, DDb0, DBc0, DBc1, DLa0, DCg0, DCqk0, DCpd0, DCrk0, DAlh0]
    refine acall_own (markLineS_o ls (by omega) 1 (by omega)) [0] [] (by simp only [SX0, SX1, SX2, SX3, SX4, SX5, SX6, SX7, SX8, SU0, SY0, SY1, Nat.reduceAdd, Nat.reduceMul, Nat.reduceSub, Nat.reduceLeDiff, Nat.reduceEqDiff, Nat.reduceLT, Nat.reduceBEq, ↓reduceIte, Int.reduceLE, Int.reduceLT, Int.reduceToNat, Int.reduceNeg, reduceCtorEq, Int.reduceEq, SF0, SF1, SF2, DCrd0, DCqa0, DCqa1, DCqa2, DCe0, DCe1, DCe2, DDb0, DBc0, DBc1, DLa0, DCg0, DCqk0, DCpd0, DCrk0, DAlh0, SX0]) (by decide) (by decide) (by rfl) (by simp only [SX0, SX1, SX2, SX3, SX4, SX5, SX6, SX7, SX8, SU0, SY0, SY1, Nat.reduceAdd, Nat.reduceMul, Nat.reduceSub, Nat.reduceLeDiff, Nat.reduceEqDiff, Nat.reduceLT, Nat.reduceBEq, ↓reduceIte, Int.reduceLE, Int.reduceLT, Int.reduceToNat, Int.reduceNeg, reduceCtorEq, Int.reduceEq, SF0, SF1, SF2, DCrd0, DCqa0, DCqa1, DCqa2, DCe0, DCe1, DCe2, DDb0, DBc0, DBc1, DLa0, DCg0, DCqk0, DCpd0, DCrk0, DAlh0, SX0]) ?_
    rintro _ _ ⟨rfl, rfl⟩
    simp (disch := omega) only [SX0, SX1, SX2, SX3, SX4, SX5, SX6, SX7, SX8, SU0, SY0, SY1, Nat.reduceAdd, Nat.reduceMul, Nat.reduceSub, Nat.reduceLeDiff, Nat.reduceEqDiff, Nat.reduceLT, Nat.reduceBEq, ↓reduceIte, Int.reduceLE, Int.reduceLT, Int.reduceToNat, Int.reduceNeg, reduceCtorEq, Int.reduceEq, SF0, SF1, SF2, DCrd0, DCqa0, DCqa1, DCqa2, DCe0, DCe1, DCe2, DDb0, DBc0, DBc1, DLa0, DCg0, DCqk0, DCpd0, DCrk0, DAlh0]
    refine kthen_n (awpK_seq S (sx_sound (bl := []) T_tt _ _ _ ?_))
    simp (disch := omega) only [SX0, SX1, SX2, SX3, SX4, SX5, SX6, SX7, SX8, SU0, SY0, SY1, Nat.reduceAdd, Nat.reduceMul, Nat.reduceSub, Nat.reduceLeDiff, Nat.reduceEqDiff, Nat.reduceLT, Nat.reduceBEq, ↓reduceIte, Int.reduceLE, Int.reduceLT, Int.reduceToNat, Int.reduceNeg, reduceCtorEq, Int.reduceEq, SF0, SF1, SF2, DCrd0, DCqa0, DCqa1, DCqa2, DCe0, DCe1, DCe2, DDb0, DBc0, DBc1, DLa0, DCg0, DCqk0, DCpd0, DCrk0, DAlh0]
    refine kthen_n (awpK_seq S (sx_sound (bl := []) T_tt _ _ _ ?_))
    simp (disch := omega) only [SX0, SX1, SX2, SX3, SX4, SX5, SX6, SX7, SX8, SU0, SY0, SY1, Nat.reduceAdd, Nat.reduceMul, Nat.reduceSub, Nat.reduceLeDiff, Nat.reduceEqDiff, Nat.reduceLT, Nat.reduceBEq, ↓reduceIte, Int.reduceLE, Int.reduceLT, Int.reduceToNat, Int.reduceNeg, reduceCtorEq, Int.reduceEq, SF0, SF1, SF2, DCrd0, DCqa0, DCqa1, DCqa2, DCe0, DCe1, DCe2, DDb0, DBc0, DBc1, DLa0, DCg0, DCqk0, DCpd0, DCrk0, DAlh0]
    refine acall_tell HE (by exact ⟨.row 0 5 ls.length _ rfl (by simp [marks_len]), .free _ rfl, trivial⟩) ?_
    simp (disch := omega) only [SX0, SX1, SX2, SX3, SX4, SX5, SX6, SX7, SX8, SU0, SY0, SY1, Nat.reduceAdd, Nat.reduceMul, Nat.reduceSub, Nat.reduceLeDiff, Nat.reduceEqDiff, Nat.reduceLT, Nat.reduceBEq, ↓reduceIte, Int.reduceLE, Int.reduceLT, Int.reduceToNat, Int.reduceNeg, reduceCtorEq, Int.reduceEq, SF0, SF1, SF2, DCrd0, DCqa0, DCqa1, DCqa2, DCe0, DCe1, DCe2, DDb0, DBc0, DBc1, DLa0, DCg0, DCqk0, DCpd0, DCrk0, DAlh0]
    refine kthen_n (awpK_seq S (sx_sound (bl := []) T_tt _ _ _ ?_))
    simp (disch := omega) only [SX0, SX1, SX2, SX3, SX4, SX5, SX6, SX7, SX8, SU0, SY0, SY1, Nat.reduceAdd, Nat.reduceMul, Nat.reduceSub, Nat.reduceLeDiff, Nat.reduceEqDiff, Nat.reduceLT, Nat.reduceBEq, ↓reduceIte, Int.reduceLE, Int.reduceLT, Int.reduceToNat, Int.reduceNeg, reduceCtorEq, Int.reduceEq, SF0, SF1, SF2, DCrd0, DCqa0, DCqa1, DCqa2, DCe0, DCe1, DCe2, DDb0, DBc0, DBc1, DLa0, DCg0, DCqk0, DCpd0, DCrk0, DAlh0]
    refine br_dec (fun h => by omega) (fun h => ?_)
    simp (disch := omega) only [SX0, SX1, SX2, SX3, SX4, SX5, SX6, SX7, SX8, SU0, SY0, SY1, Nat.reduceAdd, Nat.reduceMul, Nat.reduceSub, Nat.reduceLeDiff, Nat.reduceEqDiff, Nat.reduceLT, Nat.reduceBEq, ↓reduceIte, Int.reduceLE, Int.reduceLT, Int.reduceToNat, Int.reduceNeg, reduceCtorEq, Int.reduceEq, SF0, SF1, SF2, DCrd0, DCqa0, DCqa1, DCqa2, DCe0, DCe1, DCe2, DDb0, DBc0, DBc1, DLa0, DCg0, DCqk0, DCpd0, DCrk0, DAlh0]
    refine kthen_n (awpK_seq S (sx_sound (bl := []) T_tt _ _ _ ?_))
    simp (disch := omega) only [SX0, SX1, SX2, SX3, SX4, SX5, SX6, SX7, SX8, SU0, SY0, SY1, Nat.reduceAdd, Nat.reduceMul, Nat.reduceSub, Nat.reduceLeDiff, Nat.reduceEqDiff, Nat.reduceLT, Nat.reduceBEq, ↓reduceIte, Int.reduceLE, Int.reduceLT, Int.reduceToNat, Int.reduceNeg, reduceCtorEq, Int.reduceEq, SF0, SF1, SF2, DCrd0, DCqa0, DCqa1, DCqa2, DCe0, DCe1, DCe2, DDb0, DBc0, DBc1, DLa0, DCg0, DCqk0, DCpd0, DCrk0, DAlh0]
    refine kthen_n (awpK_seqK S (awpK_region (bl := []) S T_tt 1 ?_))
    simp (disch := omega) only [SX0, SX1, SX2, SX3, SX4, SX5, SX6, SX7, SX8, SU0, SY0, SY1, Nat.reduceAdd, Nat.reduceMul, Nat.reduceSub, Nat.reduceLeDiff, Nat.reduceEqDiff, Nat.reduceLT, Nat.reduceBEq, ↓reduceIte, Int.reduceLE, Int.reduceLT, Int.reduceToNat, Int.reduceNeg, reduceCtorEq, Int.reduceEq, SF0, SF1, SF2, DCrd0, DCqa0, DCqa1, DCqa2, DCe0, DCe1, DCe2, DDb0, DBc0, DBc1, DLa0, DCg0, DCqk0, DCpd0, DCrk0, DAlh0]
    refine ⟨_, _, _, _, _, rfl, rfl, rfl, ?_⟩
    simp (disch := omega) only [SX0, SX1, SX2, SX3, SX4, SX5, SX6, SX7, SX8, SU0, SY0, SY1, Nat.reduceAdd, Nat.reduceMul, Nat.reduceSub, Nat.reduceLeDiff, Nat.reduceEqDiff, Nat.reduceLT, Nat.reduceBEq, ↓reduceIte, Int.reduceLE, Int.reduceLT, Int.reduceToNat, Int.reduceNeg, reduceCtorEq, Int.reduceEq, SF0, SF1, SF2, DCrd0, DCqa0, DCqa1, DCqa2, DCe0, DCe1, DCe2, DDb0, DBc0, DBc1, DLa0, DCg0, DCqk0, DCpd0, DCrk0, DAlh0]
    refine kcall_own H PO [] [] (by simp only [SX0, SX1, SX2, SX3, SX4, SX5, SX6, SX7, SX8, SU0, SY0, SY1, Nat.reduceAdd, Nat.reduceMul, Nat.reduceSub, Nat.reduceLeDiff, Nat.reduceEqDiff, Nat.reduceLT, Nat.reduceBEq, ↓reduceIte, Int.reduceLE, Int.reduceLT, Int.reduceToNat, Int.reduceNeg, reduceCtorEq, Int.reduceEq, SF0, SF1, SF2, DCrd0, DCqa0, DCqa1, DCqa2, DCe0, DCe1, DCe2, DDb0, DBc0, DBc1, DLa0, DCg0, DCqk0, DCpd0, DCrk0, DAlh0, SX0]) (by decide) (by decide) (by rfl) (by simp only [SX0, SX1, SX2, SX3, SX4, SX5, SX6, SX7, SX8, SU0, SY0, SY1, Nat.reduceAdd, Nat.reduceMul, Nat.reduceSub, Nat.reduceLeDiff, Nat.reduceEqDiff, Nat.reduceLT, Nat.reduceBEq, ↓reduceIte, Int.reduceLE, Int.reduceLT, Int.reduceToNat, Int.reduceNeg, reduceCtorEq, Int.reduceEq, SF0, SF1, SF2, DCrd0, DCqa0, DCqa1, DCqa2, DCe0, DCe1, DCe2, DDb0, DBc0, DBc1, DLa0, DCg0, DCqk0, DCpd0, DCrk0, DAlh0, SX0]) ?_
    rintro _ _ ⟨rfl, rfl⟩
    simp (disch := omega) only [SX0, SX1, SX2, SX3, SX4, SX5, SX6, SX7, SX8, SU0, SY0, SY1, Nat.reduceAdd, Nat.reduceMul, Nat.reduceSub, Nat.reduceLeDiff, Nat.reduceEqDiff, Nat.reduceLT, Nat.reduceBEq, ↓reduceIte, Int.reduceLE, Int.reduceLT, Int.reduceToNat, Int.reduceNeg, reduceCtorEq, Int.reduceEq, SF0, SF1, SF2, DCrd0, DCqa0, DCqa1, DCqa2, DCe0, DCe1, DCe2, DDb0, DBc0, DBc1, DLa0, DCg0, DCqk0, DCpd0, DCrk0, DAlh0]
    refine kthen_n (awpK_of (sx_sound (bl := []) T_tt _ _ _ ?_))
    simp (disch := omega) only [SX0, SX1, SX2, SX3, SX4, SX5, SX6, SX7, SX8, SU0, SY0, SY1, Nat.reduceAdd, Nat.reduceMul, Nat.reduceSub, Nat.reduceLeDiff, Nat.reduceEqDiff, Nat.reduceLT, Nat.reduceBEq, ↓reduceIte, Int.reduceLE, Int.reduceLT, Int.reduceToNat, Int.reduceNeg, reduceCtorEq, Int.reduceEq, SF0, SF1, SF2, DCrd0, DCqa0, DCqa1, DCqa2, DCe0, DCe1, DCe2, DDb0, DBc0, DBc1, DLa0, DCg0, DCqk0, DCpd0, DCrk0, DAlh0]
    refine acall_tell EQ (by exact ⟨.row 1 5 ls.length _ rfl (by simp), .free _ rfl, trivial⟩) ?_
    simp (disch := omega) only [SX0, SX1, SX2, SX3, SX4, SX5, SX6, SX7, SX8, SU0, SY0, SY1, Nat.reduceAdd, Nat.reduceMul, Nat.reduceSub, Nat.reduceLeDiff, Nat.reduceEqDiff, Nat.reduceLT, Nat.reduceBEq, ↓reduceIte, Int.reduceLE, Int.reduceLT, Int.reduceToNat, Int.reduceNeg, reduceCtorEq, Int.reduceEq, SF0, SF1, SF2, DCrd0, DCqa0, DCqa1, DCqa2, DCe0, DCe1, DCe2, DDb0, DBc0, DBc1, DLa0, DCg0, DCqk0, DCpd0, DCrk0, DAlh0]
    refine acall_tell HE (by exact ⟨.row 0 5 ls.length _ rfl (by simp [marks_len]), .free _ rfl, trivial⟩) ?_
    simp (disch := omega) only [SX0, SX1, SX2, SX3, SX4, SX5, SX6, SX7, SX8, SU0, SY0, SY1, Nat.reduceAdd, Nat.reduceMul, Nat.reduceSub, Nat.reduceLeDiff, Nat.reduceEqDiff, Nat.reduceLT, Nat.reduceBEq, ↓reduceIte, Int.reduceLE, Int.reduceLT, Int.reduceToNat, Int.reduceNeg, reduceCtorEq, Int.reduceEq, SF0, SF1, SF2, DCrd0, DCqa0, DCqa1, DCqa2, DCe0, DCe1, DCe2, DDb0, DBc0, DBc1, DLa0, DCg0, DCqk0, DCpd0, DCrk0, DAlh0]
    refine br_dec (fun h => by omega) (fun h => ?_)
    simp (disch := omega) only [SX0, SX1, SX2, SX3, SX4, SX5, SX6, SX7, SX8, SU0, SY0, SY1, Nat.reduceAdd, Nat.reduceMul, Nat.reduceSub, Nat.reduceLeDiff, Nat.reduceEqDiff, Nat.reduceLT, Nat.reduceBEq, ↓reduceIte, Int.reduceLE, Int.reduceLT, Int.reduceToNat, Int.reduceNeg, reduceCtorEq, Int.reduceEq, SF0, SF1, SF2, DCrd0, DCqa0, DCqa1, DCqa2, DCe0, DCe1, DCe2, DDb0, DBc0, DBc1, DLa0, DCg0, DCqk0, DCpd0, DCrk0, DAlh0]
    exact fin_val ⟨rfl, rfl⟩
  | none =>
    have EQ := eqLineS_c [] (by simp)
    have HE := heldLineS_c 0 (by omega) 1 (by omega)
    simp only [List.map_nil] at EQ
    simp only [marks, List.range_zero, List.map_nil] at HE
    rw [ho, ordR_none] at US
    rw [ho] at PO
    refine acall_one US rfl rfl ?_
    simp (disch := omega) only [SX0, SX1, SX2, SX3, SX4, SX5, SX6, SX7, SX8, SU0, SY0, SY1, Nat.reduceAdd, Nat.reduceMul, Nat.reduceSub, Nat.reduceLeDiff, Nat.reduceEqDiff, Nat.reduceLT, Nat.reduceBEq, ↓reduceIte, Int.reduceLE, Int.reduceLT, Int.reduceToNat, Int.reduceNeg, reduceCtorEq, Int.reduceEq, SF0, SF1, SF2, DCrd0, DCqa0, DCqa1, DCqa2, DCe0, DCe1, DCe2, DDb0, DBc0, DBc1, DLa0, DCg0, DCqk0, DCpd0, DCrk0, DAlh0]
    refine kthen_n (awpK_seqK S (awpK_region (bl := []) S T_tt 1 ?_))
    simp (disch := omega) only [SX0, SX1, SX2, SX3, SX4, SX5, SX6, SX7, SX8, SU0, SY0, SY1, Nat.reduceAdd, Nat.reduceMul, Nat.reduceSub, Nat.reduceLeDiff, Nat.reduceEqDiff, Nat.reduceLT, Nat.reduceBEq, ↓reduceIte, Int.reduceLE, Int.reduceLT, Int.reduceToNat, Int.reduceNeg, reduceCtorEq, Int.reduceEq, SF0, SF1, SF2, DCrd0, DCqa0, DCqa1, DCqa2, DCe0, DCe1, DCe2, DDb0, DBc0, DBc1, DLa0, DCg0, DCqk0, DCpd0, DCrk0, DAlh0]
    refine ⟨_, _, _, _, _, rfl, rfl, rfl, ?_⟩
    simp (disch := omega) only [SX0, SX1, SX2, SX3, SX4, SX5, SX6, SX7, SX8, SU0, SY0, SY1, Nat.reduceAdd, Nat.reduceMul, Nat.reduceSub, Nat.reduceLeDiff, Nat.reduceEqDiff, Nat.reduceLT, Nat.reduceBEq, ↓reduceIte, Int.reduceLE, Int.reduceLT, Int.reduceToNat, Int.reduceNeg, reduceCtorEq, Int.reduceEq, SF0, SF1, SF2, DCrd0, DCqa0, DCqa1, DCqa2, DCe0, DCe1, DCe2, DDb0, DBc0, DBc1, DLa0, DCg0, DCqk0, DCpd0, DCrk0, DAlh0]
    refine kcall_own H PO [] [] (by simp only [SX0, SX1, SX2, SX3, SX4, SX5, SX6, SX7, SX8, SU0, SY0, SY1, Nat.reduceAdd, Nat.reduceMul, Nat.reduceSub, Nat.reduceLeDiff, Nat.reduceEqDiff, Nat.reduceLT, Nat.reduceBEq, ↓reduceIte, Int.reduceLE, Int.reduceLT, Int.reduceToNat, Int.reduceNeg, reduceCtorEq, Int.reduceEq, SF0, SF1, SF2, DCrd0, DCqa0, DCqa1, DCqa2, DCe0, DCe1, DCe2, DDb0, DBc0, DBc1, DLa0, DCg0, DCqk0, DCpd0, DCrk0, DAlh0, SX0]) (by decide) (by decide) (by rfl) (by simp only [SX0, SX1, SX2, SX3, SX4, SX5, SX6, SX7, SX8, SU0, SY0, SY1, Nat.reduceAdd, Nat.reduceMul, Nat.reduceSub, Nat.reduceLeDiff, Nat.reduceEqDiff, Nat.reduceLT, Nat.reduceBEq, ↓reduceIte, Int.reduceLE, Int.reduceLT, Int.reduceToNat, Int.reduceNeg, reduceCtorEq, Int.reduceEq, SF0, SF1, SF2, DCrd0, DCqa0, DCqa1, DCqa2, DCe0, DCe1, DCe2, DDb0, DBc0, DBc1, DLa0, DCg0, DCqk0, DCpd0, DCrk0, DAlh0, SX0]) ?_
    rintro _ _ ⟨rfl, rfl⟩
    simp (disch := omega) only [SX0, SX1, SX2, SX3, SX4, SX5, SX6, SX7, SX8, SU0, SY0, SY1, Nat.reduceAdd, Nat.reduceMul, Nat.reduceSub, Nat.reduceLeDiff, Nat.reduceEqDiff, Nat.reduceLT, Nat.reduceBEq, ↓reduceIte, Int.reduceLE, Int.reduceLT, Int.reduceToNat, Int.reduceNeg, reduceCtorEq, Int.reduceEq, SF0, SF1, SF2, DCrd0, DCqa0, DCqa1, DCqa2, DCe0, DCe1, DCe2, DDb0, DBc0, DBc1, DLa0, DCg0, DCqk0, DCpd0, DCrk0, DAlh0]
    refine kthen_n (awpK_seq S (sx_sound (bl := []) T_tt _ _ _ ?_))
    simp (disch := omega) only [SX0, SX1, SX2, SX3, SX4, SX5, SX6, SX7, SX8, SU0, SY0, SY1, Nat.reduceAdd, Nat.reduceMul, Nat.reduceSub, Nat.reduceLeDiff, Nat.reduceEqDiff, Nat.reduceLT, Nat.reduceBEq, ↓reduceIte, Int.reduceLE, Int.reduceLT, Int.reduceToNat, Int.reduceNeg, reduceCtorEq, Int.reduceEq, SF0, SF1, SF2, DCrd0, DCqa0, DCqa1, DCqa2, DCe0, DCe1, DCe2, DDb0, DBc0, DBc1, DLa0, DCg0, DCqk0, DCpd0, DCrk0, DAlh0]
    refine acall_nrm ?_
    simp only [List.map_cons, List.map_nil, AV.nrm]
    refine acall_one EQ rfl rfl ?_
    simp (disch := omega) only [SX0, SX1, SX2, SX3, SX4, SX5, SX6, SX7, SX8, SU0, SY0, SY1, Nat.reduceAdd, Nat.reduceMul, Nat.reduceSub, Nat.reduceLeDiff, Nat.reduceEqDiff, Nat.reduceLT, Nat.reduceBEq, ↓reduceIte, Int.reduceLE, Int.reduceLT, Int.reduceToNat, Int.reduceNeg, reduceCtorEq, Int.reduceEq, SF0, SF1, SF2, DCrd0, DCqa0, DCqa1, DCqa2, DCe0, DCe1, DCe2, DDb0, DBc0, DBc1, DLa0, DCg0, DCqk0, DCpd0, DCrk0, DAlh0]
    refine kthen_n (awpK_seq S (sx_sound (bl := []) T_tt _ _ _ ?_))
    simp (disch := omega) only [SX0, SX1, SX2, SX3, SX4, SX5, SX6, SX7, SX8, SU0, SY0, SY1, Nat.reduceAdd, Nat.reduceMul, Nat.reduceSub, Nat.reduceLeDiff, Nat.reduceEqDiff, Nat.reduceLT, Nat.reduceBEq, ↓reduceIte, Int.reduceLE, Int.reduceLT, Int.reduceToNat, Int.reduceNeg, reduceCtorEq, Int.reduceEq, SF0, SF1, SF2, DCrd0, DCqa0, DCqa1, DCqa2, DCe0, DCe1, DCe2, DDb0, DBc0, DBc1, DLa0, DCg0, DCqk0, DCpd0, DCrk0, DAlh0]
    refine kthen_n (awpK_seq S (sx_sound (bl := []) T_tt _ _ _ ?_))
    simp (disch := omega) only [SX0, SX1, SX2, SX3, SX4, SX5, SX6, SX7, SX8, SU0, SY0, SY1, Nat.reduceAdd, Nat.reduceMul, Nat.reduceSub, Nat.reduceLeDiff, Nat.reduceEqDiff, Nat.reduceLT, Nat.reduceBEq, ↓reduceIte, Int.reduceLE, Int.reduceLT, Int.reduceToNat, Int.reduceNeg, reduceCtorEq, Int.reduceEq, SF0, SF1, SF2, DCrd0, DCqa0, DCqa1, DCqa2, DCe0, DCe1, DCe2, DDb0, DBc0, DBc1, DLa0, DCg0, DCqk0, DCpd0, DCrk0, DAlh0]
    refine acall_nil0 5 (by decide) ?_
    simp only [AS.push, List.length_nil, List.nil_append]
    refine acall_own (markLineS_o [] (by simp) 1 (by omega)) [0] [] (by simp only [SX0, SX1, SX2, SX3, SX4, SX5, SX6, SX7, SX8, SU0, SY0, SY1, Nat.reduceAdd, Nat.reduceMul, Nat.reduceSub, Nat.reduceLeDiff, Nat.reduceEqDiff, Nat.reduceLT, Nat.reduceBEq, ↓reduceIte, Int.reduceLE, Int.reduceLT, Int.reduceToNat, Int.reduceNeg, reduceCtorEq, Int.reduceEq, SF0, SF1, SF2, DCrd0, DCqa0, DCqa1, DCqa2, DCe0, DCe1, DCe2, DDb0, DBc0, DBc1, DLa0, DCg0, DCqk0, DCpd0, DCrk0, DAlh0, SX0]) (by decide) (by decide) (by rfl) (by simp only [SX0, SX1, SX2, SX3, SX4, SX5, SX6, SX7, SX8, SU0, SY0, SY1, Nat.reduceAdd, Nat.reduceMul, Nat.reduceSub, Nat.reduceLeDiff, Nat.reduceEqDiff, Nat.reduceLT, Nat.reduceBEq, ↓reduceIte, Int.reduceLE, Int.reduceLT, Int.reduceToNat, Int.reduceNeg, reduceCtorEq, Int.reduceEq, SF0, SF1, SF2, DCrd0, DCqa0, DCqa1, DCqa2, DCe0, DCe1, DCe2, DDb0, DBc0, DBc1, DLa0, DCg0, DCqk0, DCpd0, DCrk0, DAlh0, SX0]) ?_
    rintro _ _ ⟨rfl, rfl⟩
    simp (disch := omega) only [SX0, SX1, SX2, SX3, SX4, SX5, SX6, SX7, SX8, SU0, SY0, SY1, Nat.reduceAdd, Nat.reduceMul, Nat.reduceSub, Nat.reduceLeDiff, Nat.reduceEqDiff, Nat.reduceLT, Nat.reduceBEq, ↓reduceIte, Int.reduceLE, Int.reduceLT, Int.reduceToNat, Int.reduceNeg, reduceCtorEq, Int.reduceEq, SF0, SF1, SF2, DCrd0, DCqa0, DCqa1, DCqa2, DCe0, DCe1, DCe2, DDb0, DBc0, DBc1, DLa0, DCg0, DCqk0, DCpd0, DCrk0, DAlh0]
    refine kthen_n (awpK_seq S (sx_sound (bl := []) T_tt _ _ _ ?_))
    simp (disch := omega) only [SX0, SX1, SX2, SX3, SX4, SX5, SX6, SX7, SX8, SU0, SY0, SY1, Nat.reduceAdd, Nat.reduceMul, Nat.reduceSub, Nat.reduceLeDiff, Nat.reduceEqDiff, Nat.reduceLT, Nat.reduceBEq, ↓reduceIte, Int.reduceLE, Int.reduceLT, Int.reduceToNat, Int.reduceNeg, reduceCtorEq, Int.reduceEq, SF0, SF1, SF2, DCrd0, DCqa0, DCqa1, DCqa2, DCe0, DCe1, DCe2, DDb0, DBc0, DBc1, DLa0, DCg0, DCqk0, DCpd0, DCrk0, DAlh0]
    refine kthen_n (awpK_seq S (sx_sound (bl := []) T_tt _ _ _ ?_))
    simp (disch := omega) only [SX0, SX1, SX2, SX3, SX4, SX5, SX6, SX7, SX8, SU0, SY0, SY1, Nat.reduceAdd, Nat.reduceMul, Nat.reduceSub, Nat.reduceLeDiff, Nat.reduceEqDiff, Nat.reduceLT, Nat.reduceBEq, ↓reduceIte, Int.reduceLE, Int.reduceLT, Int.reduceToNat, Int.reduceNeg, reduceCtorEq, Int.reduceEq, SF0, SF1, SF2, DCrd0, DCqa0, DCqa1, DCqa2, DCe0, DCe1, DCe2, DDb0, DBc0, DBc1, DLa0, DCg0, DCqk0, DCpd0, DCrk0, DAlh0]
    refine acall_nrm ?_
    simp only [List.map_cons, List.map_nil, AV.nrm]
    refine acall_one HE rfl rfl ?_
    simp (disch := omega) only [SX0, SX1, SX2, SX3, SX4, SX5, SX6, SX7, SX8, SU0, SY0, SY1, Nat.reduceAdd, Nat.reduceMul, Nat.reduceSub, Nat.reduceLeDiff, Nat.reduceEqDiff, Nat.reduceLT, Nat.reduceBEq, ↓reduceIte, Int.reduceLE, Int.reduceLT, Int.reduceToNat, Int.reduceNeg, reduceCtorEq, Int.reduceEq, SF0, SF1, SF2, DCrd0, DCqa0, DCqa1, DCqa2, DCe0, DCe1, DCe2, DDb0, DBc0, DBc1, DLa0, DCg0, DCqk0, DCpd0, DCrk0, DAlh0]
    refine kthen_n (awpK_seq S (sx_sound (bl := []) T_tt _ _ _ ?_))
    simp (disch := omega) only [SX0, SX1, SX2, SX3, SX4, SX5, SX6, SX7, SX8, SU0, SY0, SY1, Nat.reduceAdd, Nat.reduceMul, Nat.reduceSub, Nat.reduceLeDiff, Nat.reduceEqDiff, Nat.reduceLT, Nat.reduceBEq, ↓reduceIte, Int.reduceLE, Int.reduceLT, Int.reduceToNat, Int.reduceNeg, reduceCtorEq, Int.reduceEq, SF0, SF1, SF2, DCrd0, DCqa0, DCqa1, DCqa2, DCe0, DCe1, DCe2, DDb0, DBc0, DBc1, DLa0, DCg0, DCqk0, DCpd0, DCrk0, DAlh0]
    refine br_dec (fun h => by omega) (fun h => ?_)
    simp (disch := omega) only [SX0, SX1, SX2, SX3, SX4, SX5, SX6, SX7, SX8, SU0, SY0, SY1, Nat.reduceAdd, Nat.reduceMul, Nat.reduceSub, Nat.reduceLeDiff, Nat.reduceEqDiff, Nat.reduceLT, Nat.reduceBEq, ↓reduceIte, Int.reduceLE, Int.reduceLT, Int.reduceToNat, Int.reduceNeg, reduceCtorEq, Int.reduceEq, SF0, SF1, SF2, DCrd0, DCqa0, DCqa1, DCqa2, DCe0, DCe1, DCe2, DDb0, DBc0, DBc1, DLa0, DCg0, DCqk0, DCpd0, DCrk0, DAlh0]
    refine kthen_n (awpK_seq S (sx_sound (bl := []) T_tt _ _ _ ?_))
    simp (disch := omega) only [SX0, SX1, SX2, SX3, SX4, SX5, SX6, SX7, SX8, SU0, SY0, SY1, Nat.reduceAdd, Nat.reduceMul, Nat.reduceSub, Nat.reduceLeDiff, Nat.reduceEqDiff, Nat.reduceLT, Nat.reduceBEq, ↓reduceIte, Int.reduceLE, Int.reduceLT, Int.reduceToNat, Int.reduceNeg, reduceCtorEq, Int.reduceEq, SF0, SF1, SF2, DCrd0, DCqa0, DCqa1, DCqa2, DCe0, DCe1, DCe2, DDb0, DBc0, DBc1, DLa0, DCg0, DCqk0, DCpd0, DCrk0, DAlh0]
    refine kthen_n (awpK_seqK S (awpK_region (bl := []) S T_tt 1 ?_))
    simp (disch := omega) only [SX0, SX1, SX2, SX3, SX4, SX5, SX6, SX7, SX8, SU0, SY0, SY1, Nat.reduceAdd, Nat.reduceMul, Nat.reduceSub, Nat.reduceLeDiff, Nat.reduceEqDiff, Nat.reduceLT, Nat.reduceBEq, ↓reduceIte, Int.reduceLE, Int.reduceLT, Int.reduceToNat, Int.reduceNeg, reduceCtorEq, Int.reduceEq, SF0, SF1, SF2, DCrd0, DCqa0, DCqa1, DCqa2, DCe0, DCe1, DCe2, DDb0, DBc0, DBc1, DLa0, DCg0, DCqk0, DCpd0, DCrk0, DAlh0]
    refine ⟨_, _, _, _, _, rfl, rfl, rfl, ?_⟩
    simp (disch := omega) only [SX0, SX1, SX2, SX3, SX4, SX5, SX6, SX7, SX8, SU0, SY0, SY1, Nat.reduceAdd, Nat.reduceMul, Nat.reduceSub, Nat.reduceLeDiff, Nat.reduceEqDiff, Nat.reduceLT, Nat.reduceBEq, ↓reduceIte, Int.reduceLE, Int.reduceLT, Int.reduceToNat, Int.reduceNeg, reduceCtorEq, Int.reduceEq, SF0, SF1, SF2, DCrd0, DCqa0, DCqa1, DCqa2, DCe0, DCe1, DCe2, DDb0, DBc0, DBc1, DLa0, DCg0, DCqk0, DCpd0, DCrk0, DAlh0]
    refine kcall_own H PO [] [] (by simp only [SX0, SX1, SX2, SX3, SX4, SX5, SX6, SX7, SX8, SU0, SY0, SY1, Nat.reduceAdd, Nat.reduceMul, Nat.reduceSub, Nat.reduceLeDiff, Nat.reduceEqDiff, Nat.reduceLT, Nat.reduceBEq, ↓reduceIte, Int.reduceLE, Int.reduceLT, Int.reduceToNat, Int.reduceNeg, reduceCtorEq, Int.reduceEq, SF0, SF1, SF2, DCrd0, DCqa0, DCqa1, DCqa2, DCe0, DCe1, DCe2, DDb0, DBc0, DBc1, DLa0, DCg0, DCqk0, DCpd0, DCrk0, DAlh0, SX0]) (by decide) (by decide) (by rfl) (by simp only [SX0, SX1, SX2, SX3, SX4, SX5, SX6, SX7, SX8, SU0, SY0, SY1, Nat.reduceAdd, Nat.reduceMul, Nat.reduceSub, Nat.reduceLeDiff, Nat.reduceEqDiff, Nat.reduceLT, Nat.reduceBEq, ↓reduceIte, Int.reduceLE, Int.reduceLT, Int.reduceToNat, Int.reduceNeg, reduceCtorEq, Int.reduceEq, SF0, SF1, SF2, DCrd0, DCqa0, DCqa1, DCqa2, DCe0, DCe1, DCe2, DDb0, DBc0, DBc1, DLa0, DCg0, DCqk0, DCpd0, DCrk0, DAlh0, SX0]) ?_
    rintro _ _ ⟨rfl, rfl⟩
    simp (disch := omega) only [SX0, SX1, SX2, SX3, SX4, SX5, SX6, SX7, SX8, SU0, SY0, SY1, Nat.reduceAdd, Nat.reduceMul, Nat.reduceSub, Nat.reduceLeDiff, Nat.reduceEqDiff, Nat.reduceLT, Nat.reduceBEq, ↓reduceIte, Int.reduceLE, Int.reduceLT, Int.reduceToNat, Int.reduceNeg, reduceCtorEq, Int.reduceEq, SF0, SF1, SF2, DCrd0, DCqa0, DCqa1, DCqa2, DCe0, DCe1, DCe2, DDb0, DBc0, DBc1, DLa0, DCg0, DCqk0, DCpd0, DCrk0, DAlh0]
    refine kthen_n (awpK_of (sx_sound (bl := []) T_tt _ _ _ ?_))
    simp (disch := omega) only [SX0, SX1, SX2, SX3, SX4, SX5, SX6, SX7, SX8, SU0, SY0, SY1, Nat.reduceAdd, Nat.reduceMul, Nat.reduceSub, Nat.reduceLeDiff, Nat.reduceEqDiff, Nat.reduceLT, Nat.reduceBEq, ↓reduceIte, Int.reduceLE, Int.reduceLT, Int.reduceToNat, Int.reduceNeg, reduceCtorEq, Int.reduceEq, SF0, SF1, SF2, DCrd0, DCqa0, DCqa1, DCqa2, DCe0, DCe1, DCe2, DDb0, DBc0, DBc1, DLa0, DCg0, DCqk0, DCpd0, DCrk0, DAlh0]
    refine acall_nrm ?_
    simp only [List.map_cons, List.map_nil, AV.nrm]
    refine acall_one EQ rfl rfl ?_
    simp (disch := omega) only [SX0, SX1, SX2, SX3, SX4, SX5, SX6, SX7, SX8, SU0, SY0, SY1, Nat.reduceAdd, Nat.reduceMul, Nat.reduceSub, Nat.reduceLeDiff, Nat.reduceEqDiff, Nat.reduceLT, Nat.reduceBEq, ↓reduceIte, Int.reduceLE, Int.reduceLT, Int.reduceToNat, Int.reduceNeg, reduceCtorEq, Int.reduceEq, SF0, SF1, SF2, DCrd0, DCqa0, DCqa1, DCqa2, DCe0, DCe1, DCe2, DDb0, DBc0, DBc1, DLa0, DCg0, DCqk0, DCpd0, DCrk0, DAlh0]
    refine acall_nrm ?_
    simp only [List.map_cons, List.map_nil, AV.nrm]
    refine acall_one HE rfl rfl ?_
    simp (disch := omega) only [SX0, SX1, SX2, SX3, SX4, SX5, SX6, SX7, SX8, SU0, SY0, SY1, Nat.reduceAdd, Nat.reduceMul, Nat.reduceSub, Nat.reduceLeDiff, Nat.reduceEqDiff, Nat.reduceLT, Nat.reduceBEq, ↓reduceIte, Int.reduceLE, Int.reduceLT, Int.reduceToNat, Int.reduceNeg, reduceCtorEq, Int.reduceEq, SF0, SF1, SF2, DCrd0, DCqa0, DCqa1, DCqa2, DCe0, DCe1, DCe2, DDb0, DBc0, DBc1, DLa0, DCg0, DCqk0, DCpd0, DCrk0, DAlh0]
    refine br_dec (fun h => by omega) (fun h => ?_)
    simp (disch := omega) only [SX0, SX1, SX2, SX3, SX4, SX5, SX6, SX7, SX8, SU0, SY0, SY1, Nat.reduceAdd, Nat.reduceMul, Nat.reduceSub, Nat.reduceLeDiff, Nat.reduceEqDiff, Nat.reduceLT, Nat.reduceBEq, ↓reduceIte, Int.reduceLE, Int.reduceLT, Int.reduceToNat, Int.reduceNeg, reduceCtorEq, Int.reduceEq, SF0, SF1, SF2, DCrd0, DCqa0, DCqa1, DCqa2, DCe0, DCe1, DCe2, DDb0, DBc0, DBc1, DLa0, DCg0, DCqk0, DCpd0, DCrk0, DAlh0]
    exact fin_val ⟨rfl, rfl⟩
end Go.Pc
